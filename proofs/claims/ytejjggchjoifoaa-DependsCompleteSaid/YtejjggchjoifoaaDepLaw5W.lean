/- The law DependsComplete returns true: the walk. -/
import Derived.Test.YtejjggchjoifoaaDepLaw5
import Derived.Test.YtejjggchjoifoaaDepApp
namespace Go.Proofs.Ytejjggchjoifoaa
open Go.RowKit

set_option maxHeartbeats 4000000 in
set_option maxRecDepth 100000 in
theorem complete_law (s1 s2 : ByteArray) (i1 i2 : Int) (fA dA : Option Addr) (nf fc nd dc : Nat) (ds : List Dep) (nA B : Option Addr) (nn nc m k : Nat) (s : ByteArray) (d : Dep) (v : Int) (w : World)
    (hnf : nf ≤ 9223372036854775807) (hs : SlR 4 depR w (.slice dA nd dc) ds) (hd : SlR 1 intR w (.slice B m k) d.src) (hv1 : -9223372036854775808 ≤ v) (hv2 : v ≤ 9223372036854775807) :
    Calls Try.prog 7 #[.agg #[.string s1, .string s2, .int .i64 i1, .int .i64 i2, .slice fA nf fc, .slice dA nd dc], .agg #[.slice nA nn nc, .string s, .slice B m k, .int .i64 d.dst], .int .i64 v] w (Ret (.bool true) w) := by
  have hm2 : m ≤ 9223372036854775807 := by have := hd.le; omega
  have HS := Lib.hid hs
  have HD := Lib.hid hd
  clear hs hd
  go_enter Try.func7, Try.ntmps7
  go_wp2_with fail
  refine (sane_any _).mono ?_
  rintro e w3 ⟨rfl, hb3⟩
  have hsp : SqW w w.heap.size (w.heap.size + 1) #[.string s1, .string s2, .int .i64 i1, .int .i64 i2, .slice fA nf fc, .slice dA nd dc] #[.slice nA nn nc, .string s, .slice B m k, .int .i64 d.dst] w3 :=
    (SqW.mk (((Below.refl _ _).alloc (Nat.le_refl _) _).alloc (by simp) _) ((Blk.new _ _ _).alloc _) (Blk.new1 _ _ _ _)).below hb3
  clear hb3
  obtain ⟨p, hp⟩ : ∃ p, p = w.heap.size := ⟨_, rfl⟩
  obtain ⟨q, hq'⟩ : ∃ q, q = w.heap.size + 1 := ⟨_, rfl⟩
  rw [← hq', ← hp] at hsp ⊢
  clear hp hq'
  obtain ⟨q0, q1, q2, q3, q4, q5, c0, c1, c2, c3, lp, lq⟩ := hsp.ten
  have H3 := Lib.hid hsp
  clear hsp
  go_wp2_with fail
  refine (few_any s1 s2 i1 i2 fA dA nf fc nd dc ds _ hnf (HS.out.mono depR_mono H3.out.old)).mono ?_
  rintro e w4 ⟨rfl, hb4⟩
  have hsp := H3.out.below hb4
  clear q0 q1 q2 q3 q4 q5 c0 c1 c2 c3 lp lq H3
  obtain ⟨q0, q1, q2, q3, q4, q5, c0, c1, c2, c3, lp, lq⟩ := hsp.ten
  have H4 := Lib.hid hsp
  clear hsp hb4
  obtain ⟨fb, hfb⟩ : ∃ fb, fewB nf ds = fb := ⟨_, rfl⟩
  rw [hfb]
  clear hfb
  cases fb
  · go_wp2
    go_ret
    exact ⟨rfl, H4.out.old⟩
  by_cases h2 : 30 < m
  · go_wp2
    go_ret
    exact ⟨rfl, H4.out.old⟩
  have t30 : decide ((30 : Int) < (m : Int)) = false := by simp; omega
  go_wp2_with fail
  refine (implied_any s1 s2 i1 i2 fA dA nf fc nd dc ds nA B nn nc m k s d _ hnf (HS.out.mono depR_mono H4.out.old) (HD.out.mono intR_mono H4.out.old)).mono ?_
  rintro e w5 ⟨rfl, hb5⟩
  have hsp := H4.out.below hb5
  clear q0 q1 q2 q3 q4 q5 c0 c1 c2 c3 lp lq H4
  obtain ⟨q0, q1, q2, q3, q4, q5, c0, c1, c2, c3, lp, lq⟩ := hsp.ten
  have H5 := Lib.hid hsp
  clear hsp hb5
  obtain ⟨ok2, ho2⟩ : ∃ b, (checkB nf ds && validB nf d) = b := ⟨_, rfl⟩
  rw [ho2]
  cases ok2
  · clear ho2
    simp only [eno, Bool.false_and, Bool.false_eq_true, if_false]
    go_wp2
    go_ret
    exact ⟨rfl, H5.out.old⟩
  rw [Bool.and_eq_true] at ho2
  have HCK := Lib.hid ho2.1
  have HVA := Lib.hid ho2.2
  have HOD := Lib.hid (validB_ok ho2.2)
  have HCO := Lib.hid (closOk_src ho2.1 (validB_ok ho2.2))
  have hn12 : nf ≤ 12 := (checkB_ok ho2.1).2.1
  clear ho2
  simp only [eno, if_true, Bool.true_and]
  obtain ⟨im, him⟩ : ∃ b, impB ds d = b := ⟨_, rfl⟩
  rw [him]
  have HIM := Lib.hid him
  clear him
  go_wp2_with fail
  refine (Closure_any s1 s2 i1 i2 fA dA nf fc nd dc ds B m k d.src _ hnf (HS.out.mono depR_mono H5.out.old) (HD.out.mono intR_mono H5.out.old)).mono ?_
  rintro e w6 ⟨x, rfl, hx, hb6⟩
  rw [HCO.out]
  have hsp := H5.out.below hb6
  clear q0 q1 q2 q3 q4 q5 c0 c1 c2 c3 lp lq H5
  obtain ⟨q0, q1, q2, q3, q4, q5, c0, c1, c2, c3, lp, lq⟩ := hsp.ten
  have H6 := Lib.hid hsp
  have HX := Lib.hid hx
  clear hsp hb6 hx
  obtain ⟨u, hu⟩ : ∃ u, u = bits .xor .i64 v 1 := ⟨_, rfl⟩
  obtain ⟨hne, hu1, hu2⟩ := xor1 v
  rw [← hu] at hne hu1 hu2
  have HPL := Lib.hid (complete_plain hne ⟨hv1, hv2⟩ ⟨hu1, hu2⟩ HCK.out HVA.out)
  have HU := Lib.hid hu
  clear hne hu
  generalize hL : closL nf ds d.src = L at HX HPL
  clear hL
  obtain ⟨X, cx, rfl⟩ := HX.out.form
  simp only [eno, if_true]
  obtain ⟨i0, hi, hz0, hz1, hz2⟩ := info_parts Try.infoInt
  go_wp2_with fail
  clear q0 q1 q2 q3 q4 q5 c0 c1 c2 c3 lp lq
  have HCM0 := Lib.hid (cm_start w6)
  go_loopg [56] nf (fun g i wr => ∃ (i0 : Nat) (va vb : Value), i0 ≤ nf ∧ g = nf - i0 ∧ i = .int .i64 i0 ∧ CmW w6 va vb (List.replicate i0 v) (twoL i0 L v u) wr)
  case atStart => exact ⟨0, _, _, Nat.zero_le _, rfl, rfl, HCM0.out⟩
  case round =>
    clear HCM0
    obtain ⟨i, va, vb, hin, hg, rfl, hcm⟩ := hrel
    have HG := Lib.hid hg
    have HCM := Lib.hid hcm
    clear hg
    by_cases hlt : i < nf
    · obtain ⟨b0, b1, b2, b3⟩ := hcm.ba.four
      have la := hcm.ba.lt
      clear hcm
      go_wp2_with (at_builtin; refine wpList_append_own_at _ rfl (.tmp 60) (.tmp 62) 26 rfl (w6.heap.size + 2) 3 i0 (.int .i64 0) 1 8 Try.underlying26 hi hz0 hz1 hz2 rfl (by decide) va _ _ rfl (HCM.out.alloc _).ra ⟨wr.heap.size, 0, none⟩ 1 1 [.int .i64 v] rfl rfl (cell_one_new _ _ _) (by simp [Value.oneCell']) (by simp [maxLen] <;> omega) (by simp <;> omega) (HCM.out.alloc _).size ?_; intro v' w7 hown' hgrow hnil hat; obtain ⟨nA', nn', nc', rfl⟩ := own_form hown'; obtain ⟨ce, fe⟩ := (HCM.out.alloc _).atA hgrow)
      have hcm := (HCM.out.alloc (.cells #[.int .i64 v] 3)).putA (x := v) (by simpa using hown') hgrow hat
      rw [← repl_succ] at hcm
      generalize w7.setCell ⟨w6.heap.size, 3, none⟩ (.slice nA' nn' nc') = w8 at hcm ⊢
      clear HCM hown' hgrow hnil hat ce fe b0 b1 b2 b3 la
      have HCM := Lib.hid hcm
      clear hcm
      refine (lawHas_any X _ cx L i _ (HX.out.mono intR_mono HCM.out.old)).mono ?_
      rintro e w' ⟨rfl, rfl⟩
      obtain ⟨b0, b1, b2, b3⟩ := HCM.out.bb.four
      have lb := HCM.out.bb.lt
      obtain ⟨tb, htb⟩ : ∃ tb, L.any (· == (i : Int)) = tb := ⟨_, rfl⟩
      rw [htb]
      have HTB := Lib.hid htb
      clear htb
      cases tb
      · have hxu : bits .xor .i64 v 1 = u := HU.out.symm
        go_wp2_with (at_builtin; refine wpList_append_own_at _ rfl (.tmp 75) (.tmp 78) 26 rfl (w6.heap.size + 2) 3 i0 (.int .i64 0) 1 8 Try.underlying26 hi hz0 hz1 hz2 rfl (by decide) vb _ _ rfl (HCM.out.alloc _).rb ⟨w8.heap.size, 0, none⟩ 1 1 [.int .i64 u] rfl rfl (cell_one_new _ _ _) (by simp [Value.oneCell']) (by simp [maxLen, twoL] <;> omega) (by simp [twoL] <;> omega) (HCM.out.alloc _).size ?_; intro v' w7 hown' hgrow hnil hat; obtain ⟨nA', nn', nc', rfl⟩ := own_form hown'; obtain ⟨ce, fe⟩ := (HCM.out.alloc _).atB hgrow)
        have hcm := (HCM.out.alloc (.cells #[.int .i64 u] 3)).putB (x := u) (by simpa using hown') hgrow hat
        have he : twoL i L v u ++ [u] = twoL (i + 1) L v u := by rw [twoL_succ, HTB.out]; rfl
        rw [he] at hcm
        have HCM2 := Lib.hid hcm
        go_roundg (nf - (i + 1))
        case measure => have := HG.out; omega
        case rel => exact ⟨i + 1, _, _, by omega, rfl, by go_num, HCM2.out⟩
      · go_wp2_with (at_builtin; refine wpList_append_own_at _ rfl (.tmp 69) (.tmp 71) 26 rfl (w6.heap.size + 2) 3 i0 (.int .i64 0) 1 8 Try.underlying26 hi hz0 hz1 hz2 rfl (by decide) vb _ _ rfl (HCM.out.alloc _).rb ⟨w8.heap.size, 0, none⟩ 1 1 [.int .i64 v] rfl rfl (cell_one_new _ _ _) (by simp [Value.oneCell']) (by simp [maxLen, twoL] <;> omega) (by simp [twoL] <;> omega) (HCM.out.alloc _).size ?_; intro v' w7 hown' hgrow hnil hat; obtain ⟨nA', nn', nc', rfl⟩ := own_form hown'; obtain ⟨ce, fe⟩ := (HCM.out.alloc _).atB hgrow)
        have hcm := (HCM.out.alloc (.cells #[.int .i64 v] 3)).putB (x := v) (by simpa using hown') hgrow hat
        have he : twoL i L v u ++ [v] = twoL (i + 1) L v u := by rw [twoL_succ, HTB.out]; rfl
        rw [he] at hcm
        have HCM2 := Lib.hid hcm
        go_roundg (nf - (i + 1))
        case measure => have := HG.out; omega
        case rel => exact ⟨i + 1, _, _, by omega, rfl, by go_num, HCM2.out⟩
    · have hie : i = nf := by omega
      subst hie
      obtain ⟨a0, a1, a2, a3⟩ := hcm.ba.four
      obtain ⟨b0, b1, b2, b3⟩ := hcm.bb.four
      have la := hcm.ba.lt
      have lb := hcm.bb.lt
      obtain ⟨aA, an, ac, rfl⟩ := own_form hcm.ra
      obtain ⟨bA, bn, bc, rfl⟩ := own_form hcm.rb
      have hsa : SlR 1 intR wr (.slice aA an ac) (List.replicate i v) := slR_of_own hcm.ra (fun x hx => by rw [(List.mem_replicate.1 hx).2]; exact ⟨hv1, hv2⟩)
      have hsb : SlR 1 intR wr (.slice bA bn bc) (twoL i L v u) := slR_of_own hcm.rb (fun x hx => by
        unfold twoL at hx
        rw [List.mem_map] at hx
        obtain ⟨j, _, rfl⟩ := hx
        split
        · exact ⟨hv1, hv2⟩
        · exact ⟨hu1, hu2⟩)
      have hsp := H6.out.below hcm.old
      obtain ⟨q0, q1, q2, q3, q4, q5, c0, c1, c2, c3, lp, lq⟩ := hsp.ten
      have H7 := Lib.hid hsp
      have HA := Lib.hid hsa
      have HB := Lib.hid hsb
      have HBA := Lib.hid hcm.ba
      have HBB := Lib.hid hcm.bb
      clear hsp hsa hsb hcm HG HCM H6 hi hz0 hz1 hz2
      obtain ⟨P1, P2, P3⟩ := HPL.out
      have HP1 := Lib.hid P1
      have HP2 := Lib.hid P2
      have HP3 := Lib.hid P3
      clear P1 P2 P3 HPL
      go_wp2_with fail
      have hba : Below wr.heap.size wr (wr.alloc (.cells #[.int .i64 0, .int .i64 0, .int .i64 0, .slice aA an ac, .int .i64 0, .int .i64 0, .int .i64 0, .slice bA bn bc] 49)) := (Below.refl _ _).alloc (Nat.le_refl _) _
      refine (Broken_any s1 s2 i1 i2 fA dA i fc nd dc ds (some ⟨wr.heap.size, 0, none⟩) 2 2 [List.replicate i v, twoL i L v u] _ hnf (HS.out.mono depR_mono (H7.out.below hba).old) (inst2_blk (Blk.new _ _ _) (HA.out.mono intR_mono hba) (HB.out.mono intR_mono hba))).mono ?_
      rintro e w8 ⟨rfl, hb8⟩
      rw [HP1.out, HP2.out]
      have hb9 : Below wr.heap.size wr w8 := hba.trans (hb8.mono (by simp))
      clear q0 q1 q2 q3 q4 q5 c0 c1 c2 c3 lp lq a0 a1 a2 a3 b0 b1 b2 b3 la lb hba hb8
      have hsp := H7.out.below hb9
      obtain ⟨q0, q1, q2, q3, q4, q5, c0, c1, c2, c3, lp, lq⟩ := hsp.ten
      have kba := HBA.out.below hb9 HBA.out.lt
      have kbb := HBB.out.below hb9 HBB.out.lt
      obtain ⟨a0, a1, a2, a3⟩ := kba.four
      obtain ⟨b0, b1, b2, b3⟩ := kbb.four
      have la := kba.lt
      have lb := kbb.lt
      have H8 := Lib.hid hsp
      replace HA := Lib.hid (HA.out.mono intR_mono hb9)
      replace HB := Lib.hid (HB.out.mono intR_mono hb9)
      clear hsp kba kbb hb9 H7 HBA HBB
      simp only [eno, if_true]
      go_wp2_with fail
      refine (lawBreaks_any _ _ _ _ _ _ _ _ _ _ _ _ _ _ _ _ _ _ _ (List.replicate i v) (twoL i L v u) d i _ HA.out HB.out (HD.out.mono intR_mono H8.out.old) HOD.out (by simp) (by simp [twoL])).mono ?_
      rintro e w9 ⟨rfl, hb9⟩
      rw [HP3.out, HIM.out]
      have H9 := Lib.hid (H8.out.below hb9)
      clear q0 q1 q2 q3 q4 q5 c0 c1 c2 c3 lp lq a0 a1 a2 a3 b0 b1 b2 b3 la lb hb9 H8
      cases im
      all_goals
        go_wp2
        go_ret
        exact ⟨rfl, H9.out.old⟩

end Go.Proofs.Ytejjggchjoifoaa
