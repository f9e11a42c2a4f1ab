/- The law DependsSound returns true. -/
import Derived.Test.YtejjggchjoifoaaDepR5
import Derived.Test.YtejjggchjoifoaaDepR6
import Derived.Test.YtejjggchjoifoaaDepLawD
namespace Go.Proofs.Ytejjggchjoifoaa
open Go.RowKit

/-- The law's world: the schema's and the dependency's boxes stand. -/
structure SqW (w : World) (p q : Nat) (sc dc : Array Value) (W : World) : Prop where
  old : Below w.heap.size w W
  bs : Blk W p 25 sc
  bd : Blk W q 29 dc
theorem SqW.below {w : World} {p q : Nat} {sc dc : Array Value} {W W' : World} (h : SqW w p q sc dc W) (hb : Below W.heap.size W W') : SqW w p q sc dc W' :=
  ⟨h.old.trans (hb.mono h.old.size), h.bs.below hb h.bs.lt, h.bd.below hb h.bd.lt⟩
theorem SqW.ten {w : World} {p q : Nat} {v0 v1 v2 v3 v4 v5 u0 u1 u2 u3 : Value} {W : World} (h : SqW w p q #[v0, v1, v2, v3, v4, v5] #[u0, u1, u2, u3] W) :
    W.cell? ⟨p, 0, none⟩ = some v0 ∧ W.cell? ⟨p, 1, none⟩ = some v1 ∧ W.cell? ⟨p, 2, none⟩ = some v2 ∧ W.cell? ⟨p, 3, none⟩ = some v3 ∧ W.cell? ⟨p, 4, none⟩ = some v4 ∧ W.cell? ⟨p, 5, none⟩ = some v5 ∧
    W.cell? ⟨q, 0, none⟩ = some u0 ∧ W.cell? ⟨q, 1, none⟩ = some u1 ∧ W.cell? ⟨q, 2, none⟩ = some u2 ∧ W.cell? ⟨q, 3, none⟩ = some u3 ∧ p < W.heap.size ∧ q < W.heap.size :=
  ⟨h.bs.cell 0, h.bs.cell 1, h.bs.cell 2, h.bs.cell 3, h.bs.cell 4, h.bs.cell 5, h.bd.cell 0, h.bd.cell 1, h.bd.cell 2, h.bd.cell 3, h.bs.lt, h.bd.lt⟩

set_option maxHeartbeats 2000000 in
theorem sound_law (s1 s2 : ByteArray) (i1 i2 : Int) (fA dA : Option Addr) (nf fc nd dc : Nat) (ds : List Dep) (A : Option Addr) (ln c : Nat) (l : List Inst) (nA B : Option Addr) (nn nc m k : Nat) (s : ByteArray) (d : Dep) (w : World)
    (hnf : nf ≤ 9223372036854775807) (hs : SlR 4 depR w (.slice dA nd dc) ds) (hl : SlR 4 instR w (.slice A ln c) l) (hd : SlR 1 intR w (.slice B m k) d.src) :
    Calls Try.prog 6 #[.agg #[.string s1, .string s2, .int .i64 i1, .int .i64 i2, .slice fA nf fc, .slice dA nd dc], .slice A ln c, .agg #[.slice nA nn nc, .string s, .slice B m k, .int .i64 d.dst]] w (Ret (.bool true) w) := by
  have hln : ln ≤ 9223372036854775807 ∧ ln ≤ c ∧ c ≤ 9223372036854775807 := by have := hl.le; omega
  obtain ⟨hln, hlc, hc2⟩ := hln
  have hm2 : m ≤ 9223372036854775807 := by have := hd.le; omega
  have HS := Lib.hid hs
  have HL := Lib.hid hl
  have HD := Lib.hid hd
  have HLN := Lib.hid hl.len
  clear hs hl hd
  go_enter Try.func6, Try.ntmps6
  go_wp2_with fail
  refine (sane_any _).mono ?_
  rintro e w3 ⟨rfl, hb3⟩
  have hsp : SqW w w.heap.size (w.heap.size + 1) #[.string s1, .string s2, .int .i64 i1, .int .i64 i2, .slice fA nf fc, .slice dA nd dc] #[.slice nA nn nc, .string s, .slice B m k, .int .i64 d.dst] w3 :=
    (SqW.mk (((Below.refl _ _).alloc (Nat.le_refl _) _).alloc (by simp) _) ((Blk.new _ _ _).alloc _) (Blk.new1 _ _ _ _)).below hb3
  clear hb3
  obtain ⟨p, hp⟩ : ∃ p, p = w.heap.size := ⟨_, rfl⟩
  obtain ⟨q, hq'⟩ : ∃ q, q = w.heap.size + 1 := ⟨_, rfl⟩
  rw [← hq', ← hp] at hsp ⊢
  clear hp hq'
  obtain ⟨q0, q1, q2, q3, q4, q5, c0, c1, c2, c3, lp, lq⟩ := hsp.ten
  have H3 := Lib.hid hsp
  clear hsp
  go_wp2_with fail
  refine (few_any s1 s2 i1 i2 fA dA nf fc nd dc ds _ hnf (HS.out.mono depR_mono H3.out.old)).mono ?_
  rintro e w4 ⟨rfl, hb4⟩
  have hsp := H3.out.below hb4
  clear q0 q1 q2 q3 q4 q5 c0 c1 c2 c3 lp lq H3
  obtain ⟨q0, q1, q2, q3, q4, q5, c0, c1, c2, c3, lp, lq⟩ := hsp.ten
  have H4 := Lib.hid hsp
  clear hsp hb4
  obtain ⟨fb, hfb⟩ : ∃ fb, fewB nf ds = fb := ⟨_, rfl⟩
  rw [hfb]
  clear hfb
  cases fb
  · go_wp2
    go_ret
    exact ⟨rfl, H4.out.old⟩
  go_wp2_with fail
  refine (fewI_any A ln c l _ (HL.out.mono instR_mono H4.out.old)).mono ?_
  rintro e w' ⟨rfl, rfl⟩
  obtain ⟨fb, hfb⟩ : ∃ fb, fewI l = fb := ⟨_, rfl⟩
  rw [hfb]
  clear hfb
  cases fb
  · go_wp2
    go_ret
    exact ⟨rfl, H4.out.old⟩
  by_cases h2 : 30 < m
  · go_wp2
    go_ret
    exact ⟨rfl, H4.out.old⟩
  go_wp2_with fail
  refine (Broken_any s1 s2 i1 i2 fA dA nf fc nd dc ds A ln c l _ hnf (HS.out.mono depR_mono H4.out.old) (HL.out.mono instR_mono H4.out.old)).mono ?_
  rintro e w5 ⟨rfl, hb5⟩
  have hsp := H4.out.below hb5
  clear q0 q1 q2 q3 q4 q5 c0 c1 c2 c3 lp lq H4
  obtain ⟨q0, q1, q2, q3, q4, q5, c0, c1, c2, c3, lp, lq⟩ := hsp.ten
  have H5 := Lib.hid hsp
  clear hsp hb5
  go_wp2_with fail
  refine (implied_any s1 s2 i1 i2 fA dA nf fc nd dc ds nA B nn nc m k s d _ hnf (HS.out.mono depR_mono H5.out.old) (HD.out.mono intR_mono H5.out.old)).mono ?_
  rintro e w6 ⟨rfl, hb6⟩
  have hsp := H5.out.below hb6
  clear q0 q1 q2 q3 q4 q5 c0 c1 c2 c3 lp lq H5
  obtain ⟨q0, q1, q2, q3, q4, q5, c0, c1, c2, c3, lp, lq⟩ := hsp.ten
  have H6 := Lib.hid hsp
  clear hsp hb6
  obtain ⟨ok1, ho1⟩ : ∃ b, brokenOk nf ds l = b := ⟨_, rfl⟩
  obtain ⟨ok2, ho2⟩ : ∃ b, (checkB nf ds && validB nf d) = b := ⟨_, rfl⟩
  obtain ⟨im, him⟩ : ∃ b, impB ds d = b := ⟨_, rfl⟩
  obtain ⟨st, hst⟩ : ∃ b, brokenS nf ds l = b := ⟨_, rfl⟩
  rw [ho1, ho2, him, hst]
  obtain ⟨a, b, dd, br⟩ := st
  by_cases hgo : ¬ (ok1 = true ∧ ok2 = true ∧ br = false ∧ im = true)
  · clear ho1 ho2 him hst
    cases ok1 <;> cases ok2 <;> cases br <;> cases im
    all_goals first
      | (exfalso; exact hgo ⟨rfl, rfl, rfl, rfl⟩)
      | (clear hgo
         simp only [eno, if_true, Bool.true_and, Bool.false_and, Bool.false_eq_true, if_false]
         go_wp2
         go_ret
         exact ⟨rfl, H6.out.old⟩)
  obtain ⟨rfl, rfl, rfl, rfl⟩ := Decidable.not_not.1 hgo
  clear hgo
  rw [Bool.and_eq_true] at ho2
  have HNB : Hid (∀ i j : Nat, j < i → i < ln → breaksB (instAt l i) (instAt l j) d = false) := fun i j h1 h3 =>
    sound_plain (insts_bd HL.out) ho1 (by rw [hst]) ho2.2 him h1 (by have := HLN.out; omega)
  have HOD := Lib.hid (validB_ok ho2.2)
  have HLEN : Hid (∀ x ∈ l, x.length = nf) := by
    unfold brokenOk at ho1
    rw [Bool.and_eq_true, List.all_eq_true] at ho1
    exact fun x hx => by simpa using ho1.2 x hx
  clear ho1 ho2 him hst
  simp only [eno, if_true, Bool.true_and]
  go_wp2_with fail
  clear q0 q1 q2 q3 q4 q5 c0 c1 c2 c3 lp lq
  go_loopg [64] ln (fun g i wr => ∃ i0 : Nat, i0 ≤ ln ∧ g = ln - i0 ∧ i = .int .i64 i0 ∧ SqW w p q #[.string s1, .string s2, .int .i64 i1, .int .i64 i2, .slice fA nf fc, .slice dA nd dc] #[.slice nA nn nc, .string s, .slice B m k, .int .i64 d.dst] wr)
  case atStart => exact ⟨0, Nat.zero_le _, rfl, rfl, H6.out⟩
  case round =>
    clear H6
    obtain ⟨i, hi, hg, rfl, hsp⟩ := hrel
    have HG := Lib.hid hg
    have H6 := Lib.hid hsp
    clear hg hsp
    by_cases hlt : i < ln
    · obtain ⟨xb, off, x, x1, x2, x3, xA, xn, xc, rfl, hxb, hx, e0, e1, e2, e3, hxs⟩ := inst_at (HL.out.mono instR_mono H6.out.old) hlt
      have HXS := Lib.hid hxs
      have HX := Lib.hid hx
      clear hxs hx
      have hic : (i : Int) ≤ (c : Int) := by omega
      go_wp2_with fail
      obtain ⟨wo, hwo⟩ : ∃ wo : World, wo = wr.alloc (.cells #[.int .i64 x1, .int .i64 x2, .int .i64 x3, .slice xA xn xc] 49) := ⟨_, rfl⟩
      have hblk : Blk wo wr.heap.size 49 #[.int .i64 x1, .int .i64 x2, .int .i64 x3, .slice xA xn xc] := by rw [hwo]; exact Blk.new _ _ _
      have hbw : Below wr.heap.size wr wo := by rw [hwo]; exact (Below.refl _ _).alloc (Nat.le_refl _) _
      rw [← hwo]
      clear hwo
      have H7 := Lib.hid (H6.out.below hbw)
      have HBX := Lib.hid hblk
      replace HXS := Lib.hid (HXS.out.mono intR_mono hbw)
      clear hblk hbw e0 e1 e2 e3 hxb H6
      go_loopg [73] i (fun g j wi => ∃ j0 : Nat, j0 ≤ i ∧ g = i - j0 ∧ j = .int .i64 j0 ∧ Below wo.heap.size wo wi)
      case atStart => exact ⟨0, Nat.zero_le _, rfl, rfl, Below.refl _ _⟩
      case round =>
        obtain ⟨j, hj, hg2, rfl, hbi⟩ := hrel
        have HG2 := Lib.hid hg2
        have H8 := Lib.hid (H7.out.below hbi)
        have HBX8 := Lib.hid (HBX.out.below hbi HBX.out.lt)
        have HBI := Lib.hid hbi
        clear hg2 hbi
        by_cases hlt2 : j < i
        · obtain ⟨yb, yoff, y, y1, y2, y3, yA, yn, yc, e0, hyb, hy, f0, f1, f2, f3, hys⟩ := inst_at (HL.out.mono instR_mono H8.out.old) (show j < ln by omega)
          injection e0 with e0
          injection e0 with e5 e6
          subst e5 e6
          obtain ⟨q0, q1, q2, q3, q4, q5, c0, c1, c2, c3, lp, lq⟩ := H8.out.ten
          obtain ⟨b0, b1, b2, b3⟩ := HBX8.out.four
          have lb := HBX8.out.lt
          have HYS := Lib.hid hys
          have HBR : Hid (breaksB x y d = false) := by
            have := HNB.out i j hlt2 hlt
            rw [instAt_of HX.out, instAt_of hy] at this
            exact this
          have HYL := Lib.hid (HLEN.out y (List.mem_of_getElem? hy))
          have HXL := Lib.hid (HLEN.out x (List.mem_of_getElem? HX.out))
          clear hys hy q0 q1 q2 q3 q4 q5
          go_wp2_with fail
          refine (lawBreaks_any _ _ _ _ _ _ _ _ _ _ _ _ _ _ _ _ _ _ _ x y d nf _ (HXS.out.mono intR_mono (HBI.out.alloc HBI.out.size _)) (HYS.out.mono intR_mono ((Below.refl _ _).alloc (Nat.le_refl _) _)) (HD.out.mono intR_mono (H8.out.old.alloc H8.out.old.size _)) HOD.out HXL.out HYL.out).mono ?_
          rintro e w9 ⟨rfl, hb9⟩
          rw [HBR.out]
          have HB9 := Lib.hid ((HBI.out.alloc HBI.out.size _).trans (hb9.mono (Nat.le_trans HBI.out.size (by simp))))
          clear hb9 c0 c1 c2 c3 lp lq b0 b1 b2 b3 lb f0 f1 f2 f3 hyb
          go_wp2_with fail
          go_roundg (i - (j + 1))
          case measure => have := HG2.out; omega
          case rel => exact ⟨j + 1, by omega, rfl, by go_num, HB9.out⟩
        · go_wp2_with fail
          go_roundg (ln - (i + 1))
          case measure => have := HG.out; omega
          case rel => exact ⟨i + 1, by omega, rfl, by go_num, H8.out⟩
    · go_wp2_with fail
      go_ret
      exact ⟨rfl, H6.out.old⟩

end Go.Proofs.Ytejjggchjoifoaa
