/- testamurlaw23.LeakageWhole: the walk. Written by genlawW.py and genty.py. -/
import Derived.Test.YtkgmonplcdnnbaaGreatPb38
namespace Go.Proofs.YtkgmonplcdnnbaaGreat
open Go.RowKit Go.Shelf
set_option maxHeartbeats 16000000 in
set_option maxRecDepth 100000 in
theorem whole23_any (A1 A2 A3 A4 A5 A6 : Option Addr) (n1 c1 n2 c2 n3 c3 n4 c4 n5 c5 n6 c6 : Nat) (A7 : Option Addr) (n7 c7 : Nat) (ck : Int) (ss : List QSchema) (FA VA : Option Addr) (nf cf nv cv : Nat) (sc : Int) (F V : List Int) (value : Int) (w : World) (hkn : Known (.agg #[.slice A1 n1 c1, .slice A2 n2 c2, .slice A3 n3 c3, .slice A4 n4 c4, .slice A5 n5 c5, .slice A6 n6 c6, .slice A7 n7 c7]) (.agg #[.slice A1 n1 c1, .slice A2 n2 c2, .slice A3 n3 c3, .slice A4 n4 c4, .slice A5 n5 c5, .slice A6 n6 c6, .slice A7 n7 c7]) ck ss w) (hF : SlR 1 intR w (.slice FA nf cf) F) (hV : SlR 1 intR w (.slice VA nv cv) V) (hvi : isI64 value) (hW : ck = 0 → WholeOk ss) :
    Calls Tryz.prog 7 #[.agg #[.slice A1 n1 c1, .slice A2 n2 c2, .slice A3 n3 c3, .slice A4 n4 c4, .slice A5 n5 c5, .slice A6 n6 c6, .slice A7 n7 c7], .agg #[.int .i64 sc, .slice FA nf cf, .slice VA nv cv], .int .i64 value] w fun e w' => e = .returned (.bool true) ∧ Below w.heap.size w w' := by
  have hn : nf ≤ 9223372036854775807 := ck_isI64 hF
  have hm : nv ≤ 9223372036854775807 := ck_isI64 hV
  have HNV := Lib.hid hV.len
  have HNF := Lib.hid hF.len
  have HF := Lib.hid hF
  have HV := Lib.hid hV
  have HKN := Lib.hid hkn
  have HWE := Lib.hid hW
  have HVI := Lib.hid hvi
  clear hF hV hkn hW hvi
  have HBB : Hid (Below w.heap.size w ((w.alloc (.cells #[.slice A1 n1 c1, .slice A2 n2 c2, .slice A3 n3 c3, .slice A4 n4 c4, .slice A5 n5 c5, .slice A6 n6 c6, .slice A7 n7 c7] 32)).alloc (.cells #[.int .i64 sc, .slice FA nf cf, .slice VA nv cv] 42))) := Lib.hid (((Below.refl _ _).alloc (Nat.le_refl _) _).alloc (by simp) _)
  have HK0 : Hid (Blk ((w.alloc (.cells #[.slice A1 n1 c1, .slice A2 n2 c2, .slice A3 n3 c3, .slice A4 n4 c4, .slice A5 n5 c5, .slice A6 n6 c6, .slice A7 n7 c7] 32)).alloc (.cells #[.int .i64 sc, .slice FA nf cf, .slice VA nv cv] 42)) w.heap.size 32 #[.slice A1 n1 c1, .slice A2 n2 c2, .slice A3 n3 c3, .slice A4 n4 c4, .slice A5 n5 c5, .slice A6 n6 c6, .slice A7 n7 c7]) := Lib.hid ((Blk.new _ _ _).alloc _)
  have HK1 : Hid (Blk ((w.alloc (.cells #[.slice A1 n1 c1, .slice A2 n2 c2, .slice A3 n3 c3, .slice A4 n4 c4, .slice A5 n5 c5, .slice A6 n6 c6, .slice A7 n7 c7] 32)).alloc (.cells #[.int .i64 sc, .slice FA nf cf, .slice VA nv cv] 42)) (w.heap.size + 1) 42 #[.int .i64 sc, .slice FA nf cf, .slice VA nv cv]) := Lib.hid (blk_new2 _ _ _ _)
  go_enter Tryz.func7, Tryz.ntmps7
  go_upto_region 1 with fail
  generalize (w.alloc (.cells #[.slice A1 n1 c1, .slice A2 n2 c2, .slice A3 n3 c3, .slice A4 n4 c4, .slice A5 n5 c5, .slice A6 n6 c6, .slice A7 n7 c7] 32)).alloc (.cells #[.int .i64 sc, .slice FA nf cf, .slice VA nv cv] 42) = wb at *
  obtain ⟨gc, hgc⟩ : ∃ g, g = w.heap.size + 1 := ⟨_, rfl⟩
  rw [← hgc] at HK1 ⊢
  clear hgc
  obtain ⟨ga, hga⟩ : ∃ g, g = w.heap.size := ⟨_, rfl⟩
  rw [← hga] at HK0 ⊢
  clear hga
  have HT : Hid (∀ W, Below wb.heap.size wb W → ga < W.heap.size ∧ W.cell? ⟨ga, 0, none⟩ = some (.slice A1 n1 c1) ∧ W.cell? ⟨ga, 1, none⟩ = some (.slice A2 n2 c2) ∧ W.cell? ⟨ga, 2, none⟩ = some (.slice A3 n3 c3) ∧ W.cell? ⟨ga, 3, none⟩ = some (.slice A4 n4 c4) ∧ W.cell? ⟨ga, 4, none⟩ = some (.slice A5 n5 c5) ∧ W.cell? ⟨ga, 5, none⟩ = some (.slice A6 n6 c6) ∧ W.cell? ⟨ga, 6, none⟩ = some (.slice A7 n7 c7) ∧ gc < W.heap.size ∧ W.cell? ⟨gc, 0, none⟩ = some (.int .i64 sc) ∧ W.cell? ⟨gc, 1, none⟩ = some (.slice FA nf cf) ∧ W.cell? ⟨gc, 2, none⟩ = some (.slice VA nv cv)) := Lib.hid (fun W hW => by
    have h := HK0.out.below hW HK0.out.lt
    have k := HK1.out.below hW HK1.out.lt
    exact ⟨h.lt, h.cell 0, h.cell 1, h.cell 2, h.cell 3, h.cell 4, h.cell 5, h.cell 6, k.lt, k.cell 0, k.cell 1, k.cell 2⟩)
  clear HK0 HK1
  go_wp2_with (go_at_call 9; refine (sane23_any wb).mono ?_)
  rintro e w1 ⟨rfl, hb1⟩
  have HB1 := Lib.hid hb1
  have HBW1 := Lib.hid (HBB.out.trans (hb1.mono HBB.out.size))
  obtain ⟨lg, q0, q1, q2, q3, q4, q5, q6, lc, r0, r1, r2⟩ := HT.out w1 hb1
  clear hb1
  go_wp2_with (go_at_call 10; refine (HKN.out.few w1 HBW1.out).mono ?_)
  rintro e w2 ⟨⟨v0, rfl⟩, hb2⟩
  have HB2 := Lib.hid (HB1.out.trans (hb2.mono HB1.out.size))
  have HBW2 := Lib.hid (HBB.out.trans (HB2.out.mono HBB.out.size))
  clear hb2 lg q0 q1 q2 q3 q4 q5 q6 lc r0 r1 r2
  cases v0 with
  | false =>
    go_wp2_with fail
    go_ret
    exact ⟨rfl, HBW2.out⟩
  | true =>
  obtain ⟨lg, q0, q1, q2, q3, q4, q5, q6, lc, r0, r1, r2⟩ := HT.out w2 HB2.out
  obtain ⟨fa, hfa⟩ : ∃ v, fewP [⟨sc, F, V⟩] = v := ⟨_, rfl⟩
  have HFA := Lib.hid (few_one FA VA nf cf nv cv ⟨sc, F, V⟩ w2 (HF.out.mono intR_mono HBW2.out) (HV.out.mono intR_mono HBW2.out))
  rw [hfa] at HFA
  clear hfa
  go_wp2_with (go_at_call 11; refine HFA.out.mono ?_; clear HFA)
  rintro e w3 ⟨rfl, hb3⟩
  have HB3 := Lib.hid (HB2.out.trans (hb3.mono HB2.out.size))
  have HBW3 := Lib.hid (HBB.out.trans (HB3.out.mono HBB.out.size))
  clear hb3 lg q0 q1 q2 q3 q4 q5 q6 lc r0 r1 r2
  cases fa with
  | false =>
    go_wp2_with fail
    go_ret
    exact ⟨rfl, HBW3.out⟩
  | true =>
  obtain ⟨lg, q0, q1, q2, q3, q4, q5, q6, lc, r0, r1, r2⟩ := HT.out w3 HB3.out
  obtain ⟨ew, hew⟩ : ∃ e, wholeE ck ss sc F nv = e := ⟨_, rfl⟩
  obtain ⟨lw, hlw⟩ : ∃ e, wholeL ck ss sc F nv = e := ⟨_, rfl⟩
  obtain ⟨lv, hlv⟩ : ∃ e, ofL ck ss [⟨sc, F, V⟩] = e := ⟨_, rfl⟩
  have HEW := Lib.hid hew
  have HLW := Lib.hid hlw
  have HLV := Lib.hid hlv
  have HOA := Lib.hid (HKN.out.whole sc FA VA nf cf nv cv F w3 HBW3.out (HF.out.mono intR_mono HBW3.out) (by omega))
  rw [hew, hlw] at HOA
  go_wp2_with (go_at_call 14; refine HOA.out.mono ?_; clear HOA)
  rintro e w4 ⟨v, rfl, hv, hb4⟩
  obtain ⟨XA, nx, xc, rfl, hnx⟩ := slR_formN hv
  have HNX := Lib.hid hnx
  have HX4 := Lib.hid hv
  have HB4 := Lib.hid (HB3.out.trans (hb4.mono HB3.out.size))
  have HBW4 := Lib.hid (HBB.out.trans (HB4.out.mono HBB.out.size))
  clear hv hb4 hnx lg q0 q1 q2 q3 q4 q5 q6 lc r0 r1 r2
  obtain ⟨lg, q0, q1, q2, q3, q4, q5, q6, lc, r0, r1, r2⟩ := HT.out w4 HB4.out
  have HOA := Lib.hid (HKN.out.of_one FA VA nf cf nv cv ⟨sc, F, V⟩ w4 HBW4.out (HF.out.mono intR_mono HBW4.out) (HV.out.mono intR_mono HBW4.out))
  simp only [] at HOA
  rw [hew, hlv] at HOA
  clear hew hlw hlv
  go_wp2_with (go_at_call 12; refine HOA.out.mono ?_; clear HOA)
  rintro e w5 ⟨v, rfl, hv, hb5⟩
  obtain ⟨YA, ny, yc, rfl, hny⟩ := slR_formN hv
  have HNY := Lib.hid hny
  have HV5 := Lib.hid hv
  have HX5 := Lib.hid (HX4.out.mono iR_mono hb5)
  have HB5 := Lib.hid (HB4.out.trans (hb5.mono HB4.out.size))
  have HBW5 := Lib.hid (HBB.out.trans (HB5.out.mono HBB.out.size))
  clear hv hb5 hny lg q0 q1 q2 q3 q4 q5 q6 lc r0 r1 r2
  clear HB1 HB2 HB3 HBW1 HBW2 HBW3 HB4 HBW4 HX4
  by_cases e0 : ew = 0
  case neg =>
    obtain rfl : nx = 0 := by rw [HNX.out, ← HLW.out, wholeL_no (fun h => e0 (HEW.out.symm.trans h))]; rfl
    obtain rfl : ny = 0 := by rw [HNY.out, ← HLV.out, ofL_no (fun h => e0 (by rw [← HEW.out, HNV.out]; exact (ofE_sing ⟨sc, F, V⟩).symm.trans h))]; rfl
    go_wp2_with fail
    go_ret
    exact ⟨rfl, HBW5.out⟩
  case pos =>
  subst e0
  obtain ⟨hck, hfit⟩ := wholeE_parts HEW.out
  subst hck
  obtain ⟨hin, hsm, hag⟩ := HWE.out rfl ⟨sc, F, V⟩ (by rw [← HNV.out]; exact hfit)
  rw [← HNV.out, HLW.out] at hin hsm hag
  have HIN := Lib.hid hin
  have HSM := Lib.hid hsm
  have HAG := Lib.hid hag
  have hnx : nx ≤ 1000 := by rw [HNX.out]; exact hsm.1
  clear hin hsm hag hfit HWE
  have hmk := fun W => run_makeInts nx hnx W
  obtain ⟨lg, q0, q1, q2, q3, q4, q5, q6, lc, r0, r1, r2⟩ := HT.out w5 HB5.out
  go_upto_region 9 with fail
  go_cut [11] from 57 (fun v11 wx => ∃ gs gm, v11 = .pointer (some ⟨gm, 0, none⟩) ∧ gs ≠ gm ∧ w5.heap.size ≤ gs ∧ w5.heap.size ≤ gm ∧ Blk wx gs 3 (Array.replicate nx (Value.int .i64 0)) ∧ Blk wx gm 42 #[.int .i64 sc, .slice XA nx xc, .slice (some ⟨gs, 0, none⟩) nx nx] ∧ Below w5.heap.size w5 wx)
  case first =>
    go_region
    all_goals
      go_wp2_with fail
      go_meet
      first
        | exact ⟨w5.heap.size, w5.heap.size + 1, rfl, by omega, Nat.le_refl _, by omega, blk_drew ((Blk.new _ _ _).alloc _), blk_drew (blkNew (by simp)), (((Below.refl _ _).alloc (Nat.le_refl _) _).alloc (by simp) _).drew⟩
        | exact ⟨w5.heap.size + 1, w5.heap.size, rfl, by omega, by omega, Nat.le_refl _, blk_drew (blkNew (by simp)), blk_drew ((Blk.new _ _ _).alloc _), (((Below.refl _ _).alloc (Nat.le_refl _) _).alloc (by simp) _).drew⟩
  case rest =>
    obtain ⟨gs, gm, rfl, hne, hgs, hgm, hbs, hbm, hbx⟩ := hcut
    rw [rep_ints] at hbs
    have HBS := Lib.hid hbs
    have HBM := Lib.hid hbm
    have HBX := Lib.hid hbx
    have HNE := Lib.hid hne
    have HGS := Lib.hid hgs
    have HGM := Lib.hid hgm
    clear hbs hbm hbx hne hgs hgm hmk
    go_wp2_with fail
    go_loopg [12] nx (fun q i wr => ∃ (k : Nat) (us : List Int), k ≤ nx ∧ q = nx - k ∧ i = .int .i64 k ∧ us.length = nx ∧ (∀ y ∈ us, isI64 y) ∧ Blk wr gs 3 (us.map (Value.int .i64)).toArray ∧ Blk wr gm 42 #[.int .i64 sc, .slice XA nx xc, .slice (some ⟨gs, 0, none⟩) nx nx] ∧ Below w5.heap.size w5 wr)
    case atStart => exact ⟨0, List.replicate nx 0, Nat.zero_le _, rfl, rfl, by simp, fun y hy => by rw [List.eq_of_mem_replicate hy]; exact i64_small (by omega), HBS.out, HBM.out, HBX.out⟩
    case round =>
      clear HBS HBM HBX
      obtain ⟨k, us, hk, hq, rfl, hus, hui, hbs, hbm, hb⟩ := hrel
      have HQ := Lib.hid hq
      have HUS := Lib.hid hus
      have HUI := Lib.hid hui
      have HBS := Lib.hid hbs
      have HBM := Lib.hid hbm
      have HBR := Lib.hid hb
      clear hq hus hui hbs hbm hb
      by_cases hlt : k < nx
      · obtain ⟨u, hu⟩ : ∃ v, us[k]? = some v := ⟨us[k]'(by have := HUS.out; omega), List.getElem?_eq_getElem _⟩
        have cu : wr.cell? ⟨gs, k, none⟩ = some (.int .i64 u) := by rw [HBS.out.cell]; simp [hu]
        have fu := HBS.out.frozen k
        have lu := HBS.out.lt
        obtain ⟨m0, m1, m2⟩ := HBM.out.three
        have lm := HBM.out.lt
        have hkn : (k : Int) < (nx : Int) := by omega
        have hk0 : (0 : Int) ≤ (k : Int) := by omega
        clear hu
        go_wp2_with fail
        go_roundg (nx - (k + 1))
        case measure => have := HQ.out; omega
        case rel => exact ⟨k + 1, us.set k value, by omega, rfl, by go_num, by rw [List.length_set]; exact HUS.out, fun y hy => by
            rcases List.mem_or_eq_of_mem_set hy with h | h
            · exact HUI.out y h
            · exact h ▸ HVI.out, blk_setInt HBS.out, HBM.out.far (by simp; exact HNE.out.symm) _, HBR.out.setCell (by have := HGS.out; simpa using this) _⟩
      · obtain rfl : k = nx := by omega
        obtain ⟨g1, g2, g3, g4⟩ := HAG.out ⟨sc, lw, us⟩ rfl rfl (by show us.length = lw.length; rw [HUS.out, HNX.out])
        simp only [HUS.out] at g3 g4
        rw [HLV.out] at g2
        have HBW : Hid (Below w.heap.size w wr) := Lib.hid (HBW5.out.trans (HBR.out.mono HBW5.out.size))
        have HBB5 : Hid (Below wb.heap.size wb wr) := Lib.hid (HB5.out.trans (HBR.out.mono HB5.out.size))
        have HXI := Lib.hid (ints_of_i (HX5.out.mono iR_mono HBR.out) (fun y hy => i64_small (HSM.out.2 y hy)))
        have HUR := Lib.hid (slI_of_blk HBS.out HUS.out hnx HUI.out)
        have HWh := Lib.hid (HKN.out.whole sc XA (some ⟨gs, 0, none⟩) k xc k k lw wr HBW.out HXI.out (by omega))
        rw [g3, g4] at HWh
        have HCM := HBM
        obtain ⟨m0, m1, m2⟩ := HBM.out.three
        have lm := HBM.out.lt
        obtain ⟨lg, q0, q1, q2, q3, q4, q5, q6, lc, r0, r1, r2⟩ := HT.out wr HBB5.out
        clear r0 r1 r2
        have HV6 := Lib.hid (HV5.out.mono iR_mono HBR.out)
        have HX6 := Lib.hid (HX5.out.mono iR_mono HBR.out)
        clear HBS HUI HBR HV5 HX5 HB5 HBW5 HSM HAG
        go_wp2_with (go_at_call 14; refine HWh.out.mono ?_; clear HWh)
        rintro e w6 ⟨v, rfl, hv, hb6⟩
        obtain ⟨ZA, nz, zc, rfl, hnz⟩ := slR_formN hv
        have HZ := Lib.hid hv
        have HBW6 := Lib.hid (HBW.out.trans (hb6.mono HBW.out.size))
        have HB6 := Lib.hid (HBB5.out.trans (hb6.mono HBB5.out.size))
        have HXJ := Lib.hid (HXI.out.mono intR_mono hb6)
        have HUJ := Lib.hid (HUR.out.mono intR_mono hb6)
        have HV7 := Lib.hid (HV6.out.mono iR_mono hb6)
        have HX7 := Lib.hid (HX6.out.mono iR_mono hb6)
        clear lg q0 q1 q2 q3 q4 q5 q6 lc m0 m1 m2 lm
        obtain ⟨m0, m1, m2⟩ := (HCM.out.below hb6 HCM.out.lt).three
        have lm := (HCM.out.below hb6 HCM.out.lt).lt
        obtain ⟨lg, q0, q1, q2, q3, q4, q5, q6, lc, r0, r1, r2⟩ := HT.out w6 HB6.out
        clear r0 r1 r2
        have HOA := Lib.hid (HKN.out.of_one XA (some ⟨gs, 0, none⟩) k xc k k ⟨sc, lw, us⟩ w6 HBW6.out HXJ.out HUJ.out)
        simp only [] at HOA
        rw [g3, g2] at HOA
        clear hv hb6 hnz HCM HV6 HX6 HXI HUR g1 g2 g3 g4
        go_wp2_with (go_at_call 12; refine HOA.out.mono ?_; clear HOA)
        rintro e w7 ⟨v, rfl, hv, hb7⟩
        obtain ⟨WA, nw, wc7, rfl, hnw⟩ := slR_formN hv
        have HW8 := Lib.hid hv
        have HZ8 := Lib.hid (HZ.out.mono iR_mono hb7)
        have HV8 := Lib.hid (HV7.out.mono iR_mono hb7)
        have HX8 := Lib.hid (HX7.out.mono iR_mono hb7)
        have HBW7 := Lib.hid (HBW6.out.trans (hb7.mono HBW6.out.size))
        have HB7 := Lib.hid (HB6.out.trans (hb7.mono HB6.out.size))
        clear hv hb7 hnw lg q0 q1 q2 q3 q4 q5 q6 lc m0 m1 m2 lm HZ HV7 HX7 HXJ HUJ HB6 HBW6 HBB5 HBW
        obtain ⟨lg, q0, q1, q2, q3, q4, q5, q6, lc, r0, r1, r2⟩ := HT.out w7 HB7.out
        clear q0 q1 q2 q3 q4 q5 q6 r0 r2
        go_wp2_with fail
        go_loopg [17] nf (fun q i wr => ∃ k : Nat, k ≤ nf ∧ q = nf - k ∧ i = .int .i64 k ∧ Below w7.heap.size w7 wr)
        case atStart => exact ⟨0, Nat.zero_le _, rfl, rfl, Below.refl _ _⟩
        case round =>
          clear lg lc r1
          obtain ⟨j, hj, hq, rfl, hb⟩ := hrel
          have HQ := Lib.hid hq
          have HBR := Lib.hid hb
          have HB9 := Lib.hid (HB7.out.trans (hb.mono HB7.out.size))
          have HBW9 := Lib.hid (HBW7.out.trans (hb.mono HBW7.out.size))
          obtain ⟨lg, q0, q1, q2, q3, q4, q5, q6, lc, r0, r1, r2⟩ := HT.out wr HB9.out
          clear hq hb q0 q1 q2 q3 q4 q5 q6 r0 r2
          by_cases hlt : j < nf
          · obtain ⟨b1, o1, f, rfl, hbl, hf, hfc, _, _⟩ := ints_at (HF.out.mono intR_mono HBW9.out) hlt
            have HH : Hid (Calls Tryz.prog 21 #[.slice XA k xc, .int .i64 f] wr fun e w' => e = .returned (.bool true) ∧ Below wr.heap.size wr w') := Lib.hid (by
              have := has23_any XA k xc f lw wr (HX8.out.mono iR_mono HBR.out)
              rwa [show lw.contains f = true from by simpa using HIN.out f (List.mem_of_getElem? hf)] at this)
            have hjn : (j : Int) < (nf : Int) := by omega
            have hj0 : (0 : Int) ≤ (j : Int) := by omega
            clear hf
            go_wp2_with (go_at_call 21; refine HH.out.mono ?_; clear HH)
            rintro e w10 ⟨rfl, hb10⟩
            have HB10 := Lib.hid (HBR.out.trans (hb10.mono HBR.out.size))
            clear hb10
            go_wp2_with fail
            go_roundg (nf - (j + 1))
            case measure => have := HQ.out; omega
            case rel => exact ⟨j + 1, by omega, rfl, by go_num, HB10.out⟩
          · obtain rfl : j = nf := by omega
            have HS1 : Hid (Calls Tryz.prog 16 #[.slice XA k xc, .slice ZA nz zc] wr fun e w' => e = .returned (.bool true) ∧ Below wr.heap.size wr w') := Lib.hid (by
              have := sameInts23_any XA ZA k xc nz zc lw lw wr (HX8.out.mono iR_mono HBR.out) (HZ8.out.mono iR_mono HBR.out)
              rwa [sameL_self] at this)
            go_wp2_with (go_at_call 16; refine HS1.out.mono ?_; clear HS1)
            rintro e w10 ⟨rfl, hb10⟩
            have HB10 := Lib.hid (HBR.out.trans (hb10.mono HBR.out.size))
            have HBW10 := Lib.hid (HBW9.out.trans (hb10.mono HBW9.out.size))
            have HS2 : Hid (Calls Tryz.prog 16 #[.slice YA ny yc, .slice WA nw wc7] w10 fun e w' => e = .returned (.bool true) ∧ Below w10.heap.size w10 w') := Lib.hid (by
              have := sameInts23_any YA WA ny yc nw wc7 lv lv w10 (HV8.out.mono iR_mono HB10.out) (HW8.out.mono iR_mono HB10.out)
              rwa [sameL_self] at this)
            clear hb10
            go_wp2_with (go_at_call 16; refine HS2.out.mono ?_; clear HS2)
            rintro e w11 ⟨rfl, hb11⟩
            go_wp2_with fail
            go_ret
            exact ⟨rfl, HBW10.out.trans (hb11.mono HBW10.out.size)⟩
end Go.Proofs.YtkgmonplcdnnbaaGreat
