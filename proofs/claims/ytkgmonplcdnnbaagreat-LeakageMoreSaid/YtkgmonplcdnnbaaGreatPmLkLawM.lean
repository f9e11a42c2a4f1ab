/- testamurlaw23.LeakageMore: the walk. Written by genlawM.py and genty.py. -/
import Derived.Test.YtkgmonplcdnnbaaGreatPmLkRg13
import Derived.Test.YtkgmonplcdnnbaaGreatPmLkRg15
import Derived.Test.YtkgmonplcdnnbaaGreatPmLkRg17
import Derived.Deep.CutRange
import Derived.BigQuiet
namespace Go.Proofs.YtkgmonplcdnnbaaGreat
open Go.RowKit Go.Shelf
set_option maxHeartbeats 16000000 in
set_option maxRecDepth 100000 in
theorem more23_any (A1 A2 A3 A4 A5 A6 : Option Addr) (n1 c1 n2 c2 n3 c3 n4 c4 n5 c5 n6 c6 : Nat) (A7 : Option Addr) (n7 c7 : Nat) (ck : Int) (ss : List QSchema) (FA VA : Option Addr) (nf cf nv cv : Nat) (sc : Int) (F V : List Int) (field value : Int) (w : World) (hkn : Known (.agg #[.slice A1 n1 c1, .slice A2 n2 c2, .slice A3 n3 c3, .slice A4 n4 c4, .slice A5 n5 c5, .slice A6 n6 c6, .slice A7 n7 c7]) (.agg #[.slice A1 n1 c1, .slice A2 n2 c2, .slice A3 n3 c3, .slice A4 n4 c4, .slice A5 n5 c5, .slice A6 n6 c6, .slice A7 n7 c7]) ck ss w) (h3 : SlB 6 96 qSchemaR w (.slice A3 n3 c3) ss) (hF : SlR 1 intR w (.slice FA nf cf) F) (hV : SlR 1 intR w (.slice VA nv cv) V) (hfi : isI64 field) (hvi : isI64 value) (hM : ck = 0 → MoreOk ss) (hW : ck = 0 → Weighed ss) :
 Calls Tryz.prog 5 #[.agg #[.slice A1 n1 c1, .slice A2 n2 c2, .slice A3 n3 c3, .slice A4 n4 c4, .slice A5 n5 c5, .slice A6 n6 c6, .slice A7 n7 c7], .agg #[.int .i64 sc, .slice FA nf cf, .slice VA nv cv], .int .i64 field, .int .i64 value] w fun e w' => e = .returned (.bool true) ∧ Below w.heap.size w w' := by
 have hn : nf ≤ 9223372036854775807 := ck_isI64 hF
 have hm : nv ≤ 9223372036854775807 := ck_isI64 hV
 obtain ⟨j1, hj, hjz0, hjz1, hjz2⟩ := info_parts Tryz.infoIntW
 have HJ := Lib.hid (And.intro hj (And.intro hjz0 (And.intro hjz1 hjz2)))
 clear hj hjz0 hjz1 hjz2
 have HNV := Lib.hid hV.len
 have HNF := Lib.hid hF.len
 have HF := Lib.hid hF
 have HV := Lib.hid hV
 have H3 := Lib.hid h3
 have HKN := Lib.hid hkn
 have HME := Lib.hid hM
 have HWE := Lib.hid hW
 have HVI := Lib.hid hvi
 have HFI := Lib.hid hfi
 clear hF hV h3 hkn hM hW hvi hfi
 have HBB : Hid (Below w.heap.size w ((w.alloc (.cells #[.slice A1 n1 c1, .slice A2 n2 c2, .slice A3 n3 c3, .slice A4 n4 c4, .slice A5 n5 c5, .slice A6 n6 c6, .slice A7 n7 c7] 32)).alloc (.cells #[.int .i64 sc, .slice FA nf cf, .slice VA nv cv] 42))) := Lib.hid (((Below.refl _ _).alloc (Nat.le_refl _) _).alloc (by simp) _)
 have HK0 : Hid (Blk ((w.alloc (.cells #[.slice A1 n1 c1, .slice A2 n2 c2, .slice A3 n3 c3, .slice A4 n4 c4, .slice A5 n5 c5, .slice A6 n6 c6, .slice A7 n7 c7] 32)).alloc (.cells #[.int .i64 sc, .slice FA nf cf, .slice VA nv cv] 42)) w.heap.size 32 #[.slice A1 n1 c1, .slice A2 n2 c2, .slice A3 n3 c3, .slice A4 n4 c4, .slice A5 n5 c5, .slice A6 n6 c6, .slice A7 n7 c7]) := Lib.hid ((Blk.new _ _ _).alloc _)
 have HK1 : Hid (Blk ((w.alloc (.cells #[.slice A1 n1 c1, .slice A2 n2 c2, .slice A3 n3 c3, .slice A4 n4 c4, .slice A5 n5 c5, .slice A6 n6 c6, .slice A7 n7 c7] 32)).alloc (.cells #[.int .i64 sc, .slice FA nf cf, .slice VA nv cv] 42)) (w.heap.size + 1) 42 #[.int .i64 sc, .slice FA nf cf, .slice VA nv cv]) := Lib.hid (blk_new2 _ _ _ _)
 go_enter Tryz.func5, Tryz.ntmps5
 go_upto_region 1 with fail
 generalize (w.alloc (.cells #[.slice A1 n1 c1, .slice A2 n2 c2, .slice A3 n3 c3, .slice A4 n4 c4, .slice A5 n5 c5, .slice A6 n6 c6, .slice A7 n7 c7] 32)).alloc (.cells #[.int .i64 sc, .slice FA nf cf, .slice VA nv cv] 42) = wb at *
 obtain ⟨gc, hgc⟩ : ∃ g, g = w.heap.size + 1 := ⟨_, rfl⟩
 rw [← hgc] at HK1 ⊢
 clear hgc
 obtain ⟨ga, hga⟩ : ∃ g, g = w.heap.size := ⟨_, rfl⟩
 rw [← hga] at HK0 ⊢
 clear hga
 have HT : Hid (∀ W, Below wb.heap.size wb W → ga < W.heap.size ∧ W.cell? ⟨ga, 0, none⟩ = some (.slice A1 n1 c1) ∧ W.cell? ⟨ga, 1, none⟩ = some (.slice A2 n2 c2) ∧ W.cell? ⟨ga, 2, none⟩ = some (.slice A3 n3 c3) ∧ W.cell? ⟨ga, 3, none⟩ = some (.slice A4 n4 c4) ∧ W.cell? ⟨ga, 4, none⟩ = some (.slice A5 n5 c5) ∧ W.cell? ⟨ga, 5, none⟩ = some (.slice A6 n6 c6) ∧ W.cell? ⟨ga, 6, none⟩ = some (.slice A7 n7 c7) ∧ gc < W.heap.size ∧ W.cell? ⟨gc, 0, none⟩ = some (.int .i64 sc) ∧ W.cell? ⟨gc, 1, none⟩ = some (.slice FA nf cf) ∧ W.cell? ⟨gc, 2, none⟩ = some (.slice VA nv cv)) := Lib.hid (fun W hW => by
  have h := HK0.out.below hW HK0.out.lt
  have k := HK1.out.below hW HK1.out.lt
  exact ⟨h.lt, h.cell 0, h.cell 1, h.cell 2, h.cell 3, h.cell 4, h.cell 5, h.cell 6, k.lt, k.cell 0, k.cell 1, k.cell 2⟩)
 clear HK0 HK1
 go_wp2_with (go_at_call 9; refine (sane23_any wb).mono ?_)
 rintro e w1 ⟨rfl, hb1⟩
 have HB1 := Lib.hid hb1
 have HBW1 := Lib.hid (HBB.out.trans (hb1.mono HBB.out.size))
 obtain ⟨lg, q0, q1, q2, q3, q4, q5, q6, lc, r0, r1, r2⟩ := HT.out w1 hb1
 clear hb1
 go_wp2_with (go_at_call 10; refine (HKN.out.few w1 HBW1.out).mono ?_)
 rintro e w2 ⟨⟨v0, rfl⟩, hb2⟩
 have HB2 := Lib.hid (HB1.out.trans (hb2.mono HB1.out.size))
 have HBW2 := Lib.hid (HBB.out.trans (HB2.out.mono HBB.out.size))
 clear hb2 lg q0 q1 q2 q3 q4 q5 q6 lc r0 r1 r2
 cases v0 with
 |
  false =>
  go_wp2_with fail
  go_ret
  exact ⟨rfl, HBW2.out⟩
 | true =>
 obtain ⟨lg, q0, q1, q2, q3, q4, q5, q6, lc, r0, r1, r2⟩ := HT.out w2 HB2.out
 obtain ⟨fa, hfa⟩ : ∃ v, fewP [⟨sc, F, V⟩] = v := ⟨_, rfl⟩
 have HFA := Lib.hid (few_one FA VA nf cf nv cv ⟨sc, F, V⟩ w2 (HF.out.mono intR_mono HBW2.out) (HV.out.mono intR_mono HBW2.out))
 rw [hfa] at HFA
 have HFP := Lib.hid hfa
 clear hfa
 go_wp2_with (go_at_call 11; refine HFA.out.mono ?_; clear HFA)
 rintro e w3 ⟨rfl, hb3⟩
 have HB3 := Lib.hid (HB2.out.trans (hb3.mono HB2.out.size))
 have HBW3 := Lib.hid (HBB.out.trans (HB3.out.mono HBB.out.size))
 clear hb3 lg q0 q1 q2 q3 q4 q5 q6 lc r0 r1 r2
 cases fa with
 |
  false =>
  go_wp2_with fail
  go_ret
  exact ⟨rfl, HBW3.out⟩
 | true =>
 have HSM : Hid (nf ≤ 20 ∧ nv ≤ 20) := Lib.hid (by
  have := HFP.out
  simp only [fewP, fewC, List.all_cons, List.all_nil, Bool.and_eq_true, decide_eq_true_eq] at this
  rw [HNF.out, HNV.out]
  exact this.1.1)
 clear HB1 HB2 HBW1 HBW2 HFP
 have HTC : Hid (∀ W, Below w3.heap.size w3 W → gc < W.heap.size ∧ W.cell? ⟨gc, 0, none⟩ = some (.int .i64 sc) ∧ W.cell? ⟨gc, 1, none⟩ = some (.slice FA nf cf) ∧ W.cell? ⟨gc, 2, none⟩ = some (.slice VA nv cv)) := Lib.hid (fun W hW => by
  obtain ⟨lg, q0, q1, q2, q3, q4, q5, q6, lc, r0, r1, r2⟩ := HT.out W (HB3.out.trans (hW.mono HB3.out.size))
  exact ⟨lc, r0, r1, r2⟩)
 obtain ⟨lc, r0, r1, r2⟩ := HTC.out w3 (Below.refl _ _)
 have HST : Hid (MoreQ w3.heap.size (w3.heap.size + 1) w3 sc (.slice none 0 0) (.slice none 0 0) (.slice none 0 0) (.slice none 0 0) [] [] (w3.alloc (.cells #[.int .i64 sc, .slice none 0 0, .slice none 0 0] 42))) := Lib.hid (more_start w3 sc)
 go_wp2_with fail
 go_loopg [10, 11] nf (fun q t10 i wr => ∃ (k : Nat) (d : Bool) (M Vs : List Int) (u v : Value), k ≤ nf ∧ k ≤ nv ∧ q = nf - k ∧ t10 = .bool d ∧ i = .int .i64 k ∧ InsAt F field k d M ∧ Vs.length = M.length ∧ (∀ z ∈ M, isI64 z) ∧ (∀ z ∈ Vs, isI64 z) ∧ MoreQ w3.heap.size (w3.heap.size + 1) w3 sc u v u v M Vs wr)
 case atStart => exact ⟨0, false, [], [], _, _, Nat.zero_le _, Nat.zero_le _, rfl, rfl, rfl, InsAt.zero _ _, rfl, by simp, by simp, HST.out⟩
 case round =>
  clear HST lc r0 r1 r2
  obtain ⟨k, d, M, Vs, u, v, hk, hk2, hq, rfl, rfl, hin, hlen, him, hiv, hmq⟩ := hrel
  have HIN := Lib.hid hin
  have HLN := Lib.hid hlen
  have HIM := Lib.hid him
  have HIV := Lib.hid hiv
  have HMQ := Lib.hid hmq
  have HQQ := Lib.hid hq
  have HK1 := Lib.hid hk
  have HK2 := Lib.hid hk2
  obtain ⟨lm, m1, m2, f1, f2⟩ := hmq.at_
  obtain ⟨lc, r0, r1, r2⟩ := HTC.out wr hmq.old
  have HLM : Hid (M.length ≤ 30) := Lib.hid (by have := hin.len; have := HSM.out.1; omega)
  have HLV : Hid (Vs.length ≤ 30) := Lib.hid (by rw [hlen]; exact HLM.out)
  clear hin hlen him hiv hmq hq hk hk2
  go_upto_region 8 with fail
  go_cut [50] from 39 to 102 (fun t50 wx => t50 = .bool (decide (k < nf) && decide (k < nv)) ∧ wx = wr)
  case first =>
   by_cases a1 : k < nf
   ·
    have b1 : (k : Int) < (nf : Int) := by omega
    by_cases a2 : k < nv
    ·
     have b2 : (k : Int) < (nv : Int) := by omega
     go_wp2_with fail
     go_meet
     exact ⟨by simp [a1, a2], rfl⟩
    ·
     have b2 : ¬ (k : Int) < (nv : Int) := by omega
     go_wp2_with fail
     go_meet
     exact ⟨by simp [a1, a2], rfl⟩
   ·
    have b1 : ¬ (k : Int) < (nf : Int) := by omega
    go_wp2_with fail
    go_meet
    exact ⟨by simp [a1], rfl⟩
  case rest =>
   obtain ⟨h50, hwc⟩ := hcut
   have hwc' := hwc.symm
   subst hwc'
   obtain ⟨b50, hb50⟩ : ∃ b, (decide (k < nf) && decide (k < nv)) = b := ⟨_, rfl⟩
   rw [hb50] at h50
   subst h50
   have HB50 := Lib.hid hb50
   clear hb50
   cases b50 with
   |
    false =>
    have HXK : Hid (nf = nv → k = F.length) := Lib.hid (fun h => by
     have h0 := HB50.out
     have h1 := HK1.out
     have h2 := HK2.out
     have h3 := HNF.out
     rcases Bool.and_eq_false_iff.1 h0 with h4 | h4 <;> (have := of_decide_eq_false h4; omega))
    clear HQQ HB50
    go_upto_if 104 with fail
    go_cut [] from 103 (fun wx => ∃ (M' V2 : List Int) (u' v' : Value), V2.length = M'.length ∧ (∀ z ∈ M', isI64 z) ∧ (∀ z ∈ V2, isI64 z) ∧ (nf = nv → ∀ z, z ∈ M' ↔ z = field ∨ z ∈ F) ∧ MoreQ w3.heap.size (w3.heap.size + 1) w3 sc u' v' u' v' M' V2 wx)
    case first =>
     cases d with
     |
      true =>
      go_wp2_with fail
      go_meet
      exact ⟨M, Vs, u, v, HLN.out, HIM.out, HIV.out, fun h => HIN.out.full (HXK.out h), HMQ.out⟩
     |
      false =>
      go_upto_region 17 with fail
      refine more_reg17 w3 wr sc field value u v M Vs HMQ.out HLM.out HLV.out ?_ _ (by kernel_rfl)
      intro z105 z106 z107 z108 z109 z110 z111 z112 z113 z114 z115 z116 uq vq wq hq8
      have HQ8 := Lib.hid hq8
      clear hq8
      go_wp2_with fail
      go_meet
      exact ⟨M ++ [field], Vs ++ [value], _, _, by simp [HLN.out], ins_all HIM.out HFI.out, ins_all HIV.out HVI.out, fun h => HIN.out.put.full (HXK.out h), HQ8.out⟩
    case rest =>
     obtain ⟨M', V2, u', v', hlen, him, hiv, hful, hmq⟩ := hcut
     obtain ⟨wm, hwm⟩ : ∃ W, W = wc := ⟨_, rfl⟩
     subst hwm
     obtain ⟨MA, mc, rfl⟩ := own_formM hmq.ru
     obtain ⟨WA, wcv, rfl⟩ := own_formM hmq.rv
     have HUM := Lib.hid (ints_of_i (slI_of_own hmq.ru) him)
     have HUV := Lib.hid (ints_of_i (slI_of_own hmq.rv) hiv)
     have HCM := Lib.hid hmq.blk
     have HBWm := Lib.hid (HBW3.out.trans (hmq.old.mono HBW3.out.size))
     have HBm := Lib.hid (HB3.out.trans (hmq.old.mono HB3.out.size))
     have HFU := Lib.hid hful
     have hu1 : M'.length ≤ 9223372036854775807 := ck_isI64 HUM.out
     have hu2 : V2.length ≤ 9223372036854775807 := ck_isI64 HUV.out
     clear hlen him hiv hful hmq HXK HIN HLN HIM HIV HMQ HK1 HK2 HLM HLV HTC lm m1 m2 f1 f2 lc r0 r1 r2 HFI HVI HJ HSM
     obtain ⟨e1, he1⟩ : ∃ e, wholeE ck ss sc F nv = e := ⟨_, rfl⟩
     obtain ⟨x1, hx1⟩ : ∃ e, wholeL ck ss sc F nv = e := ⟨_, rfl⟩
     obtain ⟨l1, hl1⟩ : ∃ e, ofL ck ss [⟨sc, F, V⟩] = e := ⟨_, rfl⟩
     obtain ⟨e2, he2⟩ : ∃ e, wholeE ck ss sc M' V2.length = e := ⟨_, rfl⟩
     obtain ⟨x2, hx2⟩ : ∃ e, wholeL ck ss sc M' V2.length = e := ⟨_, rfl⟩
     obtain ⟨l2, hl2⟩ : ∃ e, ofL ck ss [⟨sc, M', V2⟩] = e := ⟨_, rfl⟩
     have HE1 := Lib.hid he1
     have HX1 := Lib.hid hx1
     have HL1 := Lib.hid hl1
     have HE2 := Lib.hid he2
     have HX2 := Lib.hid hx2
     have HL2 := Lib.hid hl2
     have HOA := Lib.hid (HKN.out.of_one FA VA nf cf nv cv ⟨sc, F, V⟩ wm HBWm.out (HF.out.mono intR_mono HBWm.out) (HV.out.mono intR_mono HBWm.out))
     simp only [] at HOA
     rw [he1, hl1] at HOA
     obtain ⟨lg, q0, q1, q2, q3, q4, q5, q6, lc, r0, r1, r2⟩ := HT.out wm HBm.out
     go_wp2_with (go_at_call 12; refine HOA.out.mono ?_; clear HOA)
     first | rintro e w5 vv rfl hv hb5 | rintro e w5 ⟨vv, rfl, hv, hb5⟩
     obtain ⟨P1, p1, d1, rfl, hp1⟩ := slR_formN hv
     have HP1 := Lib.hid hp1
     have HS1 := Lib.hid hv
     have HB5 := Lib.hid (HBm.out.trans (hb5.mono HBm.out.size))
     have HBW5 := Lib.hid (HBWm.out.trans (hb5.mono HBWm.out.size))
     have HCM5 := Lib.hid (HCM.out.below hb5 HCM.out.lt)
     have HUM5 := Lib.hid (HUM.out.mono intR_mono hb5)
     have HUV5 := Lib.hid (HUV.out.mono intR_mono hb5)
     clear hv hb5 hp1 lg q0 q1 q2 q3 q4 q5 q6 lc r0 r1 r2 HCM HUM HUV HBm HBWm
     obtain ⟨lg, q0, q1, q2, q3, q4, q5, q6, lc, r0, r1, r2⟩ := HT.out w5 HB5.out
     clear r0 r1 r2
     obtain ⟨m0, m1, m2⟩ := HCM5.out.three
     have lm := HCM5.out.lt
     have HOA := Lib.hid (HKN.out.of_one MA WA M'.length mc V2.length wcv ⟨sc, M', V2⟩ w5 HBW5.out HUM5.out HUV5.out)
     simp only [] at HOA
     rw [he2, hl2] at HOA
     go_wp2_with (go_at_call 12; refine HOA.out.mono ?_; clear HOA)
     first | rintro e w6 vv rfl hv hb6 | rintro e w6 ⟨vv, rfl, hv, hb6⟩
     obtain ⟨P2, p2, d2, rfl, hp2⟩ := slR_formN hv
     have HP2 := Lib.hid hp2
     have HS2 := Lib.hid hv
     have HS1' := Lib.hid (HS1.out.mono iR_mono hb6)
     have HB6 := Lib.hid (HB5.out.trans (hb6.mono HB5.out.size))
     have HBW6 := Lib.hid (HBW5.out.trans (hb6.mono HBW5.out.size))
     have HCM6 := Lib.hid (HCM5.out.below hb6 HCM5.out.lt)
     have HUM6 := Lib.hid (HUM5.out.mono intR_mono hb6)
     clear hv hb6 hp2 lg q0 q1 q2 q3 q4 q5 q6 lc m0 m1 m2 lm HCM5 HUM5 HUV5 HB5 HBW5 HS1
     obtain ⟨lg, q0, q1, q2, q3, q4, q5, q6, lc, r0, r1, r2⟩ := HT.out w6 HB6.out
     have HOA := Lib.hid (HKN.out.whole sc FA VA nf cf nv cv F w6 HBW6.out (HF.out.mono intR_mono HBW6.out) (by omega))
     rw [he1, hx1] at HOA
     go_wp2_with (go_at_call 14; refine HOA.out.mono ?_; clear HOA)
     first | rintro e w7 vv rfl hv hb7 | rintro e w7 ⟨vv, rfl, hv, hb7⟩
     obtain ⟨P3, p3, d3, rfl, hp3⟩ := slR_formN hv
     have HS3 := Lib.hid hv
     have HS1 := Lib.hid (HS1'.out.mono iR_mono hb7)
     have HS2' := Lib.hid (HS2.out.mono iR_mono hb7)
     have HB7 := Lib.hid (HB6.out.trans (hb7.mono HB6.out.size))
     have HBW7 := Lib.hid (HBW6.out.trans (hb7.mono HBW6.out.size))
     have HCM7 := Lib.hid (HCM6.out.below hb7 HCM6.out.lt)
     have HUM7 := Lib.hid (HUM6.out.mono intR_mono hb7)
     clear hv hb7 hp3 lg q0 q1 q2 q3 q4 q5 q6 lc r0 r1 r2 HCM6 HUM6 HB6 HBW6 HS1' HS2
     obtain ⟨lg, q0, q1, q2, q3, q4, q5, q6, lc, r0, r1, r2⟩ := HT.out w7 HB7.out
     clear r0 r1 r2
     obtain ⟨m0, m1, m2⟩ := HCM7.out.three
     have lm := HCM7.out.lt
     have HOA := Lib.hid (HKN.out.whole sc MA WA M'.length mc V2.length wcv M' w7 HBW7.out HUM7.out hu2)
     rw [he2, hx2] at HOA
     clear he1 hx1 hl1 he2 hx2 hl2
     go_wp2_with (go_at_call 14; refine HOA.out.mono ?_; clear HOA)
     first | rintro e w8 vv rfl hv hb8 | rintro e w8 ⟨vv, rfl, hv, hb8⟩
     obtain ⟨P4, p4, d4, rfl, hp4⟩ := slR_formN hv
     have HP4 := Lib.hid hp4
     have HS4 := Lib.hid hv
     have HS1' := Lib.hid (HS1.out.mono iR_mono hb8)
     have HS2 := Lib.hid (HS2'.out.mono iR_mono hb8)
     have HS3' := Lib.hid (HS3.out.mono iR_mono hb8)
     have HB8 := Lib.hid (HB7.out.trans (hb8.mono HB7.out.size))
     have HBW8 := Lib.hid (HBW7.out.trans (hb8.mono HBW7.out.size))
     clear hv hb8 hp4 lg q0 q1 q2 q3 q4 q5 q6 lc m0 m1 m2 lm HCM7 HUM7 HB7 HBW7 HS1 HS2' HS3
     obtain ⟨lg, q0, q1, q2, q3, q4, q5, q6, lc, r0, r1, r2⟩ := HT.out w8 HB8.out
     clear q0 q1 q3 q4 q5 q6 r1 r2
     have HZ1 : Hid (¬ e1 = 0 → p1 = 0) := Lib.hid (fun h => by rw [HP1.out, ← HL1.out, ofL_no (fun h' => h (by rw [← HE1.out, HNV.out]; exact (ofE_sing ⟨sc, F, V⟩).symm.trans h'))]; rfl)
     have HZ2 : Hid (¬ e2 = 0 → p2 = 0) := Lib.hid (fun h => by rw [HP2.out, ← HL2.out, ofL_no (fun h' => h (by rw [← HE2.out]; exact (ofE_sing ⟨sc, M', V2⟩).symm.trans h'))]; rfl)
     by_cases z1 : e1 = 0
     case neg =>
      obtain rfl := HZ1.out z1
      by_cases z2 : e2 = 0
      ·
       subst z2
       go_wp2_with fail
       go_ret
       first | exact ⟨rfl, HBW8.out⟩ | exact ⟨ret_bool (by simp), HBW8.out⟩
      ·
       obtain rfl := HZ2.out z2
       go_wp2_with fail
       go_ret
       first | exact ⟨rfl, HBW8.out⟩ | exact ⟨ret_bool (by simp), HBW8.out⟩
     subst z1
     by_cases z2 : e2 = 0
     case neg =>
      obtain rfl := HZ2.out z2
      go_wp2_with fail
      go_ret
      first | exact ⟨rfl, HBW8.out⟩ | exact ⟨ret_bool (by simp), HBW8.out⟩
     subst z2
     obtain ⟨hck, _⟩ := wholeE_parts HE1.out
     subst hck
     obtain ⟨xs, hend⟩ := more_end (HME.out rfl) (HWE.out rfl) (c := ⟨sc, F, V⟩) (d := ⟨sc, M', V2⟩) (field := field) rfl (by rw [ofE_sing]; show wholeE 0 ss sc F V.length = 0; rw [← HNV.out]; exact HE1.out) (by rw [ofE_sing]; exact HE2.out) (fun h => HFU.out (by rw [HNF.out, HNV.out]; exact h))
     have hend : MoreEnd ss sc field (wholeL 0 ss sc F V.length) (wholeL 0 ss sc M' V2.length) (ofL 0 ss [⟨sc, F, V⟩]) (ofL 0 ss [⟨sc, M', V2⟩]) xs := hend
     rw [← HNV.out, HX1.out, HX2.out, HL1.out, HL2.out] at hend
     obtain rfl : p1 = 4 := by rw [HP1.out, hend.lenv]
     obtain rfl : p2 = 4 := by rw [HP2.out, hend.lenw]
     obtain ⟨sk, rfl⟩ : ∃ sk : Nat, sc = sk := ⟨sc.toNat, by have := hend.pos; omega⟩
     have hskn : sk < n3 := by have := hend.lt; have := H3.out.1.len; omega
     have hxk := hend.at_
     rw [Int.toNat_natCast] at hxk
     have HEND := Lib.hid hend
     have hp4b : p4 ≤ 1000 := by rw [HP4.out]; exact hend.len
     clear hend HZ1 HZ2 HE1 HE2 HX1 HX2 HL1 HL2 HME HWE HFU HKN HP1 HP2
     obtain ⟨b3, o3, xs', B1, m1, dd1, B2, m2, dd2, hA3, hbl3, hy3, _, _, _, _, s4, _, G1, _⟩ := qSchema_at H3.out.1 (k := sk) hskn
     obtain rfl : xs' = xs := Option.some.inj (hy3.symm.trans hxk)
     subst hA3
     have HSF : Hid (∀ W, Below w.heap.size w W → b3 < W.heap.size ∧ W.cell? ⟨b3, o3 + sk * 6 + 4, none⟩ = some (.slice B1 m1 dd1)) := Lib.hid (fun W hW => ⟨Nat.lt_of_lt_of_le hbl3 hW.size, (hW.cell (p := ⟨b3, _, none⟩) hbl3).trans s4⟩)
     have HG1 := Lib.hid G1
     have HM1 := Lib.hid G1.1.len
     clear hy3 hxk s4 G1 hbl3
     have hs0 : (0 : Int) ≤ (sk : Int) := by omega
     have hs1 : (sk : Int) < (n3 : Int) := by omega
     have hsd0 : decide ((sk : Int) < 0) = false := decide_eq_false (by omega)
     have hsd1 : decide ((n3 : Int) ≤ (sk : Int)) = false := decide_eq_false (by omega)
     have hsd2 : decide (n3 ≤ sk) = false := decide_eq_false (by omega)
     have HBL : Hid (Calls Tryz.prog 17 #[.slice P1 4 d1, .slice P2 4 d2] w8 fun e w' => e = .returned (.tuple #[.bool true, .int .i64 0]) ∧ Below w8.heap.size w8 w') := Lib.hid (by
      have h := leakBelow_any P1 P2 4 d1 4 d2 l1 l2 w8 HS1'.out HS2.out
      have hl : l1.length = l2.length := by rw [HEND.out.lenv, HEND.out.lenw]
      rw [belowR_yes hl, HEND.out.below, lenE, if_pos hl] at h
      exact h)
     go_wp2_with (go_at_call 17; refine HBL.out.mono ?_; clear HBL)
     first | rintro e w9 rfl hb9 | rintro e w9 ⟨rfl, hb9⟩
     have HS19 := Lib.hid (HS1'.out.mono iR_mono hb9)
     have HS29 := Lib.hid (HS2.out.mono iR_mono hb9)
     have HS39 := Lib.hid (HS3'.out.mono iR_mono hb9)
     have HS49 := Lib.hid (HS4.out.mono iR_mono hb9)
     have HB9 := Lib.hid (HB8.out.trans (hb9.mono HB8.out.size))
     have HBW9 := Lib.hid (HBW8.out.trans (hb9.mono HBW8.out.size))
     clear hb9 lg q2 lc r0 HS1' HS2 HS3' HS4 HB8 HBW8
     obtain ⟨lg, q0, q1, q2, q3, q4, q5, q6, lc, r0, r1, r2⟩ := HT.out w9 HB9.out
     clear q0 q1 q3 q4 q5 q6 r1 r2
     go_wp2_with fail
     go_loopg [22] 4 (fun q i wr => ∃ k : Nat, k ≤ 4 ∧ q = 4 - k ∧ i = .int .i64 k ∧ Below w9.heap.size w9 wr)
     case atStart => exact ⟨0, by omega, rfl, rfl, Below.refl _ _⟩
     case round =>
      clear lg q2 lc r0
      obtain ⟨k, hk, hq, rfl, hb⟩ := hrel
      have HQ := Lib.hid hq
      have HB := Lib.hid hb
      clear hq hb
      by_cases hlt : k < 4
      case neg =>
       obtain rfl : k = 4 := by omega
       have HHF : Hid (Calls Tryz.prog 21 #[.slice P4 p4 d4, .int .i64 field] wr fun e w' => e = .returned (.bool true) ∧ Below wr.heap.size wr w') := Lib.hid (by
        have := has23_any P4 p4 d4 field x2 wr (HS49.out.mono iR_mono HB.out)
        rwa [show x2.contains field = true from by simpa using HEND.out.mem] at this)
       go_wp2_with (go_at_call 21; refine HHF.out.mono ?_; clear HHF)
       first | rintro e w10 rfl hb10 | rintro e w10 ⟨rfl, hb10⟩
       go_wp2_with fail
       go_ret
       exact ⟨rfl, HBW9.out.trans ((HB.out.trans (hb10.mono HB.out.size)).mono HBW9.out.size)⟩
      obtain ⟨a, b, hka, hkb, hab, hbb, hsum⟩ := HEND.out.sum k hlt
      have HSU := Lib.hid hsum
      have hk4 : (k : Int) < 4 := by omega
      have hk0 : (0 : Int) ≤ (k : Int) := by omega
      clear hsum
      go_wp2_with fail
      go_loopg [23, 24] p4 (fun q s i wr2 => ∃ n : Nat, n ≤ p4 ∧ q = p4 - n ∧ s = .int .i64 (addW xs'.fields x1 (gK k) (x2.take n)) ∧ i = .int .i64 n ∧ Below w9.heap.size w9 wr2)
      case atStart => exact ⟨0, Nat.zero_le _, rfl, by rw [List.take_zero, addW_nil], rfl, HB.out⟩
      case round =>
       obtain ⟨n, hn4, hq, rfl, rfl, hb⟩ := hrel
       have HQ2 := Lib.hid hq
       have HBR := Lib.hid hb
       clear hq hb
       by_cases hltn : n < p4
       case neg =>
        obtain rfl : n = p4 := by omega
        have hz : addW xs'.fields x1 (gK k) (x2.take n) = b - a := by rw [HP4.out, List.take_length]; exact HSU.out.symm
        rw [hz]
        obtain ⟨g1, i1, a', rfl, hg1, ha', hc1⟩ := i_at (HS19.out.mono iR_mono HBR.out) hlt
        obtain ⟨g2, i2, b', rfl, hg2, hb', hc2⟩ := i_at (HS29.out.mono iR_mono HBR.out) hlt
        obtain rfl : a' = a := Option.some.inj (ha'.symm.trans hka)
        obtain rfl : b' = b := Option.some.inj (hb'.symm.trans hkb)
        have hw : wrap64 (b' - a') = b' - a' := wrap_small (by omega) (by omega)
        clear hz ha' hb' hka hkb HSU
        go_wp2_with fail
        go_quiet (fail)
        go_wp2_with fail
        go_roundg (4 - (k + 1))
        case measure => have := HQ.out; omega
        case rel => exact ⟨k + 1, by omega, rfl, by go_num, below_drewN HBR.out _⟩
       obtain ⟨g4, i4, yv, rfl, hg4, hyv, hc4⟩ := i_at (HS49.out.mono iR_mono HBR.out) hltn
       obtain ⟨hy0, hy1⟩ := HEND.out.rng yv (List.mem_of_getElem? hyv)
       obtain ⟨yk, rfl⟩ : ∃ yk : Nat, yv = yk := ⟨yv.toNat, by omega⟩
       have hykm : yk < m1 := by rw [HM1.out]; omega
       obtain ⟨g5, i5, fl, hB1, hg5, hfl, hc5⟩ := qWeight_at HG1.out.1 (j := yk) hykm hlt
       subst hB1
       obtain ⟨sv, hsv⟩ : ∃ s, addW xs'.fields x1 (gK k) (x2.take n) = s := ⟨_, rfl⟩
       rw [hsv]
       obtain ⟨gv, hgv⟩ : ∃ g, gK k fl = g := ⟨_, rfl⟩
       rw [hgv] at hc5
       obtain ⟨cb, hcb⟩ : ∃ c, x1.contains (yk : Int) = c := ⟨_, rfl⟩
       have HSN : Hid (addW xs'.fields x1 (gK k) (x2.take (n + 1)) = sv + (if cb then 0 else gv)) := Lib.hid (by
        rw [take_snoc hyv, addW_snoc (z := fl) (by rw [Int.toNat_natCast]; exact hfl), hsv, hcb, hgv])
       have hsb : 0 ≤ sv ∧ sv ≤ 9000 := by
        have h1 := addW_nonneg (X := x1) (Y := x2.take n) (HEND.out.small k)
        have h2 := List.length_take_le n x2
        have h3 := HEND.out.len
        have h4 : (x2.take n).length ≤ x2.length := by rw [List.length_take]; omega
        rw [hsv] at h1
        omega
       have hgb : 0 ≤ gv ∧ gv ≤ 9 := by rw [← hgv]; exact HEND.out.small k fl (List.mem_of_getElem? hfl)
       have hw : wrap64 (sv + gv) = sv + gv := wrap_small (by omega) (by omega)
       have HHF : Hid (∀ m : Nat, Calls Tryz.prog 21 #[.slice P3 p3 d3, .int .i64 yk] (wr.drewN m) fun e w' => e = .returned (.bool cb) ∧ Below wr.heap.size wr w') := Lib.hid (fun m => by
        have := has23_any P3 p3 d3 yk x1 (wr.drewN m) (HS39.out.mono iR_mono (below_drewN HBR.out m))
        rw [hcb] at this
        refine this.mono ?_
        rintro e w' ⟨rfl, hb⟩
        exact ⟨rfl, (below_drewN (Below.refl _ _) m).trans hb⟩)
       have HC5 : Hid (∀ W, Below w9.heap.size w9 W → W.cell? ⟨g5, i5 + yk * 11 + 7 + k, none⟩ = some (.int .i64 gv) ∧ g5 < W.heap.size ∧ b3 < W.heap.size ∧ W.cell? ⟨b3, o3 + sk * 6 + 4, none⟩ = some (.slice (some ⟨g5, i5, none⟩) m1 dd1) ∧ ga < W.heap.size ∧ gc < W.heap.size ∧ W.cell? ⟨ga, 2, none⟩ = some (.slice (some ⟨b3, o3, none⟩) n3 c3) ∧ W.cell? ⟨gc, 0, none⟩ = some (.int .i64 sk)) := Lib.hid (fun W hW => by
        have hbw := HBW9.out.trans (hW.mono HBW9.out.size)
        obtain ⟨k1, k2⟩ := HSF.out W hbw
        obtain ⟨lg, q0, q1, q2, q3, q4, q5, q6, lc, r0, r1, r2⟩ := HT.out W (HB9.out.trans (hW.mono HB9.out.size))
        exact ⟨(hbw.cell (p := ⟨g5, _, none⟩) hg5).trans hc5, Nat.lt_of_lt_of_le hg5 hbw.size, k1, k2, lg, lc, q2, r0⟩)
       obtain ⟨c5, l5, l3, s4, lg, lc, q2, r0⟩ := HC5.out wr HBR.out
       have hn0 : (0 : Int) ≤ (n : Int) := by omega
       have hn1 : (n : Int) < (p4 : Int) := by omega
       have hyk0 : (0 : Int) ≤ (yk : Int) := by omega
       have hyk1 : (yk : Int) < (m1 : Int) := by omega
       have dy0 : decide ((yk : Int) < 0) = false := decide_eq_false (by omega)
       have dy1 : decide ((m1 : Int) ≤ (yk : Int)) = false := decide_eq_false (by omega)
       have HYV := Lib.hid hyv
       clear hyv hfl hc5 hg5 hsv hgv hcb hy0 hy1 hsb hgb hka hkb hab hbb
       go_wp2_with fail
       go_quiet (fail)
       go_wp2_with (go_at_call 21; refine (HHF.out _).mono ?_; clear HHF)
       first | rintro e w10 rfl hb10 | rintro e w10 ⟨rfl, hb10⟩
       have HB10 := Lib.hid (HBR.out.trans (hb10.mono HBR.out.size))
       clear hb10 c5 l5 l3 s4 lg lc q2 r0 hc4 hg4
       cases cb with
       |
        true =>
        go_wp2_with fail
        go_roundg (p4 - (n + 1))
        case measure => have := HQ2.out; omega
        case rel => exact ⟨n + 1, by omega, rfl, by rw [HSN.out]; simp, by go_num, HB10.out⟩
       |
        false =>
        obtain ⟨c5, l5, l3, s4, lg, lc, q2, r0⟩ := HC5.out w10 HB10.out
        obtain ⟨g4', i4', yv', hA4, hg4, hyv, hc4⟩ := i_at (HS49.out.mono iR_mono HB10.out) hltn
        injection hA4 with hA4
        injection hA4 with hA4 hA5
        subst hA4 hA5
        obtain rfl : yv' = yk := Option.some.inj (hyv.symm.trans HYV.out)
        clear hyv
        go_wp2_with fail
        go_quiet (fail)
        go_wp2_with fail
        go_roundg (p4 - (n + 1))
        case measure => have := HQ2.out; omega
        case rel => exact ⟨n + 1, by omega, rfl, by rw [HSN.out]; simp [hw], by go_num, below_drewN HB10.out _⟩
   |
    true =>
    have hkb : k < nf ∧ k < nv := by have := HB50.out; simpa using this
    obtain ⟨b1, o1, x, rfl, hbl1, hx, hxc, hxi⟩ := ints_at HF.out hkb.1
    obtain ⟨b2, o2, y, rfl, hbl2, hy, hyc, hyi⟩ := ints_at HV.out hkb.2
    have HXC : Hid (∀ W, Below w3.heap.size w3 W → W.cell? ⟨b1, o1 + k, none⟩ = some (.int .i64 x) ∧ W.cell? ⟨b2, o2 + k, none⟩ = some (.int .i64 y) ∧ W.cell? ⟨gc, 1, none⟩ = some (.slice (some ⟨b1, o1, none⟩) nf cf) ∧ W.cell? ⟨gc, 2, none⟩ = some (.slice (some ⟨b2, o2, none⟩) nv cv)) := Lib.hid (fun W hW => by
     obtain ⟨_, _, r1, r2⟩ := HTC.out W hW
     have hw := HBW3.out.trans (hW.mono HBW3.out.size)
     exact ⟨(hw.cell (p := ⟨b1, o1 + k, none⟩) hbl1).trans hxc, (hw.cell (p := ⟨b2, o2 + k, none⟩) hbl2).trans hyc, r1, r2⟩)
    have HX := Lib.hid hx
    have HXI := Lib.hid (show isI64 x from hxi)
    have HYI := Lib.hid (show isI64 y from hyi)
    obtain ⟨hxc, hyc, _, _⟩ := HXC.out wr HMQ.out.old
    have hkn : (k : Int) < (nf : Int) := by omega
    have hkv : (k : Int) < (nv : Int) := by omega
    have hk0 : (0 : Int) ≤ (k : Int) := by omega
    have hb1 := Nat.lt_of_lt_of_le hbl1 (HBW3.out.trans (HMQ.out.old.mono HBW3.out.size)).size
    have hb2 := Nat.lt_of_lt_of_le hbl2 (HBW3.out.trans (HMQ.out.old.mono HBW3.out.size)).size
    clear hx hy hxi hyi hkb hbl1 hbl2
    by_cases exf : x = field
    ·
     go_wp2_with fail
     go_ret
     exact ⟨rfl, HBW3.out.trans (HMQ.out.old.mono HBW3.out.size)⟩
    go_upto_region 12 with fail
    go_cut [70] from 39 to 102 (fun t70 wx => t70 = .bool (!d && decide (field < x)) ∧ wx = wr)
    case first =>
     cases d with
     |
      true =>
      go_wp2_with fail
      go_meet
      exact ⟨rfl, rfl⟩
     |
      false =>
      go_wp2_with fail
      go_meet
      exact ⟨by simp, rfl⟩
    case rest =>
     obtain ⟨h70, hwc⟩ := hcut
     have hwc' := hwc.symm
     subst hwc'
     obtain ⟨b70, hb70⟩ : ∃ b, (!d && decide (field < x)) = b := ⟨_, rfl⟩
     rw [hb70] at h70
     subst h70
     have HB70 := Lib.hid hb70
     clear hb70
     go_upto_if 70 with fail
     go_cut [10] from 39 to 102 (fun t10 wx => ∃ (d' : Bool) (M' V2 : List Int) (u' v' : Value), t10 = .bool d' ∧ InsAt F field k d' M' ∧ V2.length = M'.length ∧ (∀ z ∈ M', isI64 z) ∧ (∀ z ∈ V2, isI64 z) ∧ MoreQ w3.heap.size (w3.heap.size + 1) w3 sc u' v' u' v' M' V2 wx)
     case first =>
      cases b70 with
      |
       false =>
       go_wp2_with fail
       go_meet
       exact ⟨d, M, Vs, u, v, rfl, HIN.out, HLN.out, HIM.out, HIV.out, HMQ.out⟩
      |
       true =>
       obtain rfl : d = false := by have := HB70.out; simp at this; exact this.1
       go_upto_region 13 with fail
       refine more_reg13 w3 wr sc field value u v M Vs HMQ.out HLM.out HLV.out ?_ _ (by kernel_rfl)
       intro z71 z72 z73 z74 z75 z76 z77 z78 z79 z80 z81 z82 uq vq wq hq8
       have HQ8 := Lib.hid hq8
       clear hq8
       go_wp2_with fail
       go_meet
       exact ⟨true, M ++ [field], Vs ++ [value], _, _, rfl, HIN.out.put, by simp [HLN.out], ins_all HIM.out HFI.out, ins_all HIV.out HVI.out, HQ8.out⟩
     case rest =>
      obtain ⟨d', M', V2, u', v', rfl, hin, hlen, him, hiv, hmq⟩ := hcut
      obtain ⟨wy, hwy⟩ : ∃ W, W = wc := ⟨_, rfl⟩
      subst hwy
      clear HB70 lm m1 m2 f1 f2 lc r0 r1 r2 hxc hyc
      have HIN2 := Lib.hid hin
      have HLN2 := Lib.hid hlen
      have HIM2 := Lib.hid him
      have HIV2 := Lib.hid hiv
      have HMQ2 := Lib.hid hmq
      have HLM : Hid (M'.length ≤ 30) := Lib.hid (by have := hin.len; have := HSM.out.1; omega)
      have HLV : Hid (V2.length ≤ 30) := Lib.hid (by rw [hlen]; exact HLM.out)
      obtain ⟨lm, m1, m2, f1, f2⟩ := hmq.at_
      clear hin hlen him hiv hmq HIN HLN HIM HIV HMQ hb1 hb2
      go_upto_region 15 with fail
      refine more_reg15 w3 wy sc x y u' v' M' V2 HMQ2.out HLM.out HLV.out gc b1 o1 b2 o2 k nf cf nv cv HXC.out hkn hkv hk0 ?_ _ (by kernel_rfl)
      intro z83 z84 z85 z86 z87 z88 z89 z90 z91 z92 z93 z94 z95 z96 z97 z98 z99 z100 z101 z102 uq vq wq hq8
      have HQ8 := Lib.hid hq8
      clear hq8
      go_wp2_with fail
      go_roundg (nf - (k + 1))
      case measure => have := HQQ.out; omega
      case rel => exact ⟨k + 1, d', M' ++ [x], V2 ++ [y], _, _, by omega, by omega, rfl, rfl, by go_num, HIN2.out.push HX.out, by simp [HLN2.out], ins_all HIM2.out HXI.out, ins_all HIV2.out HYI.out, HQ8.out⟩
end Go.Proofs.YtkgmonplcdnnbaaGreat
