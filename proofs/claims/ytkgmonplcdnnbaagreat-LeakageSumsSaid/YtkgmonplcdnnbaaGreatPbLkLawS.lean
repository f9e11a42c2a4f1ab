/- testamurlaw23.LeakageSums: the walk. Written by genlawS.py and genty.py. -/
import Derived.Test.YtkgmonplcdnnbaaGreatPb38
namespace Go.Proofs.YtkgmonplcdnnbaaGreat
open Go.RowKit Go.Shelf
theorem SlB.form_ {α : Type} {sz b : Nat} {R : World → List Value → α → Prop} {w : World} {v : Value} {l : List α} (h : SlB sz b R w v l) : ∃ A n c, v = .slice A n c := by
  obtain ⟨⟨A, c, e, _⟩, _⟩ := h
  exact ⟨A, _, c, e⟩
theorem zip_at {l r : List Int} {k : Nat} {x y z : Int} (hx : (List.zipWith (· + ·) l r)[k]? = some x) (hy : l[k]? = some y) (hz : r[k]? = some z) : x = y + z := by
  rw [List.getElem?_zipWith, hy, hz] at hx
  exact (Option.some.inj hx).symm
theorem wrap_small {x : Int} (h0 : -9223372036854775808 ≤ x) (h1 : x ≤ 9223372036854775807) : wrap64 x = x := by unfold wrap64; omega
theorem claims_row {w0 w6 w w' : World} {base : Nat} {v : Value} {n : Nat} {cs cs' : List Value} {a b : List QClaims} (ho : w'.ownsRow base 42 3 v n (cs ++ cs')) (hc : CellsR 3 (fun _ => qClaimsR w0) w6 cs a) (hc' : CellsR 3 (fun _ => qClaimsR w0) w cs' b) (hb : Below w0.heap.size w0 w') (hn : n = a.length + b.length) (hl : (a ++ b).length * 56 ≤ 140737488355328) : SlB 3 56 qClaimsR w' v (a ++ b) := by
  refine ⟨slR_of_row ho (CellsR.append ⟨hc.1, fun i x hi => qClaimsR_mono _ _ hb _ _ (hc.2 i x hi)⟩ ⟨hc'.1, fun i x hi => qClaimsR_mono _ _ hb _ _ (hc'.2 i x hi)⟩) (by rw [hn, List.length_append]), hl⟩
theorem of_list {ck : Int} {ss : List QSchema} {a : List QClaims} (h : ofE ck ss a = 0) : ofL ck ss a = [t0 ss a, t1 ss a, t2 ss a, t3 ss a] := by rw [ofL, if_pos h]
set_option maxHeartbeats 16000000 in
set_option maxRecDepth 100000 in
theorem sums_any (A1 A2 A3 A4 A5 A6 : Option Addr) (n1 c1 n2 c2 n3 c3 n4 c4 n5 c5 n6 c6 : Nat) (A7 : Option Addr) (n7 c7 : Nat) (ck : Int) (ss : List QSchema) (A B : Option Addr) (n c m d : Nat) (a b : List QClaims) (w : World) (hkn : Known (.agg #[.slice A1 n1 c1, .slice A2 n2 c2, .slice A3 n3 c3, .slice A4 n4 c4, .slice A5 n5 c5, .slice A6 n6 c6, .slice A7 n7 c7]) (.agg #[.slice A1 n1 c1, .slice A2 n2 c2, .slice A3 n3 c3, .slice A4 n4 c4, .slice A5 n5 c5, .slice A6 n6 c6, .slice A7 n7 c7]) ck ss w) (ha : SlB 3 56 qClaimsR w (.slice A n c) a) (hb : SlB 3 56 qClaimsR w (.slice B m d) b) (hW : ck = 0 → Weighed ss) :
    Calls Tryz.prog 6 #[.agg #[.slice A1 n1 c1, .slice A2 n2 c2, .slice A3 n3 c3, .slice A4 n4 c4, .slice A5 n5 c5, .slice A6 n6 c6, .slice A7 n7 c7], .slice A n c, .slice B m d] w fun e w' => e = .returned (.bool true) ∧ Below w.heap.size w w' := by
  obtain ⟨j0, hj, hjz0, hjz1, hjz2⟩ := info_parts Tryz.infoClaims
  have HJ := Lib.hid (And.intro hj (And.intro hjz0 (And.intro hjz1 hjz2)))
  clear hj hjz0 hjz1 hjz2
  have hn : n ≤ 9223372036854775807 := by have := ha.1.le; omega
  have hm : m ≤ 9223372036854775807 := by have := hb.1.le; omega
  have HAl := Lib.hid ha.1.len
  have HBl := Lib.hid hb.1.len
  have HA := Lib.hid ha
  have HB := Lib.hid hb
  have HKN := Lib.hid hkn
  have HWE := Lib.hid hW
  clear ha hb hkn hW
  have HBB : Hid (Below w.heap.size w (w.alloc (.cells #[.slice A1 n1 c1, .slice A2 n2 c2, .slice A3 n3 c3, .slice A4 n4 c4, .slice A5 n5 c5, .slice A6 n6 c6, .slice A7 n7 c7] 32))) := Lib.hid ((Below.refl _ _).alloc (Nat.le_refl _) _)
  have HK0 : Hid (Blk (w.alloc (.cells #[.slice A1 n1 c1, .slice A2 n2 c2, .slice A3 n3 c3, .slice A4 n4 c4, .slice A5 n5 c5, .slice A6 n6 c6, .slice A7 n7 c7] 32)) w.heap.size 32 #[.slice A1 n1 c1, .slice A2 n2 c2, .slice A3 n3 c3, .slice A4 n4 c4, .slice A5 n5 c5, .slice A6 n6 c6, .slice A7 n7 c7]) := Lib.hid (Blk.new _ _ _)
  go_enter Tryz.func6, Tryz.ntmps6
  go_upto_region 1 with fail
  generalize w.alloc (.cells #[.slice A1 n1 c1, .slice A2 n2 c2, .slice A3 n3 c3, .slice A4 n4 c4, .slice A5 n5 c5, .slice A6 n6 c6, .slice A7 n7 c7] 32) = wb at *
  obtain ⟨ga, hga⟩ : ∃ g, g = w.heap.size := ⟨_, rfl⟩
  rw [← hga] at HK0 ⊢
  clear hga
  have HT : Hid (∀ W, Below wb.heap.size wb W → ga < W.heap.size ∧ W.cell? ⟨ga, 0, none⟩ = some (.slice A1 n1 c1) ∧ W.cell? ⟨ga, 1, none⟩ = some (.slice A2 n2 c2) ∧ W.cell? ⟨ga, 2, none⟩ = some (.slice A3 n3 c3) ∧ W.cell? ⟨ga, 3, none⟩ = some (.slice A4 n4 c4) ∧ W.cell? ⟨ga, 4, none⟩ = some (.slice A5 n5 c5) ∧ W.cell? ⟨ga, 5, none⟩ = some (.slice A6 n6 c6) ∧ W.cell? ⟨ga, 6, none⟩ = some (.slice A7 n7 c7)) := Lib.hid (fun W hW => by
    have h := HK0.out.below hW HK0.out.lt
    exact ⟨h.lt, h.cell 0, h.cell 1, h.cell 2, h.cell 3, h.cell 4, h.cell 5, h.cell 6⟩)
  clear HK0
  go_wp2_with (go_at_call 9; refine (sane23_any wb).mono ?_)
  rintro e w1 ⟨rfl, hb1⟩
  have HB1 := Lib.hid hb1
  have HBW1 := Lib.hid (HBB.out.trans (hb1.mono HBB.out.size))
  obtain ⟨lg, q0, q1, q2, q3, q4, q5, q6⟩ := HT.out w1 hb1
  clear hb1
  go_wp2_with (go_at_call 10; refine (HKN.out.few w1 HBW1.out).mono ?_)
  rintro e w2 ⟨⟨v0, rfl⟩, hb2⟩
  have HB2 := Lib.hid (HB1.out.trans (hb2.mono HB1.out.size))
  have HBW2 := Lib.hid (HBB.out.trans (HB2.out.mono HBB.out.size))
  clear hb2 lg q0 q1 q2 q3 q4 q5 q6
  cases v0 with
  | false =>
    go_wp2_with fail
    go_ret
    exact ⟨rfl, HBW2.out⟩
  | true =>
  obtain ⟨fa, hfa⟩ : ∃ v, fewP a = v := ⟨_, rfl⟩
  have HFA : Hid (Calls Tryz.prog 11 #[.slice A n c] w2 fun e w' => e = .returned (.bool fa) ∧ Below w2.heap.size w2 w') := Lib.hid (by
    have := refFew_any A n c a w2 (HA.out.1.mono qClaimsR_mono HBW2.out)
    rw [hfa] at this
    exact this)
  have HFa := Lib.hid hfa
  clear hfa
  go_wp2_with (go_at_call 11; refine HFA.out.mono ?_; clear HFA)
  rintro e w3 ⟨rfl, hb3⟩
  have HB3 := Lib.hid (HB2.out.trans (hb3.mono HB2.out.size))
  have HBW3 := Lib.hid (HBB.out.trans (HB3.out.mono HBB.out.size))
  clear hb3
  cases fa with
  | false =>
    go_wp2_with fail
    go_ret
    exact ⟨rfl, HBW3.out⟩
  | true =>
  obtain ⟨fb, hfb⟩ : ∃ v, fewP b = v := ⟨_, rfl⟩
  have HFB : Hid (Calls Tryz.prog 11 #[.slice B m d] w3 fun e w' => e = .returned (.bool fb) ∧ Below w3.heap.size w3 w') := Lib.hid (by
    have := refFew_any B m d b w3 (HB.out.1.mono qClaimsR_mono HBW3.out)
    rw [hfb] at this
    exact this)
  have HFb := Lib.hid hfb
  clear hfb
  go_wp2_with (go_at_call 11; refine HFB.out.mono ?_; clear HFB)
  rintro e w4 ⟨rfl, hb4⟩
  have HB4 := Lib.hid (HB3.out.trans (hb4.mono HB3.out.size))
  have HBW4 := Lib.hid (HBB.out.trans (HB4.out.mono HBB.out.size))
  obtain ⟨lg, q0, q1, q2, q3, q4, q5, q6⟩ := HT.out w4 HB4.out
  clear hb4
  cases fb with
  | false =>
    go_wp2_with fail
    go_ret
    exact ⟨rfl, HBW4.out⟩
  | true =>
  have HAn : Hid (n ≤ 10) := Lib.hid (by rw [HAl.out]; exact few_len HFa.out)
  have HBn : Hid (m ≤ 10) := Lib.hid (by rw [HBl.out]; exact few_len HFb.out)
  clear HFa HFb HB1 HB2 HB3 HBW1 HBW2 HBW3
  obtain ⟨ea, hea⟩ : ∃ e, ofE ck ss a = e := ⟨_, rfl⟩
  obtain ⟨eb, heb⟩ : ∃ e, ofE ck ss b = e := ⟨_, rfl⟩
  obtain ⟨la, hla⟩ : ∃ e, ofL ck ss a = e := ⟨_, rfl⟩
  obtain ⟨lb, hlb⟩ : ∃ e, ofL ck ss b = e := ⟨_, rfl⟩
  have HOA := Lib.hid (HKN.out.of_ A n c a w4 HBW4.out (HA.out.mono qClaimsR_mono HBW4.out))
  rw [hea, hla] at HOA
  have HEA := Lib.hid hea
  have HEB := Lib.hid heb
  have HLA := Lib.hid hla
  have HLB := Lib.hid hlb
  go_wp2_with (go_at_call 12; refine HOA.out.mono ?_; clear HOA)
  rintro e w5 ⟨v, rfl, hv, hb5⟩
  obtain ⟨VA, na, vc, rfl, hna⟩ := slR_formN hv
  have HNA := Lib.hid hna
  clear hna
  have HVA := Lib.hid hv
  have HB5 := Lib.hid (HB4.out.trans (hb5.mono HB4.out.size))
  have HBW5 := Lib.hid (HBB.out.trans (HB5.out.mono HBB.out.size))
  have HOB := Lib.hid (HKN.out.of_ B m d b w5 HBW5.out (HB.out.mono qClaimsR_mono HBW5.out))
  rw [heb, hlb] at HOB
  clear hea heb hla hlb hv hb5 lg q0 q1 q2 q3 q4 q5 q6
  obtain ⟨lg, q0, q1, q2, q3, q4, q5, q6⟩ := HT.out w5 HB5.out
  go_wp2_with (go_at_call 12; refine HOB.out.mono ?_; clear HOB)
  rintro e w6 ⟨v, rfl, hv, hb6⟩
  obtain ⟨VB, nb, vd, rfl, hnb⟩ := slR_formN hv
  have HNB := Lib.hid hnb
  clear hnb
  have HVB := Lib.hid hv
  have HVA6 := Lib.hid (HVA.out.mono iR_mono hb6)
  have HB6 := Lib.hid (HB5.out.trans (hb6.mono HB5.out.size))
  have HBW6 := Lib.hid (HBB.out.trans (HB6.out.mono HBB.out.size))
  have HT7 : Hid (∀ W, Below w6.heap.size w6 W → W.cell? ⟨ga, 0, none⟩ = some (.slice A1 n1 c1) ∧ W.cell? ⟨ga, 1, none⟩ = some (.slice A2 n2 c2) ∧ W.cell? ⟨ga, 2, none⟩ = some (.slice A3 n3 c3) ∧ W.cell? ⟨ga, 3, none⟩ = some (.slice A4 n4 c4) ∧ W.cell? ⟨ga, 4, none⟩ = some (.slice A5 n5 c5) ∧ W.cell? ⟨ga, 5, none⟩ = some (.slice A6 n6 c6) ∧ W.cell? ⟨ga, 6, none⟩ = some (.slice A7 n7 c7) ∧ Below w6.heap.size w6 W) := Lib.hid (fun W hW => by
    obtain ⟨lg, q0, q1, q2, q3, q4, q5, q6⟩ := HT.out W (HB6.out.trans (hW.mono HB6.out.size))
    exact ⟨q0, q1, q2, q3, q4, q5, q6, hW⟩)
  clear hv hb6 lg q0 q1 q2 q3 q4 q5 q6 HVA HB4 HB5 HBW4 HBW5
  go_upto_region 7 with fail
  obtain ⟨eab, heab⟩ : ∃ e, ofE ck ss (a ++ b) = e := ⟨_, rfl⟩
  obtain ⟨lab, hlab⟩ : ∃ e, ofL ck ss (a ++ b) = e := ⟨_, rfl⟩
  have HEAB := Lib.hid heab
  have HLAB := Lib.hid hlab
  clear heab hlab
  go_cut [11, 12] from 44 (fun x11 x12 wx => x12 = .int .i64 eab ∧ SlR 1 iR wx x11 lab ∧ Below w6.heap.size w6 wx)
  case first =>
    go_region_held3 (fun W => W.cell? ⟨ga, 0, none⟩ = some (.slice A1 n1 c1) ∧ W.cell? ⟨ga, 1, none⟩ = some (.slice A2 n2 c2) ∧ W.cell? ⟨ga, 2, none⟩ = some (.slice A3 n3 c3) ∧ W.cell? ⟨ga, 3, none⟩ = some (.slice A4 n4 c4) ∧ W.cell? ⟨ga, 4, none⟩ = some (.slice A5 n5 c5) ∧ W.cell? ⟨ga, 5, none⟩ = some (.slice A6 n6 c6) ∧ W.cell? ⟨ga, 6, none⟩ = some (.slice A7 n7 c7) ∧ Below w6.heap.size w6 W)
      (first | with_reducible exact HT7.out _ hb9 | with_reducible exact HT7.out _ hb8 | with_reducible exact HT7.out _ hb7 | with_reducible exact HT7.out _ (Below.refl _ _) | with_reducible exact HT7.out _ (Below.refl _ _).drew | exact HT7.out _ ((Below.refl _ _).drew.alloc (by simp) _) | exact HT7.out _ ((Below.refl _ _).alloc (by simp) _).drew)
      (first
        | (refine step_append_row _ (by rfl) (.tmp 45) (.tmp 46) 33 42 (by rfl) j0 _ 56 Tryz.underlying33 HJ.out.1 HJ.out.2.1 HJ.out.2.2.1 HJ.out.2.2.2 rfl (by decide) (R := fun _ => qClaimsR w) (fun _ => qClaimsR_one w) w6.heap.size (.slice (some ⟨w6.heap.size, 0, none⟩) 0 0) 0 [] (by rfl) ?_ A n c a (by rfl) ?_ ?_ ?_ ?_ ?_
           · first | exact (own_of_blk (Blk.new w6 42 #[]).drew (Nat.le_refl _)) | exact (own_of_blk (Blk.new w6 42 #[]) (Nat.le_refl _))
           · first | exact HA.out.1.fix (HBW6.out.trans ((below_one _ _).drew.mono HBW6.out.size)) | exact HA.out.1.fix (HBW6.out.trans ((Below.refl _ _).drew.alloc (by simp) _ |>.mono HBW6.out.size))
           · have := HAn.out; unfold maxLen; omega
           · have := HAn.out; omega
           · simp
           intro v7 w7 cs7 hc7 ho7 hg7 ha7
           have hb7 : Below w6.heap.size w6 w7 := by first | exact (below_one _ _).drew.grown hg7 (by simp) (by simp [Value.ownBlock]) | exact ((Below.refl _ _).drew.alloc (by simp) _).grown hg7 (by simp) (by simp [Value.ownBlock])
           rw [Nat.zero_add, List.nil_append] at ho7
           have HO7 := Lib.hid ho7
           have HC7 := Lib.hid hc7
           clear hc7 ho7 hg7 ha7)
        | (refine step_append_row _ (by rfl) (.tmp 47) (.tmp 48) 33 42 (by rfl) j0 _ 56 Tryz.underlying33 HJ.out.1 HJ.out.2.1 HJ.out.2.2.1 HJ.out.2.2.2 rfl (by decide) (R := fun _ => qClaimsR w) (fun _ => qClaimsR_one w) w6.heap.size v7 n cs7 (by rfl) ?_ B m d b (by rfl) ?_ ?_ ?_ ?_ ?_
           · exact HO7.out
           · exact HB.out.1.fix (HBW6.out.trans (hb7.mono HBW6.out.size))
           · have := HAn.out; have := HBn.out; unfold maxLen; omega
           · have := HAn.out; have := HBn.out; omega
           · exact hb7.size
           intro v8 w8 cs8 hc8 ho8 hg8 ha8
           have hb8 : Below w6.heap.size w6 w8 := hb7.grown hg8 hb7.size (fun r hr => (HO7.out.lt r hr).1)
           have hs8 : SlB 3 56 qClaimsR w8 v8 (a ++ b) := claims_row ho8 HC7.out hc8 (HBW6.out.trans (hb8.mono HBW6.out.size)) (by have := HAn.out; have := HBn.out; have := HAl.out; have := HBl.out; omega) (by have := HAn.out; have := HBn.out; have := HAl.out; have := HBl.out; simp; omega)
           obtain ⟨vA, vn, vc, rfl⟩ := hs8.form_
           have HS8 := Lib.hid hs8
           clear hc8 ho8 hg8 ha8 hs8)
        | (go_at_call 12; refine (HKN.out.of_ vA vn vc (a ++ b) w8 (HBW6.out.trans (hb8.mono HBW6.out.size)) HS8.out).mono ?_; rintro e w9 ⟨v9, rfl, hv9, hb9'⟩; have hb9 : Below w6.heap.size w6 w9 := hb8.trans (hb9'.mono hb8.size)))
    have HV9 := Lib.hid hv9
    have HB9 := Lib.hid hb9
    clear hv9 hb9' hb9 hb8 hb7
    go_wp2_with fail
    go_meet
    exact ⟨by rw [HEAB.out], by rw [← HLAB.out]; exact HV9.out, HB9.out⟩
  case rest =>
    obtain ⟨rfl, hx, hb7⟩ := hcut
    obtain ⟨wx, hwx⟩ : ∃ W, W = wc := ⟨_, rfl⟩
    subst hwx
    obtain ⟨XA, nx, xc, rfl, hnx⟩ := slR_formN hx
    have HNX := Lib.hid hnx
    have HX := Lib.hid hx
    have HB7 := Lib.hid hb7
    have HBWX := Lib.hid (HBW6.out.trans (hb7.mono HBW6.out.size))
    have HTX : Hid (∀ W, Below wx.heap.size wx W → W.cell? ⟨ga, 0, none⟩ = some (.slice A1 n1 c1) ∧ W.cell? ⟨ga, 1, none⟩ = some (.slice A2 n2 c2) ∧ W.cell? ⟨ga, 2, none⟩ = some (.slice A3 n3 c3) ∧ W.cell? ⟨ga, 3, none⟩ = some (.slice A4 n4 c4) ∧ W.cell? ⟨ga, 4, none⟩ = some (.slice A5 n5 c5) ∧ W.cell? ⟨ga, 5, none⟩ = some (.slice A6 n6 c6) ∧ W.cell? ⟨ga, 6, none⟩ = some (.slice A7 n7 c7) ∧ Below wx.heap.size wx W) := Lib.hid (fun W hW => by
      obtain ⟨q0, q1, q2, q3, q4, q5, q6, hb⟩ := HT7.out W (HB7.out.trans (hW.mono HB7.out.size))
      exact ⟨q0, q1, q2, q3, q4, q5, q6, hW⟩)
    clear hnx hx hb7
    go_upto_region 8 with fail
    go_cut [13, 14] from 54 (fun x13 x14 wy => x14 = .int .i64 eab ∧ SlR 1 iR wy x13 lab ∧ Below wx.heap.size wx wy)
    case first =>
      go_region_held3 (fun W => W.cell? ⟨ga, 0, none⟩ = some (.slice A1 n1 c1) ∧ W.cell? ⟨ga, 1, none⟩ = some (.slice A2 n2 c2) ∧ W.cell? ⟨ga, 2, none⟩ = some (.slice A3 n3 c3) ∧ W.cell? ⟨ga, 3, none⟩ = some (.slice A4 n4 c4) ∧ W.cell? ⟨ga, 4, none⟩ = some (.slice A5 n5 c5) ∧ W.cell? ⟨ga, 5, none⟩ = some (.slice A6 n6 c6) ∧ W.cell? ⟨ga, 6, none⟩ = some (.slice A7 n7 c7) ∧ Below wx.heap.size wx W)
        (first | with_reducible exact HTX.out _ hb9 | with_reducible exact HTX.out _ hb8 | with_reducible exact HTX.out _ hb7 | with_reducible exact HTX.out _ (Below.refl _ _) | with_reducible exact HTX.out _ (Below.refl _ _).drew | exact HTX.out _ ((Below.refl _ _).drew.alloc (by simp) _) | exact HTX.out _ ((Below.refl _ _).alloc (by simp) _).drew)
        (first
          | (refine step_append_row _ (by rfl) (.tmp 55) (.tmp 56) 33 42 (by rfl) j0 _ 56 Tryz.underlying33 HJ.out.1 HJ.out.2.1 HJ.out.2.2.1 HJ.out.2.2.2 rfl (by decide) (R := fun _ => qClaimsR w) (fun _ => qClaimsR_one w) wx.heap.size (.slice (some ⟨wx.heap.size, 0, none⟩) 0 0) 0 [] (by rfl) ?_ B m d b (by rfl) ?_ ?_ ?_ ?_ ?_
             · first | exact (own_of_blk (Blk.new wx 42 #[]).drew (Nat.le_refl _)) | exact (own_of_blk (Blk.new wx 42 #[]) (Nat.le_refl _))
             · first | exact HB.out.1.fix (HBWX.out.trans ((below_one _ _).drew.mono HBWX.out.size)) | exact HB.out.1.fix (HBWX.out.trans ((Below.refl _ _).drew.alloc (by simp) _ |>.mono HBWX.out.size))
             · have := HBn.out; unfold maxLen; omega
             · have := HBn.out; omega
             · simp
             intro v7 w7 cs7 hc7 ho7 hg7 ha7
             have hb7 : Below wx.heap.size wx w7 := by first | exact (below_one _ _).drew.grown hg7 (by simp) (by simp [Value.ownBlock]) | exact ((Below.refl _ _).drew.alloc (by simp) _).grown hg7 (by simp) (by simp [Value.ownBlock])
             rw [Nat.zero_add, List.nil_append] at ho7
             have HO7 := Lib.hid ho7
             have HC7 := Lib.hid hc7
             clear hc7 ho7 hg7 ha7)
          | (refine step_append_row _ (by rfl) (.tmp 57) (.tmp 58) 33 42 (by rfl) j0 _ 56 Tryz.underlying33 HJ.out.1 HJ.out.2.1 HJ.out.2.2.1 HJ.out.2.2.2 rfl (by decide) (R := fun _ => qClaimsR w) (fun _ => qClaimsR_one w) wx.heap.size v7 m cs7 (by rfl) ?_ A n c a (by rfl) ?_ ?_ ?_ ?_ ?_
             · exact HO7.out
             · exact HA.out.1.fix (HBWX.out.trans (hb7.mono HBWX.out.size))
             · have := HBn.out; have := HAn.out; unfold maxLen; omega
             · have := HBn.out; have := HAn.out; omega
             · exact hb7.size
             intro v8 w8 cs8 hc8 ho8 hg8 ha8
             have hb8 : Below wx.heap.size wx w8 := hb7.grown hg8 hb7.size (fun r hr => (HO7.out.lt r hr).1)
             have hs8 : SlB 3 56 qClaimsR w8 v8 (b ++ a) := claims_row ho8 HC7.out hc8 (HBWX.out.trans (hb8.mono HBWX.out.size)) (by have := HBn.out; have := HAn.out; have := HBl.out; have := HAl.out; omega) (by have := HBn.out; have := HAn.out; have := HBl.out; have := HAl.out; simp; omega)
             obtain ⟨vA, vn, vc, rfl⟩ := hs8.form_
             have HS8 := Lib.hid hs8
             clear hc8 ho8 hg8 ha8 hs8)
          | (go_at_call 12; refine (HKN.out.of_ vA vn vc (b ++ a) w8 (HBWX.out.trans (hb8.mono HBWX.out.size)) HS8.out).mono ?_; rintro e w9 ⟨v9, rfl, hv9, hb9'⟩; have hb9 : Below wx.heap.size wx w9 := hb8.trans (hb9'.mono hb8.size)))
      have HV9 := Lib.hid hv9
      have HB9 := Lib.hid hb9
      clear hv9 hb9' hb9 hb8 hb7
      go_wp2_with fail
      go_meet
      exact ⟨by rw [← HEAB.out, ofE_comm], by rw [← HLAB.out, ofL_comm]; exact HV9.out, HB9.out⟩
    case rest =>
      obtain ⟨rfl, hy, hb8⟩ := hcut
      obtain ⟨wy, hwy⟩ : ∃ W, W = wc := ⟨_, rfl⟩
      subst hwy
      obtain ⟨YA, ny, yc, rfl, hny⟩ := slR_formN hy
      have HNY := Lib.hid hny
      have HY := Lib.hid hy
      have HBWY := Lib.hid (HBWX.out.trans (hb8.mono HBWX.out.size))
      have HXY := Lib.hid (HX.out.mono iR_mono hb8)
      have HAY := Lib.hid (HVA6.out.mono iR_mono (HB7.out.trans (hb8.mono HB7.out.size)))
      have HBY := Lib.hid (HVB.out.mono iR_mono (HB7.out.trans (hb8.mono HB7.out.size)))
      clear hny hy hb8 HT7 HTX HX HT HB HA HKN
      by_cases e1 : ea = 0
      · subst e1
        by_cases e2 : eb = 0
        · subst e2
          obtain rfl : eab = 0 := by rw [← HEAB.out]; exact ofE_app.2 ⟨HEA.out, HEB.out⟩
          obtain rfl : na = 4 := by rw [HNA.out, ← HLA.out, ofL_yes HEA.out]
          obtain rfl : nb = 4 := by rw [HNB.out, ← HLB.out, ofL_yes HEB.out]
          obtain rfl : nx = 4 := by rw [HNX.out, ← HLAB.out, ofL_yes HEAB.out]
          obtain rfl : ny = 4 := by rw [HNY.out, ← HLAB.out, ofL_yes HEAB.out]
          have HZ : Hid (lab = List.zipWith (· + ·) la lb) := Lib.hid (by rw [← HLAB.out, ofL_app HEA.out HEB.out, HLA.out, HLB.out])
          have HMA : Hid (∀ y ∈ la, 0 ≤ y ∧ y ≤ 900100) := Lib.hid (fun y hy => ofL_small (HWE.out (ofE_ck HEA.out)) (by have := HAl.out; have := HAn.out; omega) (HLA.out ▸ hy))
          have HMB : Hid (∀ y ∈ lb, 0 ≤ y ∧ y ≤ 900100) := Lib.hid (fun y hy => ofL_small (HWE.out (ofE_ck HEB.out)) (by have := HBl.out; have := HBn.out; omega) (HLB.out ▸ hy))
          have HSA : Hid (Calls Tryz.prog 16 #[.slice XA 4 xc, .slice YA 4 yc] wy fun e w' => e = .returned (.bool true) ∧ Below wy.heap.size wy w') := Lib.hid (by
            have := sameInts23_any XA YA 4 xc 4 yc lab lab wy HXY.out HY.out
            rwa [sameL_self] at this)
          have HGE : Hid ((n : Int) ≤ t0 ss a) := Lib.hid (by rw [HAl.out]; exact t0_ge (HWE.out (ofE_ck HEA.out)) HEA.out)
          have HH : Hid (la[0]? = some (t0 ss a)) := Lib.hid (by rw [← HLA.out, of_list HEA.out]; rfl)
          clear HNA HNB HNX HNY HEAB HLAB HEA HEB HLA HLB
          go_wp2_with (go_at_call 16; refine HSA.out.mono ?_; clear HSA)
          rintro e wz ⟨rfl, hbz⟩
          have HBZ := Lib.hid hbz
          have HBWZ := Lib.hid (HBWY.out.trans (hbz.mono HBWY.out.size))
          have HXZ := Lib.hid (HXY.out.mono iR_mono hbz)
          have HAZ := Lib.hid (HAY.out.mono iR_mono hbz)
          have HBZ2 := Lib.hid (HBY.out.mono iR_mono hbz)
          clear hbz
          go_wp2_with fail
          go_loopg [15] 4 (fun q i wr => ∃ k : Nat, k ≤ 4 ∧ q = 4 - k ∧ i = .int .i64 k ∧ Below wz.heap.size wz wr)
          case atStart => exact ⟨0, by omega, rfl, rfl, Below.refl _ _⟩
          case round =>
            obtain ⟨k, hk, hq, rfl, hb⟩ := hrel
            have HQ := Lib.hid hq
            have HB := Lib.hid hb
            clear hq hb
            by_cases hlt : k < 4
            · obtain ⟨a1, o1, x, rfl, hal1, hx, hxc⟩ := i_at (HXZ.out.mono iR_mono HB.out) hlt
              obtain ⟨a2, o2, y, rfl, hal2, hy, hyc⟩ := i_at (HAZ.out.mono iR_mono HB.out) hlt
              obtain ⟨a3, o3, z, rfl, hal3, hz, hzc⟩ := i_at (HBZ2.out.mono iR_mono HB.out) hlt
              have e := hx
              rw [HZ.out] at e
              obtain rfl := zip_at e hy hz
              have by_ := HMA.out y (List.mem_of_getElem? hy)
              have bz_ := HMB.out z (List.mem_of_getElem? hz)
              have hw : wrap64 (y + z) = y + z := wrap_small (by omega) (by omega)
              have d1 : decide (y < 0) = false := by simpa using by_.1
              have hkn : (k : Int) < 4 := by omega
              have hk0 : (0 : Int) ≤ (k : Int) := by omega
              clear e hx hy hz by_ bz_
              go_wp2_with fail
              go_quiet (fail)
              go_wp2_with fail
              go_roundg (4 - (k + 1))
              case measure => have := HQ.out; omega
              case rel => exact ⟨k + 1, by omega, rfl, by go_num, below_drewN HB.out _⟩
            · obtain rfl : k = 4 := by omega
              obtain ⟨a2, o2, y, rfl, hal2, hy, hyc⟩ := i_at (HAZ.out.mono iR_mono HB.out) (k := 0) (by omega)
              rw [HH.out] at hy
              rw [Nat.add_zero] at hyc
              obtain rfl := Option.some.inj hy
              have hge := HGE.out
              have dge : decide ((n : Int) ≤ t0 ss a) = true := by simpa using hge
              generalize t0 ss a = y at *
              clear hge
              go_wp2_with fail
              go_ret
              exact ⟨rfl, HBWZ.out.trans (HB.out.mono HBWZ.out.size)⟩
        · have hne : ¬ eab = 0 := fun h => e2 ((HEAB.out.trans h |> ofE_app.1).2 ▸ HEB.out.symm)
          obtain rfl : nx = 0 := by rw [HNX.out, ← HLAB.out, ofL_no (fun h => hne (HEAB.out.symm.trans h))]; rfl
          go_wp2_with fail
          go_ret
          exact ⟨ret_bool (by simpa using hne), HBWY.out⟩
      · have hne : ¬ eab = 0 := fun h => e1 ((HEAB.out.trans h |> ofE_app.1).1 ▸ HEA.out.symm)
        obtain rfl : nx = 0 := by rw [HNX.out, ← HLAB.out, ofL_no (fun h => hne (HEAB.out.symm.trans h))]; rfl
        go_wp2_with fail
        go_ret
        exact ⟨ret_bool (by simpa using hne), HBWY.out⟩
end Go.Proofs.YtkgmonplcdnnbaaGreat
