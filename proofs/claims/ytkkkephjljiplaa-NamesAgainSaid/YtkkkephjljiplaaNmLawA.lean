/- The law NamesAgain: it answers true. -/
import Derived.Test.YtkkkephjljiplaaNmBare
import Derived.Test.YtkkkephjljiplaaNmSane
import Derived.Test.YtkkkephjljiplaaNmFew
import Derived.Test.YtkkkephjljiplaaNmSameF
namespace Go.Proofs.Ytkkkephjljiplaa
open Go.RowKit

set_option maxHeartbeats 4000000 in
set_option maxRecDepth 100000 in
theorem again_any (A1 A2 A3 A4 A5 A6 : Option Addr) (n1 c1 n2 c2 n3 c3 n4 c4 n5 c5 n6 c6 : Nat) (s : QSource) (w : World)
    (h1 : SlB 1 16 strR w (.slice A1 n1 c1) s.issuers) (h2 : SlB 5 56 qUnitR w (.slice A2 n2 c2) s.units) (h3 : SlB 6 96 qSchemaR w (.slice A3 n3 c3) s.schemas) (h4 : SlB 5 96 qRuleR w (.slice A4 n4 c4) s.rules) (h5 : SlB 5 72 qConvertR w (.slice A5 n5 c5) s.converts) (h6 : SlB 3 48 qPurposeR w (.slice A6 n6 c6) s.purposes) :
    Calls Try.prog 5 #[.agg #[.slice A1 n1 c1, .slice A2 n2 c2, .slice A3 n3 c3, .slice A4 n4 c4, .slice A5 n5 c5, .slice A6 n6 c6]] w fun e w' => e = .returned (.bool true) ∧ Below w.heap.size w w' := by
  have H1 := Lib.hid h1
  clear h1
  have H2 := Lib.hid h2
  clear h2
  have H3 := Lib.hid h3
  clear h3
  have H4 := Lib.hid h4
  clear h4
  have H5 := Lib.hid h5
  clear h5
  have H6 := Lib.hid h6
  clear h6
  go_enter Try.func5, Try.ntmps5
  go_upto_region 1 with fail
  have hk : Blk (w.alloc (.cells #[.slice A1 n1 c1, .slice A2 n2 c2, .slice A3 n3 c3, .slice A4 n4 c4, .slice A5 n5 c5, .slice A6 n6 c6] 29)) w.heap.size 29 #[.slice A1 n1 c1, .slice A2 n2 c2, .slice A3 n3 c3, .slice A4 n4 c4, .slice A5 n5 c5, .slice A6 n6 c6] := Blk.new _ _ _
  have hb : Below w.heap.size w (w.alloc (.cells #[.slice A1 n1 c1, .slice A2 n2 c2, .slice A3 n3 c3, .slice A4 n4 c4, .slice A5 n5 c5, .slice A6 n6 c6] 29)) := (Below.refl _ _).alloc (Nat.le_refl _) _
  obtain ⟨g, hg⟩ : ∃ g, g = w.heap.size := ⟨_, rfl⟩
  rw [← hg] at hk ⊢
  generalize w.alloc (.cells #[.slice A1 n1 c1, .slice A2 n2 c2, .slice A3 n3 c3, .slice A4 n4 c4, .slice A5 n5 c5, .slice A6 n6 c6] 29) = wb at hk hb ⊢
  have HK := Lib.hid hk
  have HB := Lib.hid hb
  clear hk hb hg
  go_wp2_with fail
  refine (sane_any wb).mono ?_
  rintro e w1 ⟨rfl, hb1⟩
  have hk1 := HK.out.below hb1 HK.out.lt
  have k0 := hk1.cell 0
  have k1 := hk1.cell 1
  have k2 := hk1.cell 2
  have k3 := hk1.cell 3
  have k4 := hk1.cell 4
  have k5 := hk1.cell 5
  simp only [List.getElem?_toArray, List.getElem?_cons_zero, List.getElem?_cons_succ] at k0 k1 k2 k3 k4 k5
  have HK1 := Lib.hid hk1
  have HB1 := Lib.hid (HB.out.trans (hb1.mono HB.out.size))
  clear hk1 hb1 HK HB
  go_wp2_with fail
  refine (few_any A1 A2 A3 A4 A5 A6 n1 c1 n2 c2 n3 c3 n4 c4 n5 c5 n6 c6 s w1 (H3.out.1.mono qSchemaR_mono HB1.out) (H4.out.1.mono qRuleR_mono HB1.out) (H5.out.1.mono qConvertR_mono HB1.out) (H6.out.1.mono qPurposeR_mono HB1.out)).mono ?_
  rintro e w2 ⟨⟨b, rfl⟩, hb2⟩
  clear k0 k1 k2 k3 k4 k5
  have HK2 := Lib.hid (HK1.out.below hb2 HK1.out.lt)
  have HB2 := Lib.hid (HB1.out.trans (hb2.mono HB1.out.size))
  clear hb2 HB1 HK1
  cases b with
  | false =>
    go_wp2_with fail
    go_ret
    exact ⟨rfl, HB2.out⟩
  | true =>
    have k0 := HK2.out.cell 0
    have k1 := HK2.out.cell 1
    have k2 := HK2.out.cell 2
    have k3 := HK2.out.cell 3
    have k4 := HK2.out.cell 4
    have k5 := HK2.out.cell 5
    simp only [List.getElem?_toArray, List.getElem?_cons_zero, List.getElem?_cons_succ] at k0 k1 k2 k3 k4 k5
    go_wp2_with fail
    refine (resolve_any A1 A2 A3 A4 A5 A6 n1 c1 n2 c2 n3 c3 n4 c4 n5 c5 n6 c6 s w2 (H1.out.mono strR_mono HB2.out) (H2.out.mono qUnitR_mono HB2.out) (H3.out.mono qSchemaR_mono HB2.out) (H4.out.mono qRuleR_mono HB2.out) (H5.out.mono qConvertR_mono HB2.out) (H6.out.mono qPurposeR_mono HB2.out)).mono ?_
    rintro e w3 ⟨cs, rfl, ⟨X1, p1, q1, X2, p2, q2, X3, p3, q3, X4, p4, q4, X5, p5, q5, X6, p6, q6, rfl, x1, x2, x3, x4, x5, x6⟩, hb3⟩
    obtain ⟨ev, xv, hr⟩ : ∃ a b, resolveP s = (a, b) := ⟨_, _, rfl⟩
    rw [hr] at x1 x2 x3 x4 x5 x6 ⊢
    dsimp only at x1 x2 x3 x4 x5 x6
    have HR := Lib.hid hr
    clear hr
    have HB3 := Lib.hid (HB2.out.trans (hb3.mono HB2.out.size))
    have HK3 := Lib.hid (HK2.out.below hb3 HK2.out.lt)
    clear k0 k1 k2 k3 k4 k5 hb3 HB2 HK2
    go_upto_region 6 with fail
    have hal : Below w3.heap.size w3 (w3.alloc (.cells #[.slice X1 p1 q1, .slice X2 p2 q2, .slice X3 p3 q3, .slice X4 p4 q4, .slice X5 p5 q5, .slice X6 p6 q6] 29)) := (Below.refl _ _).alloc (Nat.le_refl _) _
    have hx4 : Blk (w3.alloc (.cells #[.slice X1 p1 q1, .slice X2 p2 q2, .slice X3 p3 q3, .slice X4 p4 q4, .slice X5 p5 q5, .slice X6 p6 q6] 29)) w3.heap.size 29 #[.slice X1 p1 q1, .slice X2 p2 q2, .slice X3 p3 q3, .slice X4 p4 q4, .slice X5 p5 q5, .slice X6 p6 q6] := Blk.new _ _ _
    have HB4 := Lib.hid (HB3.out.trans (hal.mono HB3.out.size))
    have HK4 := Lib.hid (HK3.out.below hal HK3.out.lt)
    have X1' := Lib.hid (x1.mono strR_mono hal)
    clear x1
    have X2' := Lib.hid (x2.mono qUnitR_mono hal)
    clear x2
    have X3' := Lib.hid (x3.mono qSchemaR_mono hal)
    clear x3
    have X4' := Lib.hid (x4.mono qRuleR_mono hal)
    clear x4
    have X5' := Lib.hid (x5.mono qConvertR_mono hal)
    clear x5
    have X6' := Lib.hid (x6.mono qPurposeR_mono hal)
    clear x6
    obtain ⟨gx, hgx⟩ : ∃ g, g = w3.heap.size := ⟨_, rfl⟩
    rw [← hgx] at hx4 ⊢
    generalize w3.alloc (.cells #[.slice X1 p1 q1, .slice X2 p2 q2, .slice X3 p3 q3, .slice X4 p4 q4, .slice X5 p5 q5, .slice X6 p6 q6] 29) = w4 at hx4 HB4 HK4 X1' X2' X3' X4' X5' X6' ⊢
    have HX4 := Lib.hid hx4
    clear hx4 hgx hal HB3 HK3
    have k0 := HK4.out.cell 0
    have k1 := HK4.out.cell 1
    have k2 := HK4.out.cell 2
    have k3 := HK4.out.cell 3
    have k4 := HK4.out.cell 4
    have k5 := HK4.out.cell 5
    simp only [List.getElem?_toArray, List.getElem?_cons_zero, List.getElem?_cons_succ] at k0 k1 k2 k3 k4 k5
    go_wp2_with fail
    refine (bare_any A1 n1 c1 A2 n2 c2 A3 n3 c3 A4 n4 c4 A5 n5 c5 A6 n6 c6 s w4 (H1.out.mono strR_mono HB4.out) (H2.out.mono qUnitR_mono HB4.out) (H3.out.mono qSchemaR_mono HB4.out) (H4.out.mono qRuleR_mono HB4.out) (H5.out.mono qConvertR_mono HB4.out) (H6.out.mono qPurposeR_mono HB4.out)).mono ?_
    rintro e w5 ⟨cs, rfl, ⟨Y1, m1, d1, Y2, m2, d2, Y3, m3, d3, Y4, m4, d4, Y5, m5, d5, Y6, m6, d6, rfl, y1, y2, y3, y4, y5, y6⟩, hb5⟩
    have HB5 := Lib.hid hb5
    clear k0 k1 k2 k3 k4 k5 hb5
    go_wp2_with fail
    refine (resolve_any Y1 Y2 Y3 Y4 Y5 Y6 m1 d1 m2 d2 m3 d3 m4 d4 m5 d5 m6 d6 (bareP s) w5 y1 y2 y3 y4 y5 y6).mono ?_
    intro e w6 h6
    unfold RetResolve at h6
    rw [resolveP_bare, HR.out] at h6
    obtain ⟨cs, rfl, ⟨Z1, t1, u1, Z2, t2, u2, Z3, t3, u3, Z4, t4, u4, Z5, t5, u5, Z6, t6, u6, rfl, z1, z2, z3, z4, z5, z6⟩, hb6⟩ := h6
    dsimp only at z1 z2 z3 z4 z5 z6
    clear y1 y2 y3 y4 y5 y6
    have hb46 : Below w4.heap.size w4 w6 := HB5.out.trans (hb6.mono HB5.out.size)
    clear HB5 hb6
    go_upto_region 7 with fail
    have hal : Below w6.heap.size w6 (w6.alloc (.cells #[.slice Z1 t1 u1, .slice Z2 t2 u2, .slice Z3 t3 u3, .slice Z4 t4 u4, .slice Z5 t5 u5, .slice Z6 t6 u6] 29)) := (Below.refl _ _).alloc (Nat.le_refl _) _
    have hz7 : Blk (w6.alloc (.cells #[.slice Z1 t1 u1, .slice Z2 t2 u2, .slice Z3 t3 u3, .slice Z4 t4 u4, .slice Z5 t5 u5, .slice Z6 t6 u6] 29)) w6.heap.size 29 #[.slice Z1 t1 u1, .slice Z2 t2 u2, .slice Z3 t3 u3, .slice Z4 t4 u4, .slice Z5 t5 u5, .slice Z6 t6 u6] := Blk.new _ _ _
    have hx7 := (HX4.out.below hb46 HX4.out.lt).alloc (.cells #[.slice Z1 t1 u1, .slice Z2 t2 u2, .slice Z3 t3 u3, .slice Z4 t4 u4, .slice Z5 t5 u5, .slice Z6 t6 u6] 29)
    have hb47 := hb46.trans (hal.mono hb46.size)
    have HB7 := Lib.hid (HB4.out.trans (hb47.mono HB4.out.size))
    have Z1' := Lib.hid (z1.mono strR_mono hal)
    have hx11 := X1'.out.mono strR_mono hb47
    clear z1 X1'
    have X1' := Lib.hid hx11
    clear hx11
    have Z2' := Lib.hid (z2.mono qUnitR_mono hal)
    have hx12 := X2'.out.mono qUnitR_mono hb47
    clear z2 X2'
    have X2' := Lib.hid hx12
    clear hx12
    have Z3' := Lib.hid (z3.mono qSchemaR_mono hal)
    have hx13 := X3'.out.mono qSchemaR_mono hb47
    clear z3 X3'
    have X3' := Lib.hid hx13
    clear hx13
    have Z4' := Lib.hid (z4.mono qRuleR_mono hal)
    have hx14 := X4'.out.mono qRuleR_mono hb47
    clear z4 X4'
    have X4' := Lib.hid hx14
    clear hx14
    have Z5' := Lib.hid (z5.mono qConvertR_mono hal)
    have hx15 := X5'.out.mono qConvertR_mono hb47
    clear z5 X5'
    have X5' := Lib.hid hx15
    clear hx15
    have Z6' := Lib.hid (z6.mono qPurposeR_mono hal)
    have hx16 := X6'.out.mono qPurposeR_mono hb47
    clear z6 X6'
    have X6' := Lib.hid hx16
    clear hx16
    obtain rfl : p1 = t1 := by rw [X1'.out.1.len, Z1'.out.1.len]
    obtain rfl : p2 = t2 := by rw [X2'.out.1.len, Z2'.out.1.len]
    obtain rfl : p3 = t3 := by rw [X3'.out.1.len, Z3'.out.1.len]
    obtain rfl : p4 = t4 := by rw [X4'.out.1.len, Z4'.out.1.len]
    obtain rfl : p5 = t5 := by rw [X5'.out.1.len, Z5'.out.1.len]
    obtain rfl : p6 = t6 := by rw [X6'.out.1.len, Z6'.out.1.len]
    obtain ⟨gz, hgz⟩ : ∃ g, g = w6.heap.size := ⟨_, rfl⟩
    rw [← hgz] at hz7 ⊢
    generalize w6.alloc (.cells #[.slice Z1 p1 u1, .slice Z2 p2 u2, .slice Z3 p3 u3, .slice Z4 p4 u4, .slice Z5 p5 u5, .slice Z6 p6 u6] 29) = w7 at hz7 hx7 HB7 X1' Z1' X2' Z2' X3' Z3' X4' Z4' X5' Z5' X6' Z6' ⊢
    have k0 := hx7.cell 0
    have k1 := hx7.cell 1
    have k2 := hx7.cell 2
    have k3 := hx7.cell 3
    have k4 := hx7.cell 4
    have k5 := hx7.cell 5
    simp only [List.getElem?_toArray, List.getElem?_cons_zero, List.getElem?_cons_succ] at k0 k1 k2 k3 k4 k5
    have j0 := hz7.cell 0
    have j1 := hz7.cell 1
    have j2 := hz7.cell 2
    have j3 := hz7.cell 3
    have j4 := hz7.cell 4
    have j5 := hz7.cell 5
    simp only [List.getElem?_toArray, List.getElem?_cons_zero, List.getElem?_cons_succ] at j0 j1 j2 j3 j4 j5
    have HX7 := Lib.hid hx7
    clear hz7 hx7 hgz hal hb46 hb47 HB4 HK4 HX4
    go_wp2_with fail
    refine (same_eq X1 Z1 X2 Z2 X3 Z3 X4 Z4 X5 Z5 X6 Z6 p1 q1 u1 p2 q2 u2 p3 q3 u3 p4 q4 u4 p5 q5 u5 p6 q6 u6 xv w7 X1'.out.1 Z1'.out.1 X2'.out.1 Z2'.out.1 X3'.out.1 Z3'.out.1 X4'.out.1 Z4'.out.1 X5'.out.1 Z5'.out.1 X6'.out.1 Z6'.out.1).mono ?_
    rintro e w8 ⟨rfl, hb8⟩
    clear k0 k1 k2 k3 k4 k5 j0 j1 j2 j3 j4 j5
    have HX8 := Lib.hid (HX7.out.below hb8 HX7.out.lt)
    have HB8 := Lib.hid (HB7.out.trans (hb8.mono HB7.out.size))
    have hx11 := X1'.out.mono strR_mono hb8
    clear X1' Z1'
    have X1' := Lib.hid hx11
    clear hx11
    have hx12 := X2'.out.mono qUnitR_mono hb8
    clear X2' Z2'
    have X2' := Lib.hid hx12
    clear hx12
    have hx13 := X3'.out.mono qSchemaR_mono hb8
    clear X3' Z3'
    have X3' := Lib.hid hx13
    clear hx13
    have hx14 := X4'.out.mono qRuleR_mono hb8
    clear X4' Z4'
    have X4' := Lib.hid hx14
    clear hx14
    have hx15 := X5'.out.mono qConvertR_mono hb8
    clear X5' Z5'
    have X5' := Lib.hid hx15
    clear hx15
    have hx16 := X6'.out.mono qPurposeR_mono hb8
    clear X6' Z6'
    have X6' := Lib.hid hx16
    clear hx16
    clear hb8 HB7 HX7
    have k0 := HX8.out.cell 0
    have k1 := HX8.out.cell 1
    have k2 := HX8.out.cell 2
    have k3 := HX8.out.cell 3
    have k4 := HX8.out.cell 4
    have k5 := HX8.out.cell 5
    simp only [List.getElem?_toArray, List.getElem?_cons_zero, List.getElem?_cons_succ] at k0 k1 k2 k3 k4 k5
    go_upto_region 9 with fail
    go_wp2_with fail
    refine (resolve_any X1 X2 X3 X4 X5 X6 p1 q1 p2 q2 p3 q3 p4 q4 p5 q5 p6 q6 xv w8 X1'.out X2'.out X3'.out X4'.out X5'.out X6'.out).mono ?_
    rintro e w9 ⟨cs, rfl, ⟨V1, e1, f1, V2, e2, f2, V3, e3, f3, V4, e4, f4, V5, e5, f5, V6, e6, f6, rfl, v1, v2, v3, v4, v5, v6⟩, hb9⟩
    clear k0 k1 k2 k3 k4 k5
    have hx9 := HX8.out.below hb9 HX8.out.lt
    have HB9 := Lib.hid (HB8.out.trans (hb9.mono HB8.out.size))
    go_upto_region 10 with fail
    have hal : Below w9.heap.size w9 (w9.alloc (.cells #[.slice V1 e1 f1, .slice V2 e2 f2, .slice V3 e3 f3, .slice V4 e4 f4, .slice V5 e5 f5, .slice V6 e6 f6] 29)) := (Below.refl _ _).alloc (Nat.le_refl _) _
    have hv10 : Blk (w9.alloc (.cells #[.slice V1 e1 f1, .slice V2 e2 f2, .slice V3 e3 f3, .slice V4 e4 f4, .slice V5 e5 f5, .slice V6 e6 f6] 29)) w9.heap.size 29 #[.slice V1 e1 f1, .slice V2 e2 f2, .slice V3 e3 f3, .slice V4 e4 f4, .slice V5 e5 f5, .slice V6 e6 f6] := Blk.new _ _ _
    have hx10 := hx9.alloc (.cells #[.slice V1 e1 f1, .slice V2 e2 f2, .slice V3 e3 f3, .slice V4 e4 f4, .slice V5 e5 f5, .slice V6 e6 f6] 29)
    have hb810 := hb9.trans (hal.mono hb9.size)
    have HBA := Lib.hid (HB9.out.trans (hal.mono HB9.out.size))
    have hrc := resolve_cases s
    rw [HR.out] at hrc
    rcases hrc with hrc | hrc | ⟨htw, x, hnum, hrc⟩
    · obtain rfl : ev = 111 := congrArg Prod.fst hrc
      clear hrc v1 v2 v3 v4 v5 v6 hv10 hx10 hx9 hb9 hb810
      go_wp2_with fail
      go_ret
      exact ⟨rfl, HBA.out⟩
    · obtain rfl : ev = 110 := congrArg Prod.fst hrc
      clear hrc v1 v2 v3 v4 v5 v6 hv10 hx10 hx9 hb9 hb810
      go_wp2_with fail
      go_ret
      exact ⟨rfl, HBA.out⟩
    obtain rfl : ev = 0 := congrArg Prod.fst hrc
    obtain rfl : x = xv := (congrArg Prod.snd hrc).symm
    have hag := resolveP_again hnum htw
    rw [hag] at v1 v2 v3 v4 v5 v6 ⊢
    dsimp only at v1 v2 v3 v4 v5 v6
    clear hrc hnum htw hag HR
    have V1' := Lib.hid (v1.mono strR_mono hal)
    have hx11 := X1'.out.mono strR_mono hb810
    clear v1 X1'
    have X1' := Lib.hid hx11
    clear hx11
    have V2' := Lib.hid (v2.mono qUnitR_mono hal)
    have hx12 := X2'.out.mono qUnitR_mono hb810
    clear v2 X2'
    have X2' := Lib.hid hx12
    clear hx12
    have V3' := Lib.hid (v3.mono qSchemaR_mono hal)
    have hx13 := X3'.out.mono qSchemaR_mono hb810
    clear v3 X3'
    have X3' := Lib.hid hx13
    clear hx13
    have V4' := Lib.hid (v4.mono qRuleR_mono hal)
    have hx14 := X4'.out.mono qRuleR_mono hb810
    clear v4 X4'
    have X4' := Lib.hid hx14
    clear hx14
    have V5' := Lib.hid (v5.mono qConvertR_mono hal)
    have hx15 := X5'.out.mono qConvertR_mono hb810
    clear v5 X5'
    have X5' := Lib.hid hx15
    clear hx15
    have V6' := Lib.hid (v6.mono qPurposeR_mono hal)
    have hx16 := X6'.out.mono qPurposeR_mono hb810
    clear v6 X6'
    have X6' := Lib.hid hx16
    clear hx16
    obtain rfl : p1 = e1 := by rw [X1'.out.1.len, V1'.out.1.len]
    obtain rfl : p2 = e2 := by rw [X2'.out.1.len, V2'.out.1.len]
    obtain rfl : p3 = e3 := by rw [X3'.out.1.len, V3'.out.1.len]
    obtain rfl : p4 = e4 := by rw [X4'.out.1.len, V4'.out.1.len]
    obtain rfl : p5 = e5 := by rw [X5'.out.1.len, V5'.out.1.len]
    obtain rfl : p6 = e6 := by rw [X6'.out.1.len, V6'.out.1.len]
    obtain ⟨gv, hgv⟩ : ∃ g, g = w9.heap.size := ⟨_, rfl⟩
    rw [← hgv] at hv10 ⊢
    generalize w9.alloc (.cells #[.slice V1 p1 f1, .slice V2 p2 f2, .slice V3 p3 f3, .slice V4 p4 f4, .slice V5 p5 f5, .slice V6 p6 f6] 29) = wA at hv10 hx10 HBA X1' V1' X2' V2' X3' V3' X4' V4' X5' V5' X6' V6' ⊢
    have k0 := hx10.cell 0
    have k1 := hx10.cell 1
    have k2 := hx10.cell 2
    have k3 := hx10.cell 3
    have k4 := hx10.cell 4
    have k5 := hx10.cell 5
    simp only [List.getElem?_toArray, List.getElem?_cons_zero, List.getElem?_cons_succ] at k0 k1 k2 k3 k4 k5
    have j0 := hv10.cell 0
    have j1 := hv10.cell 1
    have j2 := hv10.cell 2
    have j3 := hv10.cell 3
    have j4 := hv10.cell 4
    have j5 := hv10.cell 5
    simp only [List.getElem?_toArray, List.getElem?_cons_zero, List.getElem?_cons_succ] at j0 j1 j2 j3 j4 j5
    clear hv10 hx10 hgv hal hx9 hb9 hb810 HB9 HB8 HX8
    go_wp2_with fail
    refine (same_eq V1 X1 V2 X2 V3 X3 V4 X4 V5 X5 V6 X6 p1 f1 q1 p2 f2 q2 p3 f3 q3 p4 f4 q4 p5 f5 q5 p6 f6 q6 x wA V1'.out.1 X1'.out.1 V2'.out.1 X2'.out.1 V3'.out.1 X3'.out.1 V4'.out.1 X4'.out.1 V5'.out.1 X5'.out.1 V6'.out.1 X6'.out.1).mono ?_
    rintro e wB ⟨rfl, hbB⟩
    clear k0 k1 k2 k3 k4 k5 j0 j1 j2 j3 j4 j5
    have HBB := Lib.hid (HBA.out.trans (hbB.mono HBA.out.size))
    clear hbB
    go_wp2_with fail
    go_ret
    exact ⟨rfl, HBB.out⟩
end Go.Proofs.Ytkkkephjljiplaa
