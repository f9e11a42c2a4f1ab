/- Contracts of the reference's fields, Schema, Purpose, Field. Written by genref2.py. -/
import Derived.Test.YtkkkephjljiplaaNmRf1
namespace Go.Proofs.Ytkkkephjljiplaa
open Go.RowKit

set_option maxHeartbeats 2000000 in
set_option maxRecDepth 100000 in
theorem refFields_any (A1 A2 A3 A4 A5 A6 : Option Addr) (n1 c1 n2 c2 n3 c3 n4 c4 n5 c5 n6 c6 : Nat) (s : QSource) (a : Int) (w : World) (h : SlR 6 qSchemaR w (.slice A3 n3 c3) s.schemas) :
    Calls Try.prog 61 #[.agg #[.slice A1 n1 c1, .slice A2 n2 c2, .slice A3 n3 c3, .slice A4 n4 c4, .slice A5 n5 c5, .slice A6 n6 c6], .int .i64 a] w (RetStrs (fieldNo s a) w) := by
  have hlen := h.len
  have hle := h.le
  have HL := Lib.hid hlen
  have HS := Lib.hid h
  clear h hlen
  obtain ⟨i0, hi, hz0, hz1, hz2⟩ := info_parts Try.infoStr
  have I0 := Lib.hid hi
  have Z0 := Lib.hid (And.intro hz0 (And.intro hz1 hz2))
  clear hi hz0 hz1 hz2
  by_cases h0 : 0 ≤ a
  · obtain ⟨i, rfl⟩ : ∃ i : Nat, a = (i : Int) := ⟨a.toNat, by omega⟩
    by_cases hin : i < n3
    · obtain ⟨y, hy⟩ : ∃ y, s.schemas[i]? = some y := ⟨s.schemas[i]'(by have := HL.out; omega), List.getElem?_eq_getElem _⟩
      have e : fieldNo s (i : Int) = fieldNames y := by unfold fieldNo; rw [if_pos h0, Int.toNat_natCast, hy]; rfl
      rw [e]
      have d0 : decide ((i : Int) < 0) = false := by simp
      have d1 : decide (n3 ≤ i) = false := by simp; omega
      have d2 : decide ((n3 : Int) ≤ (i : Int)) = false := by simp; omega
      have hi1 : (i : Int) < (n3 : Int) := by omega
      have HY := Lib.hid hy
      obtain ⟨b, off, y', B1, m1, e1, B2, m2, e2, rfl, hbl, hy', s0, s1, s2, s3, s4, s5, hfl, -⟩ := qSchema_at HS.out hin
      obtain rfl : y = y' := by rw [hy] at hy'; exact Option.some.inj hy'
      have HF := Lib.hid hfl.1
      have HM := Lib.hid hfl.1.len
      have mle := hfl.1.le
      have mbd : m1 * 120 ≤ 140737488355328 := by rw [hfl.1.len]; exact hfl.2
      have HC := Lib.hid s4
      clear e hy hy' hfl s0 s1 s2 s3 s4 s5
      go_enter Try.func61, Try.ntmps61
      go_upto_region 2 with fail
      have hst := NL.start w 29 #[.slice A1 n1 c1, .slice A2 n2 c2, .slice (some ⟨b, off, none⟩) n3 c3, .slice A4 n4 c4, .slice A5 n5 c5, .slice A6 n6 c6] (fieldNames y)
      generalize (w.alloc (.cells #[.slice A1 n1 c1, .slice A2 n2 c2, .slice (some ⟨b, off, none⟩) n3 c3, .slice A4 n4 c4, .slice A5 n5 c5, .slice A6 n6 c6] 29)).alloc (.cells #[] 9) = wb at hst ⊢
      have kc := hst.bs.cell 2
      simp only [List.getElem?_toArray, List.getElem?_cons_zero, List.getElem?_cons_succ] at kc
      have lb := hst.bs.lt
      have HST := Lib.hid hst
      clear hst
      have s4 := (HST.out.old.cell (p := ⟨b, off + i * 6 + 4, none⟩) hbl).trans HC.out
      have lb2 := Nat.lt_of_lt_of_le hbl HST.out.old.size
      go_wp2_with fail
      clear kc lb s4 lb2
      go_loopg [5, 6] m1 (fun q l i wr => ∃ (k : Nat) (A : Option Addr) (m c : Nat), k ≤ m1 ∧ q = m1 - k ∧ l = .slice A m c ∧ i = .int .i64 k ∧ NL w 29 #[.slice A1 n1 c1, .slice A2 n2 c2, .slice (some ⟨b, off, none⟩) n3 c3, .slice A4 n4 c4, .slice A5 n5 c5, .slice A6 n6 c6] (fieldNames y) k A m c wr)
      case atStart => exact ⟨0, _, _, _, Nat.zero_le _, rfl, rfl, rfl, HST.out⟩
      case round =>
        clear HST
        obtain ⟨k, vA, vm, vc, hk, hq, rfl, rfl, hnl⟩ := hrel
        have HQ := Lib.hid hq
        have kc := hnl.bs.cell 2
        simp only [List.getElem?_toArray, List.getElem?_cons_zero, List.getElem?_cons_succ] at kc
        have lb := hnl.bs.lt
        have HN := Lib.hid hnl
        have s4 := (hnl.old.cell (p := ⟨b, off + i * 6 + 4, none⟩) hbl).trans HC.out
        have lb2 := Nat.lt_of_lt_of_le hbl hnl.old.size
        clear hq hnl
        by_cases hlt : k < m1
        · obtain ⟨fb, fo, x, _, _, _, rfl, hfb, hx, e0, e1', e2', e3', e4', e5', e6', e7', e8', e9', e10', -⟩ := qField_at (HF.out.mono qFieldR_mono HN.out.old) hlt
          have HX : Hid ((fieldNames y)[k]? = some x.name) := Lib.hid (by unfold fieldNames; rw [List.getElem?_map, hx]; rfl)
          clear hx e1' e2' e3' e4' e5' e6' e7' e8' e9' e10'
          have hkn : (k : Int) < (m1 : Int) := by omega
          have hk0 : (0 : Int) ≤ (k : Int) := by omega
          have HO := Lib.hid HN.out.row
          go_wp2_with (at_builtin; refine wpList_append_own_at _ rfl (.tmp 29) (.tmp 40) 22 rfl (w.heap.size + 1) 9 i0 _ 1 16 Try.underlying22 I0.out Z0.out.1 Z0.out.2.1 Z0.out.2.2 rfl (by decide) (.slice vA vm vc) k _ rfl (HO.out.alloc _) ⟨wr.heap.size, 0, none⟩ 1 1 [.string x.name] rfl rfl (cell_one_new _ _ _) (by simp [Value.oneCell']) (by unfold maxLen; omega) (by omega) (by have := HN.out.bs.lt; simp; omega) ?_; intro v' W9 hown' hgrow hnil hat; obtain ⟨vA', vm', vc', rfl, hn9⟩ := HN.out.next HX.out hown' hgrow; have HN9 := Lib.hid hn9; clear hown' hgrow hnil hat hn9)
          go_roundg (m1 - (k + 1))
          case measure => have := HQ.out; omega
          case rel => exact ⟨k + 1, _, _, _, by omega, rfl, rfl, by go_num, HN9.out⟩
        · have hkn : ¬ (k : Int) < (m1 : Int) := by omega
          have HR := Lib.hid (HN.out.done (by have := HM.out; unfold fieldNames; simp; omega) (by have := HM.out; unfold fieldNames; simp; omega))
          go_wp2_with fail
          go_ret
          exact HR.out
    · have e : fieldNo s (i : Int) = [] := by unfold fieldNo; rw [if_pos h0, Int.toNat_natCast, List.getElem?_eq_none (by have := HL.out; omega)]
      rw [e]
      have d0 : decide ((i : Int) < 0) = false := by simp
      have d1 : decide (n3 ≤ i) = true := by simp; omega
      have d2 : decide ((n3 : Int) ≤ (i : Int)) = true := by simp; omega
      clear e
      go_enter Try.func61, Try.ntmps61
      go_upto_region 2 with fail
      have hst := NL.start w 29 #[.slice A1 n1 c1, .slice A2 n2 c2, .slice A3 n3 c3, .slice A4 n4 c4, .slice A5 n5 c5, .slice A6 n6 c6] ([])
      generalize (w.alloc (.cells #[.slice A1 n1 c1, .slice A2 n2 c2, .slice A3 n3 c3, .slice A4 n4 c4, .slice A5 n5 c5, .slice A6 n6 c6] 29)).alloc (.cells #[] 9) = wb at hst ⊢
      have kc := hst.bs.cell 2
      simp only [List.getElem?_toArray, List.getElem?_cons_zero, List.getElem?_cons_succ] at kc
      have lb := hst.bs.lt
      have HST := Lib.hid hst
      clear hst
      have HR := Lib.hid (HST.out.done rfl (by simp))
      go_wp2_with fail
      go_ret
      exact HR.out
  · have e : fieldNo s a = [] := by unfold fieldNo; rw [if_neg h0]
    rw [e]
    have d0 : decide (a < 0) = true := by simp; omega
    clear e
    go_enter Try.func61, Try.ntmps61
    go_upto_region 2 with fail
    have hst := NL.start w 29 #[.slice A1 n1 c1, .slice A2 n2 c2, .slice A3 n3 c3, .slice A4 n4 c4, .slice A5 n5 c5, .slice A6 n6 c6] ([])
    generalize (w.alloc (.cells #[.slice A1 n1 c1, .slice A2 n2 c2, .slice A3 n3 c3, .slice A4 n4 c4, .slice A5 n5 c5, .slice A6 n6 c6] 29)).alloc (.cells #[] 9) = wb at hst ⊢
    have kc := hst.bs.cell 2
    simp only [List.getElem?_toArray, List.getElem?_cons_zero, List.getElem?_cons_succ] at kc
    have lb := hst.bs.lt
    have HST := Lib.hid hst
    clear hst
    have HR := Lib.hid (HST.out.done rfl (by simp))
    go_wp2_with fail
    go_ret
    exact HR.out

set_option maxHeartbeats 1000000 in
set_option maxRecDepth 100000 in
theorem refSchema_any (A1 A2 A3 A4 A5 A6 : Option Addr) (n1 c1 n2 c2 n3 c3 n4 c4 n5 c5 n6 c6 : Nat) (s : QSource) (nm : ByteArray) (w : World) (h : SlB 6 96 qSchemaR w (.slice A3 n3 c3) s.schemas) :
    Calls Try.prog 20 #[.agg #[.slice A1 n1 c1, .slice A2 n2 c2, .slice A3 n3 c3, .slice A4 n4 c4, .slice A5 n5 c5, .slice A6 n6 c6], .string nm] w fun e w' => e = .returned (.tuple #[.int .i64 (firstI (schemaNames s) nm), .bool (firstB (schemaNames s) nm)]) ∧ Below w.heap.size w w' := by
  have H := Lib.hid h
  clear h
  go_enter Try.func20, Try.ntmps20
  go_upto_region 1 with fail
  have hk : Blk (w.alloc (.cells #[.slice A1 n1 c1, .slice A2 n2 c2, .slice A3 n3 c3, .slice A4 n4 c4, .slice A5 n5 c5, .slice A6 n6 c6] 29)) w.heap.size 29 #[.slice A1 n1 c1, .slice A2 n2 c2, .slice A3 n3 c3, .slice A4 n4 c4, .slice A5 n5 c5, .slice A6 n6 c6] := Blk.new _ _ _
  have hb : Below w.heap.size w (w.alloc (.cells #[.slice A1 n1 c1, .slice A2 n2 c2, .slice A3 n3 c3, .slice A4 n4 c4, .slice A5 n5 c5, .slice A6 n6 c6] 29)) := (Below.refl _ _).alloc (Nat.le_refl _) _
  obtain ⟨g, hg⟩ : ∃ g, g = w.heap.size := ⟨_, rfl⟩
  rw [← hg] at hk ⊢
  generalize w.alloc (.cells #[.slice A1 n1 c1, .slice A2 n2 c2, .slice A3 n3 c3, .slice A4 n4 c4, .slice A5 n5 c5, .slice A6 n6 c6] 29) = wb at hk hb ⊢
  have k0 := hk.cell 0
  have k1 := hk.cell 1
  have k2 := hk.cell 2
  have k3 := hk.cell 3
  have k4 := hk.cell 4
  have k5 := hk.cell 5
  have lk := hk.lt
  simp only [List.getElem?_toArray, List.getElem?_cons_zero, List.getElem?_cons_succ] at k0 k1 k2 k3 k4 k5
  have HB := Lib.hid hb
  clear hk hb hg
  go_wp2_with fail
  refine (refSchemas_any A1 A2 A3 A4 A5 A6 n1 c1 n2 c2 n3 c3 n4 c4 n5 c5 n6 c6 s wb (H.out.mono qSchemaR_mono HB.out)).mono ?_
  rintro e w1 ⟨A, c, rfl, hs1, hb1⟩
  have HB1 := Lib.hid (HB.out.trans (hb1.mono HB.out.size))
  have HS1 := Lib.hid hs1
  clear hb1 hs1 k0 k1 k2 k3 k4 k5 lk
  go_wp2_with fail
  refine (refFind_any _ _ _ (schemaNames s) nm w1 HS1.out.1).mono ?_
  rintro e w2 ⟨rfl, rfl⟩
  go_wp2_with fail
  refine (found_any (schemaNames s) nm _).mono ?_
  rintro e w3 ⟨rfl, rfl⟩
  go_wp2_with fail
  go_ret2
  exact ⟨rfl, HB1.out⟩

set_option maxHeartbeats 1000000 in
set_option maxRecDepth 100000 in
theorem refPurpose_any (A1 A2 A3 A4 A5 A6 : Option Addr) (n1 c1 n2 c2 n3 c3 n4 c4 n5 c5 n6 c6 : Nat) (s : QSource) (nm : ByteArray) (w : World) (h : SlB 3 48 qPurposeR w (.slice A6 n6 c6) s.purposes) :
    Calls Try.prog 22 #[.agg #[.slice A1 n1 c1, .slice A2 n2 c2, .slice A3 n3 c3, .slice A4 n4 c4, .slice A5 n5 c5, .slice A6 n6 c6], .string nm] w fun e w' => e = .returned (.tuple #[.int .i64 (firstI (purposeNames s) nm), .bool (firstB (purposeNames s) nm)]) ∧ Below w.heap.size w w' := by
  have H := Lib.hid h
  clear h
  go_enter Try.func22, Try.ntmps22
  go_upto_region 1 with fail
  have hk : Blk (w.alloc (.cells #[.slice A1 n1 c1, .slice A2 n2 c2, .slice A3 n3 c3, .slice A4 n4 c4, .slice A5 n5 c5, .slice A6 n6 c6] 29)) w.heap.size 29 #[.slice A1 n1 c1, .slice A2 n2 c2, .slice A3 n3 c3, .slice A4 n4 c4, .slice A5 n5 c5, .slice A6 n6 c6] := Blk.new _ _ _
  have hb : Below w.heap.size w (w.alloc (.cells #[.slice A1 n1 c1, .slice A2 n2 c2, .slice A3 n3 c3, .slice A4 n4 c4, .slice A5 n5 c5, .slice A6 n6 c6] 29)) := (Below.refl _ _).alloc (Nat.le_refl _) _
  obtain ⟨g, hg⟩ : ∃ g, g = w.heap.size := ⟨_, rfl⟩
  rw [← hg] at hk ⊢
  generalize w.alloc (.cells #[.slice A1 n1 c1, .slice A2 n2 c2, .slice A3 n3 c3, .slice A4 n4 c4, .slice A5 n5 c5, .slice A6 n6 c6] 29) = wb at hk hb ⊢
  have k0 := hk.cell 0
  have k1 := hk.cell 1
  have k2 := hk.cell 2
  have k3 := hk.cell 3
  have k4 := hk.cell 4
  have k5 := hk.cell 5
  have lk := hk.lt
  simp only [List.getElem?_toArray, List.getElem?_cons_zero, List.getElem?_cons_succ] at k0 k1 k2 k3 k4 k5
  have HB := Lib.hid hb
  clear hk hb hg
  go_wp2_with fail
  refine (refPurposes_any A1 A2 A3 A4 A5 A6 n1 c1 n2 c2 n3 c3 n4 c4 n5 c5 n6 c6 s wb (H.out.mono qPurposeR_mono HB.out)).mono ?_
  rintro e w1 ⟨A, c, rfl, hs1, hb1⟩
  have HB1 := Lib.hid (HB.out.trans (hb1.mono HB.out.size))
  have HS1 := Lib.hid hs1
  clear hb1 hs1 k0 k1 k2 k3 k4 k5 lk
  go_wp2_with fail
  refine (refFind_any _ _ _ (purposeNames s) nm w1 HS1.out.1).mono ?_
  rintro e w2 ⟨rfl, rfl⟩
  go_wp2_with fail
  refine (found_any (purposeNames s) nm _).mono ?_
  rintro e w3 ⟨rfl, rfl⟩
  go_wp2_with fail
  go_ret2
  exact ⟨rfl, HB1.out⟩

set_option maxHeartbeats 1000000 in
set_option maxRecDepth 100000 in
theorem refField_any (A1 A2 A3 A4 A5 A6 : Option Addr) (n1 c1 n2 c2 n3 c3 n4 c4 n5 c5 n6 c6 : Nat) (s : QSource) (a : Int) (nm : ByteArray) (w : World) (h : SlR 6 qSchemaR w (.slice A3 n3 c3) s.schemas) :
    Calls Try.prog 24 #[.agg #[.slice A1 n1 c1, .slice A2 n2 c2, .slice A3 n3 c3, .slice A4 n4 c4, .slice A5 n5 c5, .slice A6 n6 c6], .int .i64 a, .string nm] w fun e w' => e = .returned (.tuple #[.int .i64 (firstI (fieldNo s a) nm), .bool (firstB (fieldNo s a) nm)]) ∧ Below w.heap.size w w' := by
  have H := Lib.hid h
  clear h
  go_enter Try.func24, Try.ntmps24
  go_upto_region 1 with fail
  have hk : Blk (w.alloc (.cells #[.slice A1 n1 c1, .slice A2 n2 c2, .slice A3 n3 c3, .slice A4 n4 c4, .slice A5 n5 c5, .slice A6 n6 c6] 29)) w.heap.size 29 #[.slice A1 n1 c1, .slice A2 n2 c2, .slice A3 n3 c3, .slice A4 n4 c4, .slice A5 n5 c5, .slice A6 n6 c6] := Blk.new _ _ _
  have hb : Below w.heap.size w (w.alloc (.cells #[.slice A1 n1 c1, .slice A2 n2 c2, .slice A3 n3 c3, .slice A4 n4 c4, .slice A5 n5 c5, .slice A6 n6 c6] 29)) := (Below.refl _ _).alloc (Nat.le_refl _) _
  obtain ⟨g, hg⟩ : ∃ g, g = w.heap.size := ⟨_, rfl⟩
  rw [← hg] at hk ⊢
  generalize w.alloc (.cells #[.slice A1 n1 c1, .slice A2 n2 c2, .slice A3 n3 c3, .slice A4 n4 c4, .slice A5 n5 c5, .slice A6 n6 c6] 29) = wb at hk hb ⊢
  have k0 := hk.cell 0
  have k1 := hk.cell 1
  have k2 := hk.cell 2
  have k3 := hk.cell 3
  have k4 := hk.cell 4
  have k5 := hk.cell 5
  have lk := hk.lt
  simp only [List.getElem?_toArray, List.getElem?_cons_zero, List.getElem?_cons_succ] at k0 k1 k2 k3 k4 k5
  have HB := Lib.hid hb
  clear hk hb hg
  go_wp2_with fail
  refine (refFields_any A1 A2 A3 A4 A5 A6 n1 c1 n2 c2 n3 c3 n4 c4 n5 c5 n6 c6 s a wb (H.out.mono qSchemaR_mono HB.out)).mono ?_
  rintro e w1 ⟨A, c, rfl, hs1, hb1⟩
  have HB1 := Lib.hid (HB.out.trans (hb1.mono HB.out.size))
  have HS1 := Lib.hid hs1
  clear hb1 hs1 k0 k1 k2 k3 k4 k5 lk
  go_wp2_with fail
  refine (refFind_any _ _ _ (fieldNo s a) nm w1 HS1.out.1).mono ?_
  rintro e w2 ⟨rfl, rfl⟩
  go_wp2_with fail
  refine (found_any (fieldNo s a) nm _).mono ?_
  rintro e w3 ⟨rfl, rfl⟩
  go_wp2_with fail
  go_ret2
  exact ⟨rfl, HB1.out⟩

end Go.Proofs.Ytkkkephjljiplaa
