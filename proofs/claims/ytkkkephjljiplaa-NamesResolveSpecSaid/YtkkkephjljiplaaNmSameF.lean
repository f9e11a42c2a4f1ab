/- Contracts: SameInts, SameType, SameSchema and Same answer true where both arguments read as the same data. Written by gensame2.py. -/
import Derived.Test.YtkkkephjljiplaaNmSameE
import Derived.Test.YtkkkephjljiplaaNmEq4
import Derived.StillTailTactics
namespace Go.Proofs.Ytkkkephjljiplaa
open Go.RowKit

set_option maxHeartbeats 1000000 in
theorem sameInts_eq (A B : Option Addr) (n c d : Nat) (l : List Int) (w : World) (hl : SlR 1 iR w (.slice A n c) l) (hr : SlR 1 iR w (.slice B n d) l) :
    Calls Try.prog 85 #[.slice A n c, .slice B n d] w fun e w' => e = .returned (.bool true) ∧ Below w.heap.size w w' := by
  have hn2 : n ≤ 9223372036854775807 := by have := hl.le; omega
  have HL := Lib.hid hl
  have HR := Lib.hid hr
  clear hl hr
  go_enter Try.func85, Try.ntmps85
  go_wp2_with fail
  go_loopg [5] n (fun q i wr => ∃ k : Nat, k ≤ n ∧ q = n - k ∧ i = .int .i64 k ∧ Below w.heap.size w wr)
  case atStart => exact ⟨0, Nat.zero_le _, rfl, rfl, Below.refl _ _⟩
  case round =>
    obtain ⟨k, hk, hq, rfl, hb⟩ := hrel
    have HQ := Lib.hid hq
    have HB := Lib.hid hb
    clear hq hb
    by_cases hlt : k < n
    · obtain ⟨a, ao, x, rfl, hal, hx, hxc⟩ := i_at (HL.out.mono iR_mono HB.out) hlt
      obtain ⟨b, bo, y, rfl, hbl, hy, hyc⟩ := i_at (HR.out.mono iR_mono HB.out) hlt
      have e : y = x := by rw [hx] at hy; exact (Option.some.inj hy).symm
      subst e
      have hkn : (k : Int) < (n : Int) := by omega
      have hk0 : (0 : Int) ≤ (k : Int) := by omega
      clear hx hy
      go_wp2_with fail
      go_quiet (fail)
      go_wp2_with fail
      go_roundg (n - (k + 1))
      case measure => have := HQ.out; omega
      case rel => exact ⟨k + 1, by omega, rfl, by go_num, below_drewN HB.out _⟩
    · go_wp2_with fail
      go_ret
      exact ⟨rfl, HB.out⟩

set_option maxHeartbeats 2000000 in
set_option maxRecDepth 100000 in
theorem sameType_eq (A1 B1 : Option Addr) (n1 c1 d1 : Nat) (x : QType) (w : World) (h1 : SlR 1 strR w (.slice A1 n1 c1) x.names) (k1 : SlR 1 strR w (.slice B1 n1 d1) x.names) :
    Calls Try.prog 84 #[.agg #[.int .i64 x.kind, .int .i64 x.lo, .int .i64 x.hi, .string x.of_, .int .i64 x.unit, .slice A1 n1 c1], .agg #[.int .i64 x.kind, .int .i64 x.lo, .int .i64 x.hi, .string x.of_, .int .i64 x.unit, .slice B1 n1 d1]] w fun e w' => e = .returned (.bool true) ∧ Below w.heap.size w w' := by
  have H1 := Lib.hid h1
  have K1 := Lib.hid k1
  clear h1 k1
  go_enter Try.func84, Try.ntmps84
  go_upto_region 1 with fail
  obtain ⟨wb, hwb⟩ : ∃ wq, wq = (w.alloc (.cells #[.int .i64 x.kind, .int .i64 x.lo, .int .i64 x.hi, .string x.of_, .int .i64 x.unit, .slice A1 n1 c1] 42)).alloc (.cells #[.int .i64 x.kind, .int .i64 x.lo, .int .i64 x.hi, .string x.of_, .int .i64 x.unit, .slice B1 n1 d1] 42) := ⟨_, rfl⟩
  rw [← hwb]
  have hbb : Below w.heap.size w wb := by rw [hwb]; exact ((Below.refl _ _).alloc (Nat.le_refl _) _).alloc (by simp) _
  have kA : Blk wb w.heap.size 42 #[.int .i64 x.kind, .int .i64 x.lo, .int .i64 x.hi, .string x.of_, .int .i64 x.unit, .slice A1 n1 c1] := by rw [hwb]; exact (Blk.new _ _ _).alloc _
  have kB : Blk wb (w.heap.size + 1) 42 #[.int .i64 x.kind, .int .i64 x.lo, .int .i64 x.hi, .string x.of_, .int .i64 x.unit, .slice B1 n1 d1] := by rw [hwb]; exact blk_new' (by simp)
  obtain ⟨ga, hga⟩ : ∃ g, g = w.heap.size := ⟨_, rfl⟩
  obtain ⟨gb, hgb⟩ : ∃ g, g = w.heap.size + 1 := ⟨_, rfl⟩
  rw [← hgb] at kB ⊢
  rw [← hga] at kA ⊢
  clear hwb hga hgb
  have a0 := kA.cell 0
  have b0 := kB.cell 0
  have a1 := kA.cell 1
  have b1 := kB.cell 1
  have a2 := kA.cell 2
  have b2 := kB.cell 2
  have a3 := kA.cell 3
  have b3 := kB.cell 3
  have a4 := kA.cell 4
  have b4 := kB.cell 4
  have a5 := kA.cell 5
  have b5 := kB.cell 5
  have la := kA.lt
  have lb := kB.lt
  simp only [List.getElem?_toArray, List.getElem?_cons_zero, List.getElem?_cons_succ] at a0 b0 a1 b1 a2 b2 a3 b3 a4 b4 a5 b5
  have HA := Lib.hid kA
  have HB := Lib.hid kB
  have HBB := Lib.hid hbb
  clear kA kB hbb
  go_wp2_with fail
  refine (sameNames_any A1 B1 n1 c1 n1 d1 x.names x.names wb (H1.out.mono strR_mono HBB.out) (K1.out.mono strR_mono HBB.out)).mono ?_
  rintro e w' ⟨rfl, hb'⟩
  have HE := Lib.hid (HBB.out.trans (hb'.mono HBB.out.size))
  have tt : decide (x.names = x.names) = true := by simp
  rw [tt]
  clear hb' tt a0 b0 a1 b1 a2 b2 a3 b3 a4 b4 a5 b5
  go_wp2_with fail
  go_ret
  exact ⟨rfl, HE.out⟩

set_option maxHeartbeats 4000000 in
set_option maxRecDepth 100000 in
theorem sameSchema_eq (A1 B1 A2 B2 : Option Addr) (n1 c1 d1 n2 c2 d2 : Nat) (x : QSchema) (w : World) (h1 : SlR 11 qFieldR w (.slice A1 n1 c1) x.fields) (k1 : SlR 11 qFieldR w (.slice B1 n1 d1) x.fields) (h2 : SlR 4 qDepR w (.slice A2 n2 c2) x.deps) (k2 : SlR 4 qDepR w (.slice B2 n2 d2) x.deps) :
    Calls Try.prog 46 #[.agg #[.string x.name, .string x.by_, .int .i64 x.issuer, .int .i64 x.version, .slice A1 n1 c1, .slice A2 n2 c2], .agg #[.string x.name, .string x.by_, .int .i64 x.issuer, .int .i64 x.version, .slice B1 n1 d1, .slice B2 n2 d2]] w fun e w' => e = .returned (.bool true) ∧ Below w.heap.size w w' := by
  have o1 : n1 ≤ 9223372036854775807 := by have := h1.le; omega
  have o2 : n2 ≤ 9223372036854775807 := by have := h2.le; omega
  have H1 := Lib.hid h1
  have K1 := Lib.hid k1
  have H2 := Lib.hid h2
  have K2 := Lib.hid k2
  clear h1 k1 h2 k2
  go_enter Try.func46, Try.ntmps46
  go_upto_region 1 with fail
  obtain ⟨wb, hwb⟩ : ∃ wq, wq = (w.alloc (.cells #[.string x.name, .string x.by_, .int .i64 x.issuer, .int .i64 x.version, .slice A1 n1 c1, .slice A2 n2 c2] 40)).alloc (.cells #[.string x.name, .string x.by_, .int .i64 x.issuer, .int .i64 x.version, .slice B1 n1 d1, .slice B2 n2 d2] 40) := ⟨_, rfl⟩
  rw [← hwb]
  have hbb : Below w.heap.size w wb := by rw [hwb]; exact ((Below.refl _ _).alloc (Nat.le_refl _) _).alloc (by simp) _
  have kA : Blk wb w.heap.size 40 #[.string x.name, .string x.by_, .int .i64 x.issuer, .int .i64 x.version, .slice A1 n1 c1, .slice A2 n2 c2] := by rw [hwb]; exact (Blk.new _ _ _).alloc _
  have kB : Blk wb (w.heap.size + 1) 40 #[.string x.name, .string x.by_, .int .i64 x.issuer, .int .i64 x.version, .slice B1 n1 d1, .slice B2 n2 d2] := by rw [hwb]; exact blk_new' (by simp)
  obtain ⟨ga, hga⟩ : ∃ g, g = w.heap.size := ⟨_, rfl⟩
  obtain ⟨gb, hgb⟩ : ∃ g, g = w.heap.size + 1 := ⟨_, rfl⟩
  rw [← hgb] at kB ⊢
  rw [← hga] at kA ⊢
  clear hwb hga hgb
  have a0 := kA.cell 0
  have b0 := kB.cell 0
  have a1 := kA.cell 1
  have b1 := kB.cell 1
  have a2 := kA.cell 2
  have b2 := kB.cell 2
  have a3 := kA.cell 3
  have b3 := kB.cell 3
  have a4 := kA.cell 4
  have b4 := kB.cell 4
  have a5 := kA.cell 5
  have b5 := kB.cell 5
  have la := kA.lt
  have lb := kB.lt
  simp only [List.getElem?_toArray, List.getElem?_cons_zero, List.getElem?_cons_succ] at a0 b0 a1 b1 a2 b2 a3 b3 a4 b4 a5 b5
  have HA := Lib.hid kA
  have HB := Lib.hid kB
  have HBB := Lib.hid hbb
  clear kA kB hbb
  go_wp2_with fail
  clear a0 b0 a1 b1 a2 b2 a3 b3 a4 b4 a5 b5
  go_loopg [5] n1 (fun q i wr => ∃ k : Nat, k ≤ n1 ∧ q = n1 - k ∧ i = .int .i64 k ∧ Below wb.heap.size wb wr)
  case atStart => exact ⟨0, Nat.zero_le _, rfl, rfl, Below.refl _ _⟩
  case round =>
    obtain ⟨k, hk, hq, rfl, hb⟩ := hrel
    have HQ := Lib.hid hq
    have HBR := Lib.hid hb
    have ac4 := ((HA.out.below hb la).cell 4)
    have bc4 := ((HB.out.below hb lb).cell 4)
    have ac5 := ((HA.out.below hb la).cell 5)
    simp only [List.getElem?_toArray, List.getElem?_cons_zero, List.getElem?_cons_succ] at ac4 bc4 ac5
    clear hq hb
    by_cases hlt : k < n1
    · obtain ⟨b1, o1', y, NA, nn, nc, rfl, hl1, hy, e0, e1, e2, e3, e4, e5, e6, e7, e8, e9, e10, hN⟩ := qField_at (H1.out.mono qFieldR_mono (HBB.out.trans (HBR.out.mono HBB.out.size))) hlt
      obtain ⟨b2, o2', y', NB, nm, nd, rfl, hl2, hy', f0, f1, f2, f3, f4, f5, f6, f7, f8, f9, f10, hM⟩ := qField_at (K1.out.mono qFieldR_mono (HBB.out.trans (HBR.out.mono HBB.out.size))) hlt
      have ey : y' = y := by rw [hy] at hy'; exact (Option.some.inj hy').symm
      subst ey
      have en : nm = nn := by have h8 := hN.1.len; have h9 := hM.1.len; omega
      subst en
      have hkn : (k : Int) < (n1 : Int) := by omega
      have hk0 : (0 : Int) ≤ (k : Int) := by omega
      have HN := Lib.hid hN.1
      have HM := Lib.hid hM.1
      have h4 := neq4 y'.w0 y'.w1 y'.w2 y'.w3
      clear hy hy' hN hM ac5
      go_wp2_with fail
      go_still_tail 41, (by kernel_rfl)
      change wpList _ _ _ _ _ wr.drew
      go_wp2_with fail
      refine (sameType_eq NA NB nm nc nd y'.type wr.drew (HN.out.mono strR_mono (Below.refl _ _).drew) (HM.out.mono strR_mono (Below.refl _ _).drew)).mono ?_
      rintro e w' ⟨rfl, hb'⟩
      have HB' := Lib.hid (HBR.out.drew.trans (hb'.mono HBR.out.size))
      clear hb'
      go_wp2_with fail
      go_roundg (n1 - (k + 1))
      case measure => have := HQ.out; omega
      case rel => exact ⟨k + 1, by omega, rfl, by go_num, HB'.out⟩
    · go_wp2_with fail
      clear ac4 bc4 ac5
      go_loopg [6] n2 (fun q i wr => ∃ k : Nat, k ≤ n2 ∧ q = n2 - k ∧ i = .int .i64 k ∧ Below wb.heap.size wb wr)
      case atStart => exact ⟨0, Nat.zero_le _, rfl, rfl, HBR.out⟩
      case round =>
        clear HBR HQ
        obtain ⟨k', hk', hq, rfl, hb⟩ := hrel
        have HQ := Lib.hid hq
        have HBR := Lib.hid hb
        have ac5 := ((HA.out.below hb la).cell 5)
        have bc5 := ((HB.out.below hb lb).cell 5)
        have lar := Nat.lt_of_lt_of_le la hb.size
        have lbr := Nat.lt_of_lt_of_le lb hb.size
        simp only [List.getElem?_toArray, List.getElem?_cons_zero, List.getElem?_cons_succ] at ac5 bc5
        clear hq hb
        by_cases hlt' : k' < n2
        · obtain ⟨b1, o1', y, NA, nn, nc, IA, im, ic, rfl, hl1, hy, e0, e1, e2, e3, hN, hI⟩ := qDep_at (H2.out.mono qDepR_mono (HBB.out.trans (HBR.out.mono HBB.out.size))) hlt'
          obtain ⟨b2, o2', y', NB, nm, nd, IB, jm, jc, rfl, hl2, hy', f0, f1, f2, f3, hM, hJ⟩ := qDep_at (K2.out.mono qDepR_mono (HBB.out.trans (HBR.out.mono HBB.out.size))) hlt'
          have ey : y' = y := by rw [hy] at hy'; exact (Option.some.inj hy').symm
          subst ey
          have en : nm = nn := by have h8 := hN.1.len; have h9 := hM.1.len; omega
          have ei : jm = im := by have h8 := hI.1.len; have h9 := hJ.1.len; omega
          subst en ei
          have hkn : (k' : Int) < (n2 : Int) := by omega
          have hk0 : (0 : Int) ≤ (k' : Int) := by omega
          clear hy hy'
          go_upto_region 13 with fail
          obtain ⟨wv, hwv⟩ : ∃ q, q = (wr.alloc (.cells #[.slice NA nm nc, .string y'.name, .slice IA jm ic, .int .i64 y'.dst] 50)).alloc (.cells #[.slice NB nm nd, .string y'.name, .slice IB jm jc, .int .i64 y'.dst] 50) := ⟨_, rfl⟩
          rw [← hwv]
          have hvv : Below wr.heap.size wr wv := by rw [hwv]; exact ((Below.refl _ _).alloc (Nat.le_refl _) _).alloc (by simp) _
          have kP : Blk wv wr.heap.size 50 #[.slice NA nm nc, .string y'.name, .slice IA jm ic, .int .i64 y'.dst] := by rw [hwv]; exact (Blk.new _ _ _).alloc _
          have kQ : Blk wv (wr.heap.size + 1) 50 #[.slice NB nm nd, .string y'.name, .slice IB jm jc, .int .i64 y'.dst] := by rw [hwv]; exact blk_new' (by simp)
          obtain ⟨gp, hgp⟩ : ∃ g, g = wr.heap.size := ⟨_, rfl⟩
          obtain ⟨gq, hgq⟩ : ∃ g, g = wr.heap.size + 1 := ⟨_, rfl⟩
          rw [← hgq] at kQ ⊢
          rw [← hgp] at kP ⊢
          have HN := Lib.hid (hN.1.mono strR_mono hvv)
          have HM := Lib.hid (hM.1.mono strR_mono hvv)
          have HI := Lib.hid (hI.1.mono iR_mono hvv)
          have HJ := Lib.hid (hJ.1.mono iR_mono hvv)
          have HBV := Lib.hid (HBR.out.trans (hvv.mono HBR.out.size))
          have p0 := kP.cell 0
          have p1 := kP.cell 1
          have p2 := kP.cell 2
          have p3 := kP.cell 3
          have r0 := kQ.cell 0
          have r1 := kQ.cell 1
          have r2 := kQ.cell 2
          have r3 := kQ.cell 3
          simp only [List.getElem?_toArray, List.getElem?_cons_zero, List.getElem?_cons_succ] at p0 p1 p2 p3 r0 r1 r2 r3
          have HP := Lib.hid kP
          have HR := Lib.hid kQ
          clear hwv hvv hgp hgq hN hM hI hJ e0 e1 e2 e3 f0 f1 f2 f3 ac5 bc5 kP kQ
          go_wp2_with fail
          refine (sameNames_any NA NB nm nc nm nd y'.names y'.names wv HN.out HM.out).mono ?_
          rintro e w1 ⟨rfl, hb1⟩
          have tt : decide (y'.names = y'.names) = true := by simp
          rw [tt]
          have s2 := (HP.out.below hb1 HP.out.lt).cell 2
          have t2 := (HR.out.below hb1 HR.out.lt).cell 2
          simp only [List.getElem?_toArray, List.getElem?_cons_zero, List.getElem?_cons_succ] at s2 t2
          have HI1 := Lib.hid (HI.out.mono iR_mono hb1)
          have HJ1 := Lib.hid (HJ.out.mono iR_mono hb1)
          have HB1 := Lib.hid (HBV.out.trans (hb1.mono HBV.out.size))
          clear hb1 tt p0 p1 p2 p3 r0 r1 r2 r3
          go_wp2_with fail
          refine (sameInts_eq IA IB jm ic jc y'.src w1 HI1.out HJ1.out).mono ?_
          rintro e w2 ⟨rfl, hb2⟩
          have HB2 := Lib.hid (HB1.out.trans (hb2.mono HB1.out.size))
          clear hb2 s2 t2
          go_wp2_with fail
          go_roundg (n2 - (k' + 1))
          case measure => have := HQ.out; omega
          case rel => exact ⟨k' + 1, by omega, rfl, by go_num, HB2.out⟩
        · go_wp2_with fail
          go_ret
          exact ⟨rfl, HBB.out.trans (HBR.out.mono HBB.out.size)⟩

set_option maxHeartbeats 4000000 in
set_option maxRecDepth 100000 in
theorem same_eq (A1 B1 A2 B2 A3 B3 A4 B4 A5 B5 A6 B6 : Option Addr) (n1 c1 d1 n2 c2 d2 n3 c3 d3 n4 c4 d4 n5 c5 d5 n6 c6 d6 : Nat) (x : QSource) (w : World) (h1 : SlR 1 strR w (.slice A1 n1 c1) x.issuers) (k1 : SlR 1 strR w (.slice B1 n1 d1) x.issuers) (h2 : SlR 5 qUnitR w (.slice A2 n2 c2) x.units) (k2 : SlR 5 qUnitR w (.slice B2 n2 d2) x.units) (h3 : SlR 6 qSchemaR w (.slice A3 n3 c3) x.schemas) (k3 : SlR 6 qSchemaR w (.slice B3 n3 d3) x.schemas) (h4 : SlR 5 qRuleR w (.slice A4 n4 c4) x.rules) (k4 : SlR 5 qRuleR w (.slice B4 n4 d4) x.rules) (h5 : SlR 5 qConvertR w (.slice A5 n5 c5) x.converts) (k5 : SlR 5 qConvertR w (.slice B5 n5 d5) x.converts) (h6 : SlR 3 qPurposeR w (.slice A6 n6 c6) x.purposes) (k6 : SlR 3 qPurposeR w (.slice B6 n6 d6) x.purposes) :
    Calls Try.prog 14 #[.agg #[.slice A1 n1 c1, .slice A2 n2 c2, .slice A3 n3 c3, .slice A4 n4 c4, .slice A5 n5 c5, .slice A6 n6 c6], .agg #[.slice B1 n1 d1, .slice B2 n2 d2, .slice B3 n3 d3, .slice B4 n4 d4, .slice B5 n5 d5, .slice B6 n6 d6]] w fun e w' => e = .returned (.bool true) ∧ Below w.heap.size w w' := by
  have o2 : n2 ≤ 9223372036854775807 := by have := h2.le; omega
  have o3 : n3 ≤ 9223372036854775807 := by have := h3.le; omega
  have o4 : n4 ≤ 9223372036854775807 := by have := h4.le; omega
  have o5 : n5 ≤ 9223372036854775807 := by have := h5.le; omega
  have o6 : n6 ≤ 9223372036854775807 := by have := h6.le; omega
  have H1 := Lib.hid h1
  have K1 := Lib.hid k1
  clear h1 k1
  have H2 := Lib.hid h2
  have K2 := Lib.hid k2
  clear h2 k2
  have H3 := Lib.hid h3
  have K3 := Lib.hid k3
  clear h3 k3
  have H4 := Lib.hid h4
  have K4 := Lib.hid k4
  clear h4 k4
  have H5 := Lib.hid h5
  have K5 := Lib.hid k5
  clear h5 k5
  have H6 := Lib.hid h6
  have K6 := Lib.hid k6
  clear h6 k6
  go_enter Try.func14, Try.ntmps14
  go_upto_region 1 with fail
  obtain ⟨wb, hwb⟩ : ∃ wq, wq = (w.alloc (.cells #[.slice A1 n1 c1, .slice A2 n2 c2, .slice A3 n3 c3, .slice A4 n4 c4, .slice A5 n5 c5, .slice A6 n6 c6] 29)).alloc (.cells #[.slice B1 n1 d1, .slice B2 n2 d2, .slice B3 n3 d3, .slice B4 n4 d4, .slice B5 n5 d5, .slice B6 n6 d6] 29) := ⟨_, rfl⟩
  rw [← hwb]
  have hbb : Below w.heap.size w wb := by rw [hwb]; exact ((Below.refl _ _).alloc (Nat.le_refl _) _).alloc (by simp) _
  have kA : Blk wb w.heap.size 29 #[.slice A1 n1 c1, .slice A2 n2 c2, .slice A3 n3 c3, .slice A4 n4 c4, .slice A5 n5 c5, .slice A6 n6 c6] := by rw [hwb]; exact (Blk.new _ _ _).alloc _
  have kB : Blk wb (w.heap.size + 1) 29 #[.slice B1 n1 d1, .slice B2 n2 d2, .slice B3 n3 d3, .slice B4 n4 d4, .slice B5 n5 d5, .slice B6 n6 d6] := by rw [hwb]; exact blk_new' (by simp)
  obtain ⟨ga, hga⟩ : ∃ g, g = w.heap.size := ⟨_, rfl⟩
  obtain ⟨gb, hgb⟩ : ∃ g, g = w.heap.size + 1 := ⟨_, rfl⟩
  rw [← hgb] at kB ⊢
  rw [← hga] at kA ⊢
  clear hwb hga hgb
  have a0 := kA.cell 0
  have b0 := kB.cell 0
  have a1 := kA.cell 1
  have b1 := kB.cell 1
  have a2 := kA.cell 2
  have b2 := kB.cell 2
  have a3 := kA.cell 3
  have b3 := kB.cell 3
  have a4 := kA.cell 4
  have b4 := kB.cell 4
  have a5 := kA.cell 5
  have b5 := kB.cell 5
  have la := kA.lt
  have lb := kB.lt
  simp only [List.getElem?_toArray, List.getElem?_cons_zero, List.getElem?_cons_succ] at a0 b0 a1 b1 a2 b2 a3 b3 a4 b4 a5 b5
  have HA := Lib.hid kA
  have HB := Lib.hid kB
  have HBB := Lib.hid hbb
  clear kA kB hbb
  go_wp2_with fail
  refine (sameNames_any A1 B1 n1 c1 n1 d1 x.issuers x.issuers wb (H1.out.mono strR_mono HBB.out) (K1.out.mono strR_mono HBB.out)).mono ?_
  rintro e w0 ⟨rfl, hb0⟩
  have tt : decide (x.issuers = x.issuers) = true := by simp
  rw [tt]
  clear tt a0 b0 a1 b1 a2 b2 a3 b3 a4 b4 a5 b5
  have a1 := (HA.out.below hb0 la).cell 1
  have b1 := (HB.out.below hb0 lb).cell 1
  have a2 := (HA.out.below hb0 la).cell 2
  have b2 := (HB.out.below hb0 lb).cell 2
  have a3 := (HA.out.below hb0 la).cell 3
  have b3 := (HB.out.below hb0 lb).cell 3
  have a4 := (HA.out.below hb0 la).cell 4
  have b4 := (HB.out.below hb0 lb).cell 4
  have a5 := (HA.out.below hb0 la).cell 5
  have b5 := (HB.out.below hb0 lb).cell 5
  simp only [List.getElem?_toArray, List.getElem?_cons_zero, List.getElem?_cons_succ] at a1 b1 a2 b2 a3 b3 a4 b4 a5 b5
  have HB0 := Lib.hid hb0
  clear hb0
  go_wp2_with fail
  clear a1 b1 a2 b2 a3 b3 a4 b4 a5 b5
  go_loopg [5] n2 (fun q i wr => ∃ k : Nat, k ≤ n2 ∧ q = n2 - k ∧ i = .int .i64 k ∧ Below wb.heap.size wb wr)
  case atStart => exact ⟨0, Nat.zero_le _, rfl, rfl, HB0.out⟩
  case round =>
    obtain ⟨k, hk, hq, rfl, hb⟩ := hrel
    have HQ0 := Lib.hid hq
    have HBR0 := Lib.hid hb
    have ac := ((HA.out.below hb la).cell 1)
    have bc := ((HB.out.below hb lb).cell 1)
    simp only [List.getElem?_toArray, List.getElem?_cons_zero, List.getElem?_cons_succ] at ac bc
    clear hq hb
    by_cases hlt : k < n2
    · obtain ⟨b1, o1, y, rfl, hl1, hy, e0, e1, e2, e3, e4⟩ := qUnit_at (H2.out.mono qUnitR_mono (HBB.out.trans (HBR0.out.mono HBB.out.size))) hlt
      obtain ⟨b2, o2', y', rfl, hl2, hy', f0, f1, f2, f3, f4⟩ := qUnit_at (K2.out.mono qUnitR_mono (HBB.out.trans (HBR0.out.mono HBB.out.size))) hlt
      have ey : y' = y := by rw [hy] at hy'; exact (Option.some.inj hy').symm
      subst ey
      have hkn : (k : Int) < (n2 : Int) := by omega
      have hk0 : (0 : Int) ≤ (k : Int) := by omega
      clear hy hy'
      go_wp2_with fail
      go_quiet (fail)
      go_wp2_with fail
      go_roundg (n2 - (k + 1))
      case measure => have := HQ0.out; omega
      case rel => exact ⟨k + 1, by omega, rfl, by go_num, below_drewN HBR0.out _⟩
    · go_wp2_with fail
      clear ac bc
      go_loopg [6] n3 (fun q i wr => ∃ k : Nat, k ≤ n3 ∧ q = n3 - k ∧ i = .int .i64 k ∧ Below wb.heap.size wb wr)
      case atStart => exact ⟨0, Nat.zero_le _, rfl, rfl, HBR0.out⟩
      case round =>
        obtain ⟨k, hk, hq, rfl, hb⟩ := hrel
        have HQ1 := Lib.hid hq
        have HBR1 := Lib.hid hb
        have ac := ((HA.out.below hb la).cell 2)
        have bc := ((HB.out.below hb lb).cell 2)
        simp only [List.getElem?_toArray, List.getElem?_cons_zero, List.getElem?_cons_succ] at ac bc
        clear hq hb
        by_cases hlt : k < n3
        · obtain ⟨b1, o1, y, P1, p1, r1, P2, p2, r2, rfl, hl1, hy, e0, e1, e2, e3, e4, e5, u1, u2⟩ := qSchema_at (H3.out.mono qSchemaR_mono (HBB.out.trans (HBR1.out.mono HBB.out.size))) hlt
          obtain ⟨b2, o2', y', Q1, q1, s1, Q2, q2, s2, rfl, hl2, hy', f0, f1, f2, f3, f4, f5, v1, v2⟩ := qSchema_at (K3.out.mono qSchemaR_mono (HBB.out.trans (HBR1.out.mono HBB.out.size))) hlt
          have ey : y' = y := by rw [hy] at hy'; exact (Option.some.inj hy').symm
          subst ey
          have en1 : q1 = p1 := by have h8 := u1.1.len; have h9 := v1.1.len; omega
          subst en1
          have en2 : q2 = p2 := by have h8 := u2.1.len; have h9 := v2.1.len; omega
          subst en2
          have hkn : (k : Int) < (n3 : Int) := by omega
          have hk0 : (0 : Int) ≤ (k : Int) := by omega
          clear hy hy'
          have U1 := Lib.hid (u1.1.mono qFieldR_mono (Below.refl _ _).drew)
          have V1 := Lib.hid (v1.1.mono qFieldR_mono (Below.refl _ _).drew)
          clear u1 v1
          have U2 := Lib.hid (u2.1.mono qDepR_mono (Below.refl _ _).drew)
          have V2 := Lib.hid (v2.1.mono qDepR_mono (Below.refl _ _).drew)
          clear u2 v2
          go_wp2_with fail
          go_still_tail 10, (by kernel_rfl)
          change wpList _ _ _ _ _ wr.drew
          go_wp2_with fail
          refine (sameSchema_eq P1 Q1 P2 Q2 q1 r1 s1 q2 r2 s2 y' wr.drew U1.out V1.out U2.out V2.out).mono ?_
          rintro e w' ⟨rfl, hb'⟩
          have HB' := Lib.hid (HBR1.out.drew.trans (hb'.mono HBR1.out.size))
          clear hb'
          go_wp2_with fail
          go_roundg (n3 - (k + 1))
          case measure => have := HQ1.out; omega
          case rel => exact ⟨k + 1, by omega, rfl, by go_num, HB'.out⟩
        · go_wp2_with fail
          clear ac bc
          go_loopg [7] n4 (fun q i wr => ∃ k : Nat, k ≤ n4 ∧ q = n4 - k ∧ i = .int .i64 k ∧ Below wb.heap.size wb wr)
          case atStart => exact ⟨0, Nat.zero_le _, rfl, rfl, HBR1.out⟩
          case round =>
            obtain ⟨k, hk, hq, rfl, hb⟩ := hrel
            have HQ2 := Lib.hid hq
            have HBR2 := Lib.hid hb
            have ac := ((HA.out.below hb la).cell 3)
            have bc := ((HB.out.below hb lb).cell 3)
            simp only [List.getElem?_toArray, List.getElem?_cons_zero, List.getElem?_cons_succ] at ac bc
            clear hq hb
            by_cases hlt : k < n4
            · obtain ⟨b1, o1, y, P1, p1, r1, P2, p2, r2, P3, p3, r3, rfl, hl1, hy, e0, e1, e2, e3, e4, u1, u2, u3⟩ := qRule_at (H4.out.mono qRuleR_mono (HBB.out.trans (HBR2.out.mono HBB.out.size))) hlt
              obtain ⟨b2, o2', y', Q1, q1, s1, Q2, q2, s2, Q3, q3, s3, rfl, hl2, hy', f0, f1, f2, f3, f4, v1, v2, v3⟩ := qRule_at (K4.out.mono qRuleR_mono (HBB.out.trans (HBR2.out.mono HBB.out.size))) hlt
              have ey : y' = y := by rw [hy] at hy'; exact (Option.some.inj hy').symm
              subst ey
              have en1 : q1 = p1 := by have h8 := u1.1.len; have h9 := v1.1.len; omega
              subst en1
              have en2 : q2 = p2 := by have h8 := u2.1.len; have h9 := v2.1.len; omega
              subst en2
              have en3 : q3 = p3 := by have h8 := u3.1.len; have h9 := v3.1.len; omega
              subst en3
              have hkn : (k : Int) < (n4 : Int) := by omega
              have hk0 : (0 : Int) ≤ (k : Int) := by omega
              clear hy hy'
              have U1 := Lib.hid (u1.1.mono qFromR_mono (Below.refl _ _).drew)
              have V1 := Lib.hid (v1.1.mono qFromR_mono (Below.refl _ _).drew)
              clear u1 v1
              have U2 := Lib.hid (u2.1.mono qAtomR_mono (Below.refl _ _).drew)
              have V2 := Lib.hid (v2.1.mono qAtomR_mono (Below.refl _ _).drew)
              clear u2 v2
              have U3 := Lib.hid (u3.1.mono qSetR_mono (Below.refl _ _).drew)
              have V3 := Lib.hid (v3.1.mono qSetR_mono (Below.refl _ _).drew)
              clear u3 v3
              go_wp2_with fail
              go_still_tail 10, (by kernel_rfl)
              change wpList _ _ _ _ _ wr.drew
              go_wp2_with fail
              refine (sameRule_eq P1 Q1 P2 Q2 P3 Q3 q1 r1 s1 q2 r2 s2 q3 r3 s3 y' wr.drew U1.out V1.out U2.out V2.out U3.out V3.out).mono ?_
              rintro e w' ⟨rfl, hb'⟩
              have HB' := Lib.hid (HBR2.out.drew.trans (hb'.mono HBR2.out.size))
              clear hb'
              go_wp2_with fail
              go_roundg (n4 - (k + 1))
              case measure => have := HQ2.out; omega
              case rel => exact ⟨k + 1, by omega, rfl, by go_num, HB'.out⟩
            · go_wp2_with fail
              clear ac bc
              go_loopg [8] n5 (fun q i wr => ∃ k : Nat, k ≤ n5 ∧ q = n5 - k ∧ i = .int .i64 k ∧ Below wb.heap.size wb wr)
              case atStart => exact ⟨0, Nat.zero_le _, rfl, rfl, HBR2.out⟩
              case round =>
                obtain ⟨k, hk, hq, rfl, hb⟩ := hrel
                have HQ3 := Lib.hid hq
                have HBR3 := Lib.hid hb
                have ac := ((HA.out.below hb la).cell 4)
                have bc := ((HB.out.below hb lb).cell 4)
                simp only [List.getElem?_toArray, List.getElem?_cons_zero, List.getElem?_cons_succ] at ac bc
                clear hq hb
                by_cases hlt : k < n5
                · obtain ⟨b1, o1, y, P1, p1, r1, rfl, hl1, hy, e0, e1, e2, e3, e4, u1⟩ := qConvert_at (H5.out.mono qConvertR_mono (HBB.out.trans (HBR3.out.mono HBB.out.size))) hlt
                  obtain ⟨b2, o2', y', Q1, q1, s1, rfl, hl2, hy', f0, f1, f2, f3, f4, v1⟩ := qConvert_at (K5.out.mono qConvertR_mono (HBB.out.trans (HBR3.out.mono HBB.out.size))) hlt
                  have ey : y' = y := by rw [hy] at hy'; exact (Option.some.inj hy').symm
                  subst ey
                  have en1 : q1 = p1 := by have h8 := u1.1.len; have h9 := v1.1.len; omega
                  subst en1
                  have hkn : (k : Int) < (n5 : Int) := by omega
                  have hk0 : (0 : Int) ≤ (k : Int) := by omega
                  clear hy hy'
                  have U1 := Lib.hid (u1.1.mono qMoveR_mono (Below.refl _ _).drew)
                  have V1 := Lib.hid (v1.1.mono qMoveR_mono (Below.refl _ _).drew)
                  clear u1 v1
                  go_wp2_with fail
                  go_still_tail 10, (by kernel_rfl)
                  change wpList _ _ _ _ _ wr.drew
                  go_wp2_with fail
                  refine (sameConvert_eq P1 Q1 q1 r1 s1 y' wr.drew U1.out V1.out).mono ?_
                  rintro e w' ⟨rfl, hb'⟩
                  have HB' := Lib.hid (HBR3.out.drew.trans (hb'.mono HBR3.out.size))
                  clear hb'
                  go_wp2_with fail
                  go_roundg (n5 - (k + 1))
                  case measure => have := HQ3.out; omega
                  case rel => exact ⟨k + 1, by omega, rfl, by go_num, HB'.out⟩
                · go_wp2_with fail
                  clear ac bc
                  go_loopg [9] n6 (fun q i wr => ∃ k : Nat, k ≤ n6 ∧ q = n6 - k ∧ i = .int .i64 k ∧ Below wb.heap.size wb wr)
                  case atStart => exact ⟨0, Nat.zero_le _, rfl, rfl, HBR3.out⟩
                  case round =>
                    obtain ⟨k, hk, hq, rfl, hb⟩ := hrel
                    have HQ4 := Lib.hid hq
                    have HBR4 := Lib.hid hb
                    have ac := ((HA.out.below hb la).cell 5)
                    have bc := ((HB.out.below hb lb).cell 5)
                    simp only [List.getElem?_toArray, List.getElem?_cons_zero, List.getElem?_cons_succ] at ac bc
                    clear hq hb
                    by_cases hlt : k < n6
                    · obtain ⟨b1, o1, y, P1, p1, r1, rfl, hl1, hy, e0, e1, e2, u1⟩ := qPurpose_at (H6.out.mono qPurposeR_mono (HBB.out.trans (HBR4.out.mono HBB.out.size))) hlt
                      obtain ⟨b2, o2', y', Q1, q1, s1, rfl, hl2, hy', f0, f1, f2, v1⟩ := qPurpose_at (K6.out.mono qPurposeR_mono (HBB.out.trans (HBR4.out.mono HBB.out.size))) hlt
                      have ey : y' = y := by rw [hy] at hy'; exact (Option.some.inj hy').symm
                      subst ey
                      have en1 : q1 = p1 := by have h8 := u1.1.len; have h9 := v1.1.len; omega
                      subst en1
                      have hkn : (k : Int) < (n6 : Int) := by omega
                      have hk0 : (0 : Int) ≤ (k : Int) := by omega
                      clear hy hy'
                      have U1 := Lib.hid (u1.1.mono qRefR_mono (Below.refl _ _).drew)
                      have V1 := Lib.hid (v1.1.mono qRefR_mono (Below.refl _ _).drew)
                      clear u1 v1
                      go_wp2_with fail
                      go_still_tail 10, (by kernel_rfl)
                      change wpList _ _ _ _ _ wr.drew
                      go_wp2_with fail
                      refine (samePurpose_eq P1 Q1 q1 r1 s1 y' wr.drew U1.out V1.out).mono ?_
                      rintro e w' ⟨rfl, hb'⟩
                      have HB' := Lib.hid (HBR4.out.drew.trans (hb'.mono HBR4.out.size))
                      clear hb'
                      go_wp2_with fail
                      go_roundg (n6 - (k + 1))
                      case measure => have := HQ4.out; omega
                      case rel => exact ⟨k + 1, by omega, rfl, by go_num, HB'.out⟩
                    · go_wp2_with fail
                      go_ret
                      exact ⟨rfl, HBB.out.trans (HBR4.out.mono HBB.out.size)⟩

end Go.Proofs.Ytkkkephjljiplaa
