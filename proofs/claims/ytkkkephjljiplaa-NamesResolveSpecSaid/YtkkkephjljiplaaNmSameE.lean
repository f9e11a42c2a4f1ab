/- Contracts: the reference's Same functions answer true where both arguments read as the same data. Written by gensame.py. -/
import Derived.Test.YtkkkephjljiplaaNmSame0
namespace Go.Proofs.Ytkkkephjljiplaa
open Go.RowKit

theorem below_refl (w : World) : Below w.heap.size w w := Below.refl _ _

set_option maxHeartbeats 2000000 in
set_option maxRecDepth 100000 in
theorem samePurpose_eq (A1 B1 : Option Addr) (n1 c1 d1 : Nat) (x : QPurpose) (w : World) (h1 : SlR 4 qRefR w (.slice A1 n1 c1) x.may) (k1 : SlR 4 qRefR w (.slice B1 n1 d1) x.may) :
    Calls Try.prog 49 #[.agg #[.string x.name, .slice A1 n1 c1, .int .i64 x.most], .agg #[.string x.name, .slice B1 n1 d1, .int .i64 x.most]] w fun e w' => e = .returned (.bool true) ∧ Below w.heap.size w w' := by
  have o1 : n1 ≤ 9223372036854775807 := by have := h1.le; omega
  have H1 := Lib.hid h1
  have K1 := Lib.hid k1
  clear h1 k1
  go_enter Try.func49, Try.ntmps49
  go_upto_region 1 with fail
  obtain ⟨wb, hwb⟩ : ∃ wq, wq = (w.alloc (.cells #[.string x.name, .slice A1 n1 c1, .int .i64 x.most] 74)).alloc (.cells #[.string x.name, .slice B1 n1 d1, .int .i64 x.most] 74) := ⟨_, rfl⟩
  rw [← hwb]
  have hbb : Below w.heap.size w wb := by rw [hwb]; exact ((Below.refl _ _).alloc (Nat.le_refl _) _).alloc (by simp) _
  have kA : Blk wb w.heap.size 74 #[.string x.name, .slice A1 n1 c1, .int .i64 x.most] := by rw [hwb]; exact (Blk.new _ _ _).alloc _
  have kB : Blk wb (w.heap.size + 1) 74 #[.string x.name, .slice B1 n1 d1, .int .i64 x.most] := by rw [hwb]; exact blk_new' (by simp)
  obtain ⟨ga, hga⟩ : ∃ g, g = w.heap.size := ⟨_, rfl⟩
  obtain ⟨gb, hgb⟩ : ∃ g, g = w.heap.size + 1 := ⟨_, rfl⟩
  rw [← hgb] at kB ⊢
  rw [← hga] at kA ⊢
  clear hwb hga hgb
  have a0 := kA.cell 0
  have b0 := kB.cell 0
  have a1 := kA.cell 1
  have b1 := kB.cell 1
  have a2 := kA.cell 2
  have b2 := kB.cell 2
  have la := kA.lt
  have lb := kB.lt
  simp only [List.getElem?_toArray, List.getElem?_cons_zero, List.getElem?_cons_succ] at a0 b0 a1 b1 a2 b2
  have HA := Lib.hid kA
  have HB := Lib.hid kB
  have HBB := Lib.hid hbb
  clear kA kB hbb
  go_wp2_with fail
  clear a0 b0 a1 b1 a2 b2
  go_loopg [5] n1 (fun q i wr => ∃ k : Nat, k ≤ n1 ∧ q = n1 - k ∧ i = .int .i64 k ∧ Below wb.heap.size wb wr)
  case atStart => exact ⟨0, Nat.zero_le _, rfl, rfl, Below.refl _ _⟩
  case round =>
    obtain ⟨k, hk, hq, rfl, hb⟩ := hrel
    have HQ0 := Lib.hid hq
    have HBR0 := Lib.hid hb
    have ac := ((HA.out.below hb la).cell 1)
    have bc := ((HB.out.below hb lb).cell 1)
    simp only [List.getElem?_toArray, List.getElem?_cons_zero, List.getElem?_cons_succ] at ac bc
    clear hq hb
    by_cases hlt : k < n1
    · obtain ⟨b1, o1, y, rfl, hl1, hy, e0, e1, e2, e3⟩ := qRef_at (H1.out.mono qRefR_mono (HBB.out.trans (HBR0.out.mono HBB.out.size))) hlt
      obtain ⟨b2, o2, y', rfl, hl2, hy', f0, f1, f2, f3⟩ := qRef_at (K1.out.mono qRefR_mono (HBB.out.trans (HBR0.out.mono HBB.out.size))) hlt
      have ey : y' = y := by rw [hy] at hy'; exact (Option.some.inj hy').symm
      subst ey
      have hkn : (k : Int) < (n1 : Int) := by omega
      have hk0 : (0 : Int) ≤ (k : Int) := by omega
      clear hy hy'
      go_wp2_with fail
      go_quiet (fail)
      go_wp2_with fail
      go_roundg (n1 - (k + 1))
      case measure => have := HQ0.out; omega
      case rel => exact ⟨k + 1, by omega, rfl, by go_num, below_drewN HBR0.out _⟩
    · go_wp2_with fail
      go_ret
      exact ⟨rfl, HBB.out.trans (HBR0.out.mono HBB.out.size)⟩

set_option maxHeartbeats 2000000 in
set_option maxRecDepth 100000 in
theorem sameConvert_eq (A1 B1 : Option Addr) (n1 c1 d1 : Nat) (x : QConvert) (w : World) (h1 : SlR 5 qMoveR w (.slice A1 n1 c1) x.moves) (k1 : SlR 5 qMoveR w (.slice B1 n1 d1) x.moves) :
    Calls Try.prog 48 #[.agg #[.string x.from_, .string x.to_, .int .i64 x.a, .int .i64 x.b, .slice A1 n1 c1], .agg #[.string x.from_, .string x.to_, .int .i64 x.a, .int .i64 x.b, .slice B1 n1 d1]] w fun e w' => e = .returned (.bool true) ∧ Below w.heap.size w w' := by
  have o1 : n1 ≤ 9223372036854775807 := by have := h1.le; omega
  have H1 := Lib.hid h1
  have K1 := Lib.hid k1
  clear h1 k1
  go_enter Try.func48, Try.ntmps48
  go_upto_region 1 with fail
  obtain ⟨wb, hwb⟩ : ∃ wq, wq = (w.alloc (.cells #[.string x.from_, .string x.to_, .int .i64 x.a, .int .i64 x.b, .slice A1 n1 c1] 69)).alloc (.cells #[.string x.from_, .string x.to_, .int .i64 x.a, .int .i64 x.b, .slice B1 n1 d1] 69) := ⟨_, rfl⟩
  rw [← hwb]
  have hbb : Below w.heap.size w wb := by rw [hwb]; exact ((Below.refl _ _).alloc (Nat.le_refl _) _).alloc (by simp) _
  have kA : Blk wb w.heap.size 69 #[.string x.from_, .string x.to_, .int .i64 x.a, .int .i64 x.b, .slice A1 n1 c1] := by rw [hwb]; exact (Blk.new _ _ _).alloc _
  have kB : Blk wb (w.heap.size + 1) 69 #[.string x.from_, .string x.to_, .int .i64 x.a, .int .i64 x.b, .slice B1 n1 d1] := by rw [hwb]; exact blk_new' (by simp)
  obtain ⟨ga, hga⟩ : ∃ g, g = w.heap.size := ⟨_, rfl⟩
  obtain ⟨gb, hgb⟩ : ∃ g, g = w.heap.size + 1 := ⟨_, rfl⟩
  rw [← hgb] at kB ⊢
  rw [← hga] at kA ⊢
  clear hwb hga hgb
  have a0 := kA.cell 0
  have b0 := kB.cell 0
  have a1 := kA.cell 1
  have b1 := kB.cell 1
  have a2 := kA.cell 2
  have b2 := kB.cell 2
  have a3 := kA.cell 3
  have b3 := kB.cell 3
  have a4 := kA.cell 4
  have b4 := kB.cell 4
  have la := kA.lt
  have lb := kB.lt
  simp only [List.getElem?_toArray, List.getElem?_cons_zero, List.getElem?_cons_succ] at a0 b0 a1 b1 a2 b2 a3 b3 a4 b4
  have HA := Lib.hid kA
  have HB := Lib.hid kB
  have HBB := Lib.hid hbb
  clear kA kB hbb
  go_wp2_with fail
  clear a0 b0 a1 b1 a2 b2 a3 b3 a4 b4
  go_loopg [5] n1 (fun q i wr => ∃ k : Nat, k ≤ n1 ∧ q = n1 - k ∧ i = .int .i64 k ∧ Below wb.heap.size wb wr)
  case atStart => exact ⟨0, Nat.zero_le _, rfl, rfl, Below.refl _ _⟩
  case round =>
    obtain ⟨k, hk, hq, rfl, hb⟩ := hrel
    have HQ0 := Lib.hid hq
    have HBR0 := Lib.hid hb
    have ac := ((HA.out.below hb la).cell 4)
    have bc := ((HB.out.below hb lb).cell 4)
    simp only [List.getElem?_toArray, List.getElem?_cons_zero, List.getElem?_cons_succ] at ac bc
    clear hq hb
    by_cases hlt : k < n1
    · obtain ⟨b1, o1, y, rfl, hl1, hy, e0, e1, e2, e3, e4⟩ := qMove_at (H1.out.mono qMoveR_mono (HBB.out.trans (HBR0.out.mono HBB.out.size))) hlt
      obtain ⟨b2, o2, y', rfl, hl2, hy', f0, f1, f2, f3, f4⟩ := qMove_at (K1.out.mono qMoveR_mono (HBB.out.trans (HBR0.out.mono HBB.out.size))) hlt
      have ey : y' = y := by rw [hy] at hy'; exact (Option.some.inj hy').symm
      subst ey
      have hkn : (k : Int) < (n1 : Int) := by omega
      have hk0 : (0 : Int) ≤ (k : Int) := by omega
      clear hy hy'
      go_wp2_with fail
      go_quiet (fail)
      go_wp2_with fail
      go_roundg (n1 - (k + 1))
      case measure => have := HQ0.out; omega
      case rel => exact ⟨k + 1, by omega, rfl, by go_num, below_drewN HBR0.out _⟩
    · go_wp2_with fail
      go_ret
      exact ⟨rfl, HBB.out.trans (HBR0.out.mono HBB.out.size)⟩

set_option maxHeartbeats 2000000 in
set_option maxRecDepth 100000 in
theorem sameRule_eq (A1 B1 A2 B2 A3 B3 : Option Addr) (n1 c1 d1 n2 c2 d2 n3 c3 d3 : Nat) (x : QRule) (w : World) (h1 : SlR 8 qFromR w (.slice A1 n1 c1) x.froms) (k1 : SlR 8 qFromR w (.slice B1 n1 d1) x.froms) (h2 : SlR 11 qAtomR w (.slice A2 n2 c2) x.where_) (k2 : SlR 11 qAtomR w (.slice B2 n2 d2) x.where_) (h3 : SlR 7 qSetR w (.slice A3 n3 c3) x.sets) (k3 : SlR 7 qSetR w (.slice B3 n3 d3) x.sets) :
    Calls Try.prog 47 #[.agg #[.string x.head, .int .i64 x.schema, .slice A1 n1 c1, .slice A2 n2 c2, .slice A3 n3 c3], .agg #[.string x.head, .int .i64 x.schema, .slice B1 n1 d1, .slice B2 n2 d2, .slice B3 n3 d3]] w fun e w' => e = .returned (.bool true) ∧ Below w.heap.size w w' := by
  have o1 : n1 ≤ 9223372036854775807 := by have := h1.le; omega
  have o2 : n2 ≤ 9223372036854775807 := by have := h2.le; omega
  have o3 : n3 ≤ 9223372036854775807 := by have := h3.le; omega
  have H1 := Lib.hid h1
  have K1 := Lib.hid k1
  clear h1 k1
  have H2 := Lib.hid h2
  have K2 := Lib.hid k2
  clear h2 k2
  have H3 := Lib.hid h3
  have K3 := Lib.hid k3
  clear h3 k3
  go_enter Try.func47, Try.ntmps47
  go_upto_region 1 with fail
  obtain ⟨wb, hwb⟩ : ∃ wq, wq = (w.alloc (.cells #[.string x.head, .int .i64 x.schema, .slice A1 n1 c1, .slice A2 n2 c2, .slice A3 n3 c3] 56)).alloc (.cells #[.string x.head, .int .i64 x.schema, .slice B1 n1 d1, .slice B2 n2 d2, .slice B3 n3 d3] 56) := ⟨_, rfl⟩
  rw [← hwb]
  have hbb : Below w.heap.size w wb := by rw [hwb]; exact ((Below.refl _ _).alloc (Nat.le_refl _) _).alloc (by simp) _
  have kA : Blk wb w.heap.size 56 #[.string x.head, .int .i64 x.schema, .slice A1 n1 c1, .slice A2 n2 c2, .slice A3 n3 c3] := by rw [hwb]; exact (Blk.new _ _ _).alloc _
  have kB : Blk wb (w.heap.size + 1) 56 #[.string x.head, .int .i64 x.schema, .slice B1 n1 d1, .slice B2 n2 d2, .slice B3 n3 d3] := by rw [hwb]; exact blk_new' (by simp)
  obtain ⟨ga, hga⟩ : ∃ g, g = w.heap.size := ⟨_, rfl⟩
  obtain ⟨gb, hgb⟩ : ∃ g, g = w.heap.size + 1 := ⟨_, rfl⟩
  rw [← hgb] at kB ⊢
  rw [← hga] at kA ⊢
  clear hwb hga hgb
  have a0 := kA.cell 0
  have b0 := kB.cell 0
  have a1 := kA.cell 1
  have b1 := kB.cell 1
  have a2 := kA.cell 2
  have b2 := kB.cell 2
  have a3 := kA.cell 3
  have b3 := kB.cell 3
  have a4 := kA.cell 4
  have b4 := kB.cell 4
  have la := kA.lt
  have lb := kB.lt
  simp only [List.getElem?_toArray, List.getElem?_cons_zero, List.getElem?_cons_succ] at a0 b0 a1 b1 a2 b2 a3 b3 a4 b4
  have HA := Lib.hid kA
  have HB := Lib.hid kB
  have HBB := Lib.hid hbb
  clear kA kB hbb
  go_wp2_with fail
  clear a0 b0 a1 b1 a2 b2 a3 b3 a4 b4
  go_loopg [5] n1 (fun q i wr => ∃ k : Nat, k ≤ n1 ∧ q = n1 - k ∧ i = .int .i64 k ∧ Below wb.heap.size wb wr)
  case atStart => exact ⟨0, Nat.zero_le _, rfl, rfl, Below.refl _ _⟩
  case round =>
    obtain ⟨k, hk, hq, rfl, hb⟩ := hrel
    have HQ0 := Lib.hid hq
    have HBR0 := Lib.hid hb
    have ac := ((HA.out.below hb la).cell 2)
    have bc := ((HB.out.below hb lb).cell 2)
    simp only [List.getElem?_toArray, List.getElem?_cons_zero, List.getElem?_cons_succ] at ac bc
    clear hq hb
    by_cases hlt : k < n1
    · obtain ⟨b1, o1, y, rfl, hl1, hy, e0, e1, e2, e3, e4, e5, e6, e7⟩ := qFrom_at (H1.out.mono qFromR_mono (HBB.out.trans (HBR0.out.mono HBB.out.size))) hlt
      obtain ⟨b2, o2, y', rfl, hl2, hy', f0, f1, f2, f3, f4, f5, f6, f7⟩ := qFrom_at (K1.out.mono qFromR_mono (HBB.out.trans (HBR0.out.mono HBB.out.size))) hlt
      have ey : y' = y := by rw [hy] at hy'; exact (Option.some.inj hy').symm
      subst ey
      have hkn : (k : Int) < (n1 : Int) := by omega
      have hk0 : (0 : Int) ≤ (k : Int) := by omega
      clear hy hy'
      go_wp2_with fail
      go_quiet (fail)
      go_wp2_with fail
      go_roundg (n1 - (k + 1))
      case measure => have := HQ0.out; omega
      case rel => exact ⟨k + 1, by omega, rfl, by go_num, below_drewN HBR0.out _⟩
    · go_wp2_with fail
      clear ac bc
      go_loopg [6] n2 (fun q i wr => ∃ k : Nat, k ≤ n2 ∧ q = n2 - k ∧ i = .int .i64 k ∧ Below wb.heap.size wb wr)
      case atStart => exact ⟨0, Nat.zero_le _, rfl, rfl, HBR0.out⟩
      case round =>
        obtain ⟨k, hk, hq, rfl, hb⟩ := hrel
        have HQ1 := Lib.hid hq
        have HBR1 := Lib.hid hb
        have ac := ((HA.out.below hb la).cell 3)
        have bc := ((HB.out.below hb lb).cell 3)
        simp only [List.getElem?_toArray, List.getElem?_cons_zero, List.getElem?_cons_succ] at ac bc
        clear hq hb
        by_cases hlt : k < n2
        · obtain ⟨b1, o1, y, rfl, hl1, hy, e0, e1, e2, e3, e4, e5, e6, e7, e8, e9, e10⟩ := qAtom_at (H2.out.mono qAtomR_mono (HBB.out.trans (HBR1.out.mono HBB.out.size))) hlt
          obtain ⟨b2, o2, y', rfl, hl2, hy', f0, f1, f2, f3, f4, f5, f6, f7, f8, f9, f10⟩ := qAtom_at (K2.out.mono qAtomR_mono (HBB.out.trans (HBR1.out.mono HBB.out.size))) hlt
          have ey : y' = y := by rw [hy] at hy'; exact (Option.some.inj hy').symm
          subst ey
          have hkn : (k : Int) < (n2 : Int) := by omega
          have hk0 : (0 : Int) ≤ (k : Int) := by omega
          clear hy hy'
          go_wp2_with fail
          go_quiet (fail)
          go_wp2_with fail
          go_roundg (n2 - (k + 1))
          case measure => have := HQ1.out; omega
          case rel => exact ⟨k + 1, by omega, rfl, by go_num, below_drewN HBR1.out _⟩
        · go_wp2_with fail
          clear ac bc
          go_loopg [7] n3 (fun q i wr => ∃ k : Nat, k ≤ n3 ∧ q = n3 - k ∧ i = .int .i64 k ∧ Below wb.heap.size wb wr)
          case atStart => exact ⟨0, Nat.zero_le _, rfl, rfl, HBR1.out⟩
          case round =>
            obtain ⟨k, hk, hq, rfl, hb⟩ := hrel
            have HQ2 := Lib.hid hq
            have HBR2 := Lib.hid hb
            have ac := ((HA.out.below hb la).cell 4)
            have bc := ((HB.out.below hb lb).cell 4)
            simp only [List.getElem?_toArray, List.getElem?_cons_zero, List.getElem?_cons_succ] at ac bc
            clear hq hb
            by_cases hlt : k < n3
            · obtain ⟨b1, o1, y, rfl, hl1, hy, e0, e1, e2, e3, e4, e5, e6⟩ := qSet_at (H3.out.mono qSetR_mono (HBB.out.trans (HBR2.out.mono HBB.out.size))) hlt
              obtain ⟨b2, o2, y', rfl, hl2, hy', f0, f1, f2, f3, f4, f5, f6⟩ := qSet_at (K3.out.mono qSetR_mono (HBB.out.trans (HBR2.out.mono HBB.out.size))) hlt
              have ey : y' = y := by rw [hy] at hy'; exact (Option.some.inj hy').symm
              subst ey
              have hkn : (k : Int) < (n3 : Int) := by omega
              have hk0 : (0 : Int) ≤ (k : Int) := by omega
              clear hy hy'
              go_wp2_with fail
              go_quiet (fail)
              go_wp2_with fail
              go_roundg (n3 - (k + 1))
              case measure => have := HQ2.out; omega
              case rel => exact ⟨k + 1, by omega, rfl, by go_num, below_drewN HBR2.out _⟩
            · go_wp2_with fail
              go_ret
              exact ⟨rfl, HBB.out.trans (HBR2.out.mono HBB.out.size)⟩

end Go.Proofs.Ytkkkephjljiplaa
