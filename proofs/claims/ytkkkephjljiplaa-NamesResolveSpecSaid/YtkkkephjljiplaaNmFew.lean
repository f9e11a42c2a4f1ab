/- Contract of the reference's Few: it answers, and turns nothing. -/
import Derived.Test.YtkkkephjljiplaaNmRes
namespace Go.Proofs.Ytkkkephjljiplaa
open Go.RowKit

set_option maxHeartbeats 2000000 in
set_option maxRecDepth 100000 in
theorem few_any (A1 A2 A3 A4 A5 A6 : Option Addr) (n1 c1 n2 c2 n3 c3 n4 c4 n5 c5 n6 c6 : Nat) (s : QSource) (w : World)
    (h3 : SlR 6 qSchemaR w (.slice A3 n3 c3) s.schemas) (h4 : SlR 5 qRuleR w (.slice A4 n4 c4) s.rules) (h5 : SlR 5 qConvertR w (.slice A5 n5 c5) s.converts) (h6 : SlR 3 qPurposeR w (.slice A6 n6 c6) s.purposes) :
    Calls Try.prog 11 #[.agg #[.slice A1 n1 c1, .slice A2 n2 c2, .slice A3 n3 c3, .slice A4 n4 c4, .slice A5 n5 c5, .slice A6 n6 c6]] w fun e w' => (∃ b, e = .returned (.bool b)) ∧ Below w.heap.size w w' := by
  have m3 : n3 ≤ 9223372036854775807 := by have := h3.le; omega
  have m4 : n4 ≤ 9223372036854775807 := by have := h4.le; omega
  have m5 : n5 ≤ 9223372036854775807 := by have := h5.le; omega
  have m6 : n6 ≤ 9223372036854775807 := by have := h6.le; omega
  have H3 := Lib.hid h3
  have H4 := Lib.hid h4
  have H5 := Lib.hid h5
  have H6 := Lib.hid h6
  clear h3 h4 h5 h6
  go_enter Try.func11, Try.ntmps11
  go_upto_region 1 with fail
  have hk : Blk (w.alloc (.cells #[.slice A1 n1 c1, .slice A2 n2 c2, .slice A3 n3 c3, .slice A4 n4 c4, .slice A5 n5 c5, .slice A6 n6 c6] 29)) w.heap.size 29 #[.slice A1 n1 c1, .slice A2 n2 c2, .slice A3 n3 c3, .slice A4 n4 c4, .slice A5 n5 c5, .slice A6 n6 c6] := Blk.new _ _ _
  have hb : Below w.heap.size w (w.alloc (.cells #[.slice A1 n1 c1, .slice A2 n2 c2, .slice A3 n3 c3, .slice A4 n4 c4, .slice A5 n5 c5, .slice A6 n6 c6] 29)) := (Below.refl _ _).alloc (Nat.le_refl _) _
  obtain ⟨g, hg⟩ : ∃ g, g = w.heap.size := ⟨_, rfl⟩
  rw [← hg] at hk ⊢
  generalize w.alloc (.cells #[.slice A1 n1 c1, .slice A2 n2 c2, .slice A3 n3 c3, .slice A4 n4 c4, .slice A5 n5 c5, .slice A6 n6 c6] 29) = wb at hk hb ⊢
  have k0 := hk.cell 0
  have k1 := hk.cell 1
  have k2 := hk.cell 2
  have k3 := hk.cell 3
  have k4 := hk.cell 4
  have k5 := hk.cell 5
  have lg := hk.lt
  simp only [List.getElem?_toArray, List.getElem?_cons_zero, List.getElem?_cons_succ] at k0 k1 k2 k3 k4 k5
  have HB := Lib.hid hb
  have HK2 := Lib.hid k2
  have HK3 := Lib.hid k3
  have HK4 := Lib.hid k4
  have HK5 := Lib.hid k5
  clear hk hb hg k2 k3 k4 k5
  go_wp2_with fail
  clear k0 k1
  go_loopg [3, 4] n3 (fun q nv i wr => ∃ (k : Nat) (z : Int), k ≤ n3 ∧ q = n3 - k ∧ i = .int .i64 k ∧ nv = .int .i64 z ∧ Below wb.heap.size wb wr)
  case atStart => exact ⟨0, _, Nat.zero_le _, rfl, rfl, rfl, Below.refl _ _⟩
  case round =>
    obtain ⟨k, z, hk, hq, rfl, rfl, hb⟩ := hrel
    have HQ := Lib.hid hq
    have HBR := Lib.hid hb
    have kc2 := (hb.cell (p := ⟨g, 2, none⟩) lg).trans HK2.out
    have lgr := Nat.lt_of_lt_of_le lg hb.size
    clear hq hb
    by_cases hlt : k < n3
    · obtain ⟨b, off, x, FA, fn, fc, DA, dn, dc, rfl, hbl, _, _, _, _, _, e4, e5, hF, hD⟩ := qSchema_at (H3.out.mono qSchemaR_mono (HB.out.trans (HBR.out.mono HB.out.size))) hlt
      have hkn : (k : Int) < (n3 : Int) := by omega
      have hk0 : (0 : Int) ≤ (k : Int) := by omega
      have mf : fn ≤ 9223372036854775807 := by have := hF.1.le; omega
      have md : dn ≤ 9223372036854775807 := by have := hD.1.le; omega
      have HF := Lib.hid hF.1
      have HD := Lib.hid hD.1
      clear hF hD
      obtain ⟨wy, rfl⟩ : ∃ x, x = wr := ⟨_, rfl⟩
      go_wp2_with fail
      go_loopg [3, 5] fn (fun q nv i wr => ∃ (k : Nat) (z : Int), k ≤ fn ∧ q = fn - k ∧ i = .int .i64 k ∧ nv = .int .i64 z ∧ Below wy.heap.size wy wr)
      case atStart => exact ⟨0, _, Nat.zero_le _, rfl, rfl, rfl, Below.refl _ _⟩
      case round =>
        obtain ⟨k', z', hk', hq', rfl, rfl, hb'⟩ := hrel
        have HQ' := Lib.hid hq'
        have HBR' := Lib.hid hb'
        have jc2 := (hb'.cell (p := ⟨g, 2, none⟩) lgr).trans kc2
        have j4 := (hb'.cell (p := ⟨b, off + k * 6 + 4, none⟩) hbl).trans e4
        have j5 := (hb'.cell (p := ⟨b, off + k * 6 + 5, none⟩) hbl).trans e5
        clear hq' hb'
        by_cases hlt' : k' < fn
        · obtain ⟨b2, off2, x2, NA, nn, nc, rfl, hbl2, _, _, _, _, _, _, _, f6, _, _, _, _, hN⟩ := qField_at (HF.out.mono qFieldR_mono HBR'.out) hlt'
          have hkn' : (k' : Int) < (fn : Int) := by omega
          have hk0' : (0 : Int) ≤ (k' : Int) := by omega
          clear kc2 e4 e5 hN
          go_wp2_with fail
          go_roundg (fn - (k' + 1))
          case measure => have := HQ'.out; omega
          case rel => exact ⟨k' + 1, _, by omega, rfl, by go_num, rfl, HBR'.out⟩
        · obtain ⟨wx, rfl⟩ : ∃ x, x = wr := ⟨_, rfl⟩
          have lgx := Nat.lt_of_lt_of_le lgr HBR'.out.size
          have hblx := Nat.lt_of_lt_of_le hbl HBR'.out.size
          clear kc2 e4 e5
          go_wp2_with fail
          go_loopg [3, 6] dn (fun q nv i wr => ∃ (k : Nat) (z : Int), k ≤ dn ∧ q = dn - k ∧ i = .int .i64 k ∧ nv = .int .i64 z ∧ Below wx.heap.size wx wr)
          case atStart => exact ⟨0, _, Nat.zero_le _, rfl, rfl, rfl, Below.refl _ _⟩
          case round =>
            obtain ⟨k2, z2, hk2, hq2, rfl, rfl, hb2⟩ := hrel
            have HQ2 := Lib.hid hq2
            have HBR2 := Lib.hid hb2
            have lc2 := (hb2.cell (p := ⟨g, 2, none⟩) lgx).trans jc2
            have l5 := (hb2.cell (p := ⟨b, off + k * 6 + 5, none⟩) hblx).trans j5
            clear hq2 hb2 jc2 j4 j5
            by_cases hlt2 : k2 < dn
            · obtain ⟨b3, off3, x3, NA, nn, nc, IA, inn, ic, rfl, hbl3, _, d0, _, d2, _, hN, hI⟩ := qDep_at (HD.out.mono qDepR_mono (HBR'.out.trans (HBR2.out.mono HBR'.out.size))) hlt2
              have hkn2 : (k2 : Int) < (dn : Int) := by omega
              have hk02 : (0 : Int) ≤ (k2 : Int) := by omega
              clear hN hI
              go_wp2_with fail
              go_quiet (fail)
              go_wp2_with fail
              go_roundg (dn - (k2 + 1))
              case measure => have := HQ2.out; omega
              case rel => exact ⟨k2 + 1, _, by omega, rfl, by go_num, rfl, below_drewN HBR2.out _⟩
            · go_wp2_with fail
              go_roundg (n3 - (k + 1))
              case measure => have := HQ.out; omega
              case rel => exact ⟨k + 1, _, by omega, rfl, by go_num, rfl, HBR.out.trans ((HBR'.out.trans (HBR2.out.mono HBR'.out.size)).mono HBR.out.size)⟩
    · obtain ⟨w1, rfl⟩ : ∃ x, x = wr := ⟨_, rfl⟩
      go_wp2_with fail
      clear kc2
      go_loopg [3, 7] n4 (fun q nv i wr => ∃ (k : Nat) (z : Int), k ≤ n4 ∧ q = n4 - k ∧ i = .int .i64 k ∧ nv = .int .i64 z ∧ Below wb.heap.size wb wr)
      case atStart => exact ⟨0, _, Nat.zero_le _, rfl, rfl, rfl, HBR.out⟩
      case round =>
        clear HBR HQ
        obtain ⟨k', z', hk', hq', rfl, rfl, hb'⟩ := hrel
        have HQ := Lib.hid hq'
        have HBR := Lib.hid hb'
        have jc3 := (hb'.cell (p := ⟨g, 3, none⟩) lg).trans HK3.out
        clear hq' hb'
        by_cases hlt' : k' < n4
        · obtain ⟨b2, off2, x2, B1, m1, d1, B2, m2, d2, B3, mm3, d3, rfl, hbl2, _, _, _, f2, f3, f4, _, _, _⟩ := qRule_at (H4.out.mono qRuleR_mono (HB.out.trans (HBR.out.mono HB.out.size))) hlt'
          have hkn' : (k' : Int) < (n4 : Int) := by omega
          have hk0' : (0 : Int) ≤ (k' : Int) := by omega
          go_wp2_with fail
          go_quiet (fail)
          go_wp2_with fail
          go_roundg (n4 - (k' + 1))
          case measure => have := HQ.out; omega
          case rel => exact ⟨k' + 1, _, by omega, rfl, by go_num, rfl, below_drewN HBR.out _⟩
        · obtain ⟨w2, rfl⟩ : ∃ x, x = wr := ⟨_, rfl⟩
          go_wp2_with fail
          clear jc3
          go_loopg [3, 8] n5 (fun q nv i wr => ∃ (k : Nat) (z : Int), k ≤ n5 ∧ q = n5 - k ∧ i = .int .i64 k ∧ nv = .int .i64 z ∧ Below wb.heap.size wb wr)
          case atStart => exact ⟨0, _, Nat.zero_le _, rfl, rfl, rfl, HBR.out⟩
          case round =>
            clear HBR HQ
            obtain ⟨k2, z2, hk2, hq2, rfl, rfl, hb2⟩ := hrel
            have HQ := Lib.hid hq2
            have HBR := Lib.hid hb2
            have jc4 := (hb2.cell (p := ⟨g, 4, none⟩) lg).trans HK4.out
            clear hq2 hb2
            by_cases hlt2 : k2 < n5
            · obtain ⟨b2, off2, x2, B1, m1, d1, rfl, hbl2, _, _, _, _, _, f4, _⟩ := qConvert_at (H5.out.mono qConvertR_mono (HB.out.trans (HBR.out.mono HB.out.size))) hlt2
              have hkn' : (k2 : Int) < (n5 : Int) := by omega
              have hk0' : (0 : Int) ≤ (k2 : Int) := by omega
              go_wp2_with fail
              go_roundg (n5 - (k2 + 1))
              case measure => have := HQ.out; omega
              case rel => exact ⟨k2 + 1, _, by omega, rfl, by go_num, rfl, HBR.out⟩
            · obtain ⟨w3, rfl⟩ : ∃ x, x = wr := ⟨_, rfl⟩
              go_wp2_with fail
              clear jc4
              go_loopg [3, 9] n6 (fun q nv i wr => ∃ (k : Nat) (z : Int), k ≤ n6 ∧ q = n6 - k ∧ i = .int .i64 k ∧ nv = .int .i64 z ∧ Below wb.heap.size wb wr)
              case atStart => exact ⟨0, _, Nat.zero_le _, rfl, rfl, rfl, HBR.out⟩
              case round =>
                clear HBR HQ
                obtain ⟨k5, z5, hk5, hq5, rfl, rfl, hb5⟩ := hrel
                have HQ := Lib.hid hq5
                have HBR := Lib.hid hb5
                have jc5 := (hb5.cell (p := ⟨g, 5, none⟩) lg).trans HK5.out
                clear hq5 hb5
                by_cases hlt5 : k5 < n6
                · obtain ⟨b2, off2, x2, B1, m1, d1, rfl, hbl2, _, _, f1, _, _⟩ := qPurpose_at (H6.out.mono qPurposeR_mono (HB.out.trans (HBR.out.mono HB.out.size))) hlt5
                  have hkn' : (k5 : Int) < (n6 : Int) := by omega
                  have hk0' : (0 : Int) ≤ (k5 : Int) := by omega
                  go_wp2_with fail
                  go_roundg (n6 - (k5 + 1))
                  case measure => have := HQ.out; omega
                  case rel => exact ⟨k5 + 1, _, by omega, rfl, by go_num, rfl, HBR.out⟩
                · go_wp2_with fail
                  go_ret
                  exact ⟨⟨_, rfl⟩, HB.out.trans (HBR.out.mono HB.out.size)⟩

end Go.Proofs.Ytkkkephjljiplaa
