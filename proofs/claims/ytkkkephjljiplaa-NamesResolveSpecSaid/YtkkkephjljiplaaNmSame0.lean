/- Contracts: SameNames; Same of sources without anything. -/
import Derived.Test.YtkkkephjljiplaaNmRes
namespace Go.Proofs.Ytkkkephjljiplaa
open Go.RowKit

set_option maxHeartbeats 1000000 in
theorem sameNames_any (A B : Option Addr) (n c m d : Nat) (l r : List ByteArray) (w : World) (hl : SlR 1 strR w (.slice A n c) l) (hr : SlR 1 strR w (.slice B m d) r) :
    Calls Try.prog 45 #[.slice A n c, .slice B m d] w fun e w' => e = .returned (.bool (decide (l = r))) ∧ Below w.heap.size w w' := by
  have hn2 : n ≤ 9223372036854775807 := by have := hl.le; omega
  have hm2 : m ≤ 9223372036854775807 := by have := hr.le; omega
  have HNL := Lib.hid hl.len
  have HMR := Lib.hid hr.len
  have HL := Lib.hid hl
  have HR := Lib.hid hr
  clear hl hr
  go_enter Try.func45, Try.ntmps45
  by_cases hnm : n = m
  · subst hnm
    go_wp2_with fail
    go_loopg [5] n (fun q i wr => ∃ k : Nat, k ≤ n ∧ q = n - k ∧ i = .int .i64 k ∧ l.take k = r.take k ∧ Below w.heap.size w wr)
    case atStart => exact ⟨0, Nat.zero_le _, rfl, rfl, rfl, Below.refl _ _⟩
    case round =>
      obtain ⟨k, hk, hq, rfl, htk, hb⟩ := hrel
      have HQ := Lib.hid hq
      have HTK := Lib.hid htk
      have HB := Lib.hid hb
      clear hq htk hb
      by_cases hlt : k < n
      · obtain ⟨a, ao, x, rfl, hal, hx, hxc⟩ := str_at (HL.out.mono strR_mono HB.out) hlt
        obtain ⟨b, bo, y, rfl, hbl, hy, hyc⟩ := str_at (HR.out.mono strR_mono HB.out) hlt
        have hkn : (k : Int) < (n : Int) := by omega
        have hk0 : (0 : Int) ≤ (k : Int) := by omega
        have HX := Lib.hid hx
        have HY := Lib.hid hy
        clear hx hy
        by_cases he : x = y
        · subst he
          have HT : Hid (l.take (k + 1) = r.take (k + 1)) := Lib.hid (by rw [List.take_add_one, List.take_add_one, HTK.out, HX.out, HY.out])
          go_wp2_with fail
          go_quiet (fail)
          go_wp2_with fail
          go_roundg (n - (k + 1))
          case measure => have := HQ.out; omega
          case rel => exact ⟨k + 1, by omega, rfl, by go_num, HT.out, below_drewN HB.out _⟩
        · have hte : (x.toList == y.toList) = false := by rw [str_beq]; simpa using he
          have HNE : Hid (decide (l = r) = false) := Lib.hid (by
            simp only [decide_eq_false_iff_not]
            intro e
            subst e
            have h1 := HX.out
            rw [HY.out] at h1
            exact he (Option.some.inj h1).symm)
          clear he
          go_wp2_with fail
          go_quiet (fail)
          go_wp2_with fail
          go_ret
          exact ⟨by rw [HNE.out]; rfl, below_drewN HB.out _⟩
      · have HE : Hid (decide (l = r) = true) := Lib.hid (by
          have h := HTK.out
          rw [List.take_of_length_le (by have := HNL.out; omega), List.take_of_length_le (by have := HMR.out; omega)] at h
          simpa using h)
        go_wp2_with fail
        go_ret
        exact ⟨by rw [HE.out]; rfl, HB.out⟩
  · have HNE : Hid (decide (l = r) = false) := Lib.hid (by
      simp only [decide_eq_false_iff_not]
      intro e
      have h1 := HNL.out
      have h2 := HMR.out
      rw [e] at h1
      omega)
    have t0 : ((n : Int) == (m : Int)) = false := by simp; omega
    have t1 : decide ((n : Int) = (m : Int)) = false := by simp; omega
    go_wp2_with fail
    go_ret
    exact ⟨by rw [HNE.out]; rfl, Below.refl _ _⟩

set_option maxHeartbeats 2000000 in
set_option maxRecDepth 100000 in
theorem same0_any (A1 A2 A3 A4 A5 A6 : Option Addr) (c1 c2 c3 c4 c5 c6 : Nat) (w : World) (h1 : SlR 1 strR w (.slice A1 0 c1) []) :
    Calls Try.prog 14 #[.agg #[.slice A1 0 c1, .slice A2 0 c2, .slice A3 0 c3, .slice A4 0 c4, .slice A5 0 c5, .slice A6 0 c6], .agg #[.slice none 0 0, .slice none 0 0, .slice none 0 0, .slice none 0 0, .slice none 0 0, .slice none 0 0]] w fun e w' => e = .returned (.bool true) ∧ Below w.heap.size w w' := by
  go_enter Try.func14, Try.ntmps14
  go_wp2_with fail
  obtain ⟨wb, hwb⟩ : ∃ x, x = (w.alloc (.cells #[.slice A1 0 c1, .slice A2 0 c2, .slice A3 0 c3, .slice A4 0 c4, .slice A5 0 c5, .slice A6 0 c6] 29)).alloc (.cells #[.slice none 0 0, .slice none 0 0, .slice none 0 0, .slice none 0 0, .slice none 0 0, .slice none 0 0] 29) := ⟨_, rfl⟩
  rw [← hwb]
  have hbb : Below w.heap.size w wb := by rw [hwb]; exact ((Below.refl _ _).alloc (Nat.le_refl _) _).alloc (by simp) _
  have kA : Blk wb w.heap.size 29 #[.slice A1 0 c1, .slice A2 0 c2, .slice A3 0 c3, .slice A4 0 c4, .slice A5 0 c5, .slice A6 0 c6] := by rw [hwb]; exact (Blk.new _ _ _).alloc _
  have kB : Blk wb (w.heap.size + 1) 29 #[.slice none 0 0, .slice none 0 0, .slice none 0 0, .slice none 0 0, .slice none 0 0, .slice none 0 0] := by rw [hwb]; exact blk_new' (by simp)
  clear hwb
  refine (sameNames_any A1 none 0 c1 0 0 [] [] wb (h1.mono strR_mono hbb) (SlR.nil _ _ (Nat.zero_le _))).mono ?_
  rintro e wx ⟨rfl, hbx⟩
  have hA := kA.below hbx kA.lt
  have hB := kB.below hbx kB.lt
  have HB := Lib.hid (hbb.trans (hbx.mono hbb.size))
  have a1 := hA.cell 1
  have a2 := hA.cell 2
  have a3 := hA.cell 3
  have a4 := hA.cell 4
  have a5 := hA.cell 5
  have b1 := hB.cell 1
  have b2 := hB.cell 2
  have b3 := hB.cell 3
  have b4 := hB.cell 4
  have b5 := hB.cell 5
  have la := hA.lt
  have lb := hB.lt
  simp only [List.getElem?_toArray, List.getElem?_cons_zero, List.getElem?_cons_succ] at a1 a2 a3 a4 a5 b1 b2 b3 b4 b5
  have tt : decide (([] : List ByteArray) = []) = true := by simp
  rw [tt]
  clear hA hB hbb hbx kA kB tt
  go_wp2_with fail
  go_loopg [5] 0 (fun q i wr => q = 0 ∧ i = .int .i64 0 ∧ wx = wr)
  case atStart => exact ⟨rfl, rfl, rfl⟩
  obtain ⟨hq, rfl, rfl⟩ := hrel
  clear hq
  go_wp2_with fail
  go_loopg [6] 0 (fun q i wr => q = 0 ∧ i = .int .i64 0 ∧ wx = wr)
  case atStart => exact ⟨rfl, rfl, rfl⟩
  obtain ⟨hq, rfl, rfl⟩ := hrel
  clear hq
  go_wp2_with fail
  go_loopg [7] 0 (fun q i wr => q = 0 ∧ i = .int .i64 0 ∧ wx = wr)
  case atStart => exact ⟨rfl, rfl, rfl⟩
  obtain ⟨hq, rfl, rfl⟩ := hrel
  clear hq
  go_wp2_with fail
  go_loopg [8] 0 (fun q i wr => q = 0 ∧ i = .int .i64 0 ∧ wx = wr)
  case atStart => exact ⟨rfl, rfl, rfl⟩
  obtain ⟨hq, rfl, rfl⟩ := hrel
  clear hq
  go_wp2_with fail
  go_loopg [9] 0 (fun q i wr => q = 0 ∧ i = .int .i64 0 ∧ wx = wr)
  case atStart => exact ⟨rfl, rfl, rfl⟩
  obtain ⟨hq, rfl, rfl⟩ := hrel
  clear hq
  go_wp2_with fail
  go_ret
  exact ⟨rfl, HB.out⟩

end Go.Proofs.Ytkkkephjljiplaa
