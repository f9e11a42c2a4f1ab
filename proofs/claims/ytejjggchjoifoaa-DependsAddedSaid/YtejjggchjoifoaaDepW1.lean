/- Contracts of depends.set.has, valid, Check, bitsOf. -/
import Derived.Test.YtejjggchjoifoaaProg
import Derived.Test.YtejjggchjoifoaaDepPlain
import Derived.Deep.QuietTactic
import Derived.BigQuiet
namespace Go.Proofs.Ytejjggchjoifoaa
open Go.RowKit

theorem has_any (x : Nat) (f : Int) (w : World) (hx : x < 4096) (h0 : 0 ≤ f) (h1 : f < 64) :
    Calls Try.prog 28 #[.int .u64 x, .int .i64 f] w fun e w' => e = .returned (.bool (x.testBit f.toNat)) ∧ w = w' := by
  go_enter Try.func28, Try.ntmps28
  go_wp2
  go_ret
  refine ⟨?_, rfl⟩
  rw [← bit_eq x _ hx]; rfl

set_option maxHeartbeats 400000 in
theorem valid_any (nA A : Option Addr) (nn nc n c : Nat) (s : ByteArray) (to : Int) (nf : Nat) (l : List Int) (w : World) (hnf : nf ≤ 12) (hs : SlR 1 intR w (.slice A n c) l) :
    Calls Try.prog 30 #[.agg #[.slice nA nn nc, .string s, .slice A n c, .int .i64 to], .int .i64 nf] w (Ret (.bool (validB nf ⟨l, to⟩)) w) := by
  have hn2 : n ≤ 9223372036854775807 := by have := hs.le; omega
  have HN := Lib.hid hs.len
  have HS := Lib.hid hs
  clear hs
  go_enter Try.func30, Try.ntmps30
  go_wp2
  go_loop [5, 11] (fun fr i => ∃ k x : Nat, k ≤ n ∧ i = .int .i64 k ∧ fr = .int .u64 x ∧ x < 4096 ∧ vLoop nf (l.drop k) x = vLoop nf l 0) (fun _ i => n - (intOf i).toNat)
  case atStart => exact ⟨0, 0, Nat.zero_le _, rfl, rfl, by omega, rfl⟩
  case round =>
    obtain ⟨k, x, hk, rfl, rfl, hx, hv⟩ := hrel
    have HV := Lib.hid hv
    clear hv
    by_cases hlt : k < n
    · obtain ⟨b, off, f, rfl, hb, hf, hc, hlo, hhi⟩ := ints_at HS.out hlt
      have HF := Lib.hid hf
      clear hf
      go_wp2_with (go_at_call 28; refine (has_any _ _ _ hx (by omega) (by omega)).mono ?_; rintro e w' ⟨rfl, rfl⟩)
      rotate_left 1
      · have hb2 : x.testBit f.toNat = false := by simp_all
        go_round
        case rel => exact ⟨k + 1, x ||| 2 ^ f.toNat, by omega, by go_num, by rw [set_or hx (by omega)], or_lt hx (by omega), by rw [← HV.out, drop_cons HF.out, vLoop_go (by omega) (by omega) hb2]⟩
        case measure => simp [intOf]; omega
      all_goals
        go_ret
        refine ⟨ret_bool ?_, (Below.refl _ _).alloc (Nat.le_refl _) _⟩
        rw [validB_none]
        rw [← HV.out, drop_cons HF.out, vLoop_bad]
        first | (left; assumption) | (right; left; assumption) | (right; right; rcases ‹_ ∨ _› with (h | h) | h <;> first | exact h | (exfalso; omega))
    · have hv := vLoop_end HV.out (by have := HN.out; omega)
      have HW := Lib.hid (validB_some (to := to) hv)
      clear hv
      go_wp2_with (go_at_call 28; refine (has_any _ _ _ hx (by omega) (by omega)).mono ?_; rintro e w' ⟨rfl, rfl⟩)
      all_goals
        go_ret
        refine ⟨ret_bool ?_, (Below.refl _ _).alloc (Nat.le_refl _) _⟩
        rw [HW.out]
        go_light
        simp [*, castNe]
        try (intros; omega)

set_option maxHeartbeats 400000 in
theorem bitsOf_any (A : Option Addr) (n c : Nat) (l : List Int) (w : World) (hs : SlR 1 intR w (.slice A n c) l) (hl : ∀ x ∈ l, 0 ≤ x ∧ x < 12) :
    Calls Try.prog 27 #[.slice A n c] w fun e w' => e = .returned (.int .u64 (bitsL l 0 : Nat)) ∧ w = w' := by
  have hn2 : n ≤ 9223372036854775807 := by have := hs.le; omega
  have HN := Lib.hid hs.len
  have HS := Lib.hid hs
  have HL := Lib.hid hl
  clear hs hl
  go_enter Try.func27, Try.ntmps27
  go_wp2
  go_loop [2, 7] (fun fr i => ∃ k x : Nat, k ≤ n ∧ i = .int .i64 k ∧ fr = .int .u64 x ∧ x < 4096 ∧ bitsL (l.drop k) x = bitsL l 0) (fun _ i => n - (intOf i).toNat)
  case atStart => exact ⟨0, 0, Nat.zero_le _, rfl, rfl, by omega, rfl⟩
  case round =>
    obtain ⟨k, x, hk, rfl, rfl, hx, hv⟩ := hrel
    have HV := Lib.hid hv
    clear hv
    by_cases hlt : k < n
    · obtain ⟨b, off, f, rfl, hb, hf, hc, hlo, hhi⟩ := ints_at HS.out hlt
      obtain ⟨hf0, hf1⟩ := HL.out f (List.mem_of_getElem? hf)
      have HF := Lib.hid hf
      clear hf
      go_wp2
      go_round
      case rel => exact ⟨k + 1, x ||| 2 ^ f.toNat, by omega, by go_num, by rw [set_or hx (by omega)], or_lt hx (by omega), by rw [← HV.out, drop_cons HF.out]; rfl⟩
      case measure => simp [intOf]; omega
    · have hv : (x : Int) = (bitsL l 0 : Nat) := by
        have h1 := HV.out
        rw [List.drop_of_length_le (by have := HN.out; omega)] at h1
        rw [← h1]; rfl
      have HW := Lib.hid hv
      clear hv
      go_wp2
      go_ret
      exact ⟨ret_int HW.out, rfl⟩

set_option maxHeartbeats 400000 in
theorem check_any (s1 s2 : ByteArray) (i1 i2 : Int) (fA dA : Option Addr) (nf fc nd dc : Nat) (ds : List Dep) (w : World) (hnf : nf ≤ 9223372036854775807) (hs : SlR 4 depR w (.slice dA nd dc) ds) :
    Calls Try.prog 16 #[.agg #[.string s1, .string s2, .int .i64 i1, .int .i64 i2, .slice fA nf fc, .slice dA nd dc]] w (Ret (.int .i64 (eno (checkB nf ds))) w) := by
  have hn2 : nd ≤ 9223372036854775807 := by have := hs.le; omega
  have HN := Lib.hid hs.len
  have HS := Lib.hid hs
  clear hs
  by_cases h1 : nf < 1 ∨ 12 < nf ∨ 12 < nd
  · have HC : Hid (checkB nf ds = false) := by
      have := HN.out
      show _ = _
      unfold checkB
      rcases h1 with h | h | h
      · simp [show ¬ 1 ≤ nf by omega]
      · simp [show ¬ nf ≤ 12 by omega]
      · simp [show ¬ ds.length ≤ 12 by omega]
    go_enter Try.func16, Try.ntmps16
    go_wp2
    all_goals first
      | (go_ret; exact ⟨by rw [HC.out]; rfl, (Below.refl _ _).alloc (Nat.le_refl _) _⟩)
      | (exfalso; omega)
  · have a1 : 1 ≤ nf := by omega
    have a2 : nf ≤ 12 := by omega
    have a3 : nd ≤ 12 := by omega
    clear h1
    have d1 : decide ((nf : Int) < 1) = false := by simp; omega
    have d2 : decide ((12 : Int) < nf) = false := by simp; omega
    have d3 : decide ((12 : Int) < nd) = false := by simp; omega
    go_enter Try.func16, Try.ntmps16
    go_wp2
    go_loopw [24] (fun i wr => ∃ k : Nat, k ≤ nd ∧ i = .int .i64 k ∧ Below (w.heap.size + 1) (w.alloc (.cells #[.string s1, .string s2, .int .i64 i1, .int .i64 i2, .slice fA nf fc, .slice dA nd dc] 25)) wr ∧ (ds.take k).all (validB nf) = true) (fun i _ => nd - (intOf i).toNat)
    case atStart => exact ⟨0, Nat.zero_le _, rfl, Below.refl _ _, rfl⟩
    case round =>
      obtain ⟨k, hk, rfl, hb, hv⟩ := hrel
      have HV := Lib.hid hv
      clear hv
      have hb0 : Below w.heap.size w wr := ((Below.refl _ _).alloc (Nat.le_refl _) _).trans (hb.mono (by omega))
      have hbx4 : wr.cell? ⟨w.heap.size, 4, none⟩ = some (.slice fA nf fc) := (hb.cell (p := ⟨w.heap.size, 4, none⟩) (by simp)).trans (by simp)
      have hsz : w.heap.size < wr.heap.size := by have := hb.size; simp at this; omega
      by_cases hlt : k < nd
      · obtain ⟨b, off, d, nA, nn, nc, s, gA, gn, gc, rfl, hbl, hd, c0, c1, c2, c3, hsrc, hlo, hhi⟩ := dep_at (HS.out.mono depR_mono hb0) hlt
        have HD := Lib.hid hd
        have HSRC := Lib.hid hsrc
        have HB := Lib.hid hb
        have HB0 := Lib.hid hb0
        clear hd hsrc hb hb0
        obtain ⟨vb, hvb⟩ : ∃ vb, validB nf d = vb := ⟨_, rfl⟩
        have HVB := Lib.hid hvb
        clear hvb
        rcases vb with _ | _
        all_goals
          go_wp2_with (go_at_call 30; refine (valid_any _ _ _ _ _ _ _ _ _ d.src _ a2 (HSRC.out.mono intR_mono ((Below.refl _ _).alloc (Nat.le_refl _) _))).mono ?_; rintro e w1 ⟨rfl, hb1⟩; rw [show validB nf ⟨d.src, d.dst⟩ = _ from HVB.out]; have HB1 := Lib.hid hb1; clear hb1)
        · go_ret
          refine ⟨ret_int ?_, (HB0.out.alloc (by omega) _).trans (HB1.out.mono (by simp; omega))⟩
          rw [checkB_bad HD.out HVB.out]; rfl
        · go_roundw
          case rel => exact ⟨k + 1, by omega, by go_num, (HB.out.alloc (by omega) _).trans (HB1.out.mono (by simp; omega)), by rw [take_snoc HD.out, List.all_append, HV.out]; simp [HVB.out]⟩
          case measure => simp [intOf]; omega
      · have HC : Hid (checkB nf ds = true) := by
          have h1 := HV.out
          have h2 := HN.out
          rw [List.take_of_length_le (by omega)] at h1
          show _ = _
          unfold checkB
          simp [h1, a1, a2]; omega
        go_wp2
        go_ret
        exact ⟨by rw [HC.out]; rfl, hb0⟩

end Go.Proofs.Ytejjggchjoifoaa
