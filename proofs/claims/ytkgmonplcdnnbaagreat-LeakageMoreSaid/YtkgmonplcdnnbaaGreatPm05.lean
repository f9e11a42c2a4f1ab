/- The methods of rules.queue behind an interface. Written by genhp.py. -/
import Derived.Test.YtkgmonplcdnnbaaGreatPm00
import Derived.Test.YtkgmonplcdnnbaaGreatProg
import Derived.Test.YtkgmonplcdnnbaaGreatPm01
import Derived.Test.YtkgmonplcdnnbaaGreatPm02
import Derived.Deep.QuietTactic
import Derived.BigQuiet
import Derived.Test.YtkgmonplcdnnbaaGreatPm03
namespace Go.Proofs.YtkgmonplcdnnbaaGreat
open Go.RowKit
def belowL : List Int → List Int → Bool
 | a :: ar, b :: bs => decide (a ≤ b) && belowL ar bs
 | _, _ => true
def compL : List Int → List Int → Int
 | a :: ar, b :: bs => if a = b then compL ar bs else if a < b then -1 else 1
 | _, _ => 0
def sameL {α : Type} [DecidableEq α] (a b : List α) : Bool := decide (a = b)
theorem sameL_len {α : Type} [DecidableEq α] {a b : List α} (h : ¬ a.length = b.length) : sameL a b = false := by
 unfold sameL
 exact decide_eq_false (fun e => h (by rw [e]))
theorem belowL_go {a b : List Int} {k : Nat} {x y : Int} {r : Bool} (ha : a[k]? = some x) (hb : b[k]? = some y) (h : belowL (a.drop k) (b.drop k) = r) (hle : x ≤ y) : belowL (a.drop (k + 1)) (b.drop (k + 1)) = r := by
 rw [drop_cons ha, drop_cons hb] at h
 simpa [belowL, hle] using h
theorem belowL_stop {a b : List Int} {k : Nat} {x y : Int} {r : Bool} (ha : a[k]? = some x) (hb : b[k]? = some y) (h : belowL (a.drop k) (b.drop k) = r) (hle : y < x) : r = false := by
 rw [drop_cons ha, drop_cons hb] at h
 rw [← h]; simp [belowL, show ¬ x ≤ y by omega]
theorem belowL_end {a b : List Int} {k : Nat} {r : Bool} (h : belowL (a.drop k) (b.drop k) = r) (hk : a.length ≤ k) : r = true := by
 rw [List.drop_of_length_le hk] at h
 rw [← h]; rfl
theorem compL_go {a b : List Int} {k : Nat} {x y : Int} {r : Int} (ha : a[k]? = some x) (hb : b[k]? = some y) (h : compL (a.drop k) (b.drop k) = r) (e : x = y) : compL (a.drop (k + 1)) (b.drop (k + 1)) = r := by
 rw [drop_cons ha, drop_cons hb] at h
 simpa [compL, e] using h
theorem compL_less {a b : List Int} {k : Nat} {x y : Int} {r : Int} (ha : a[k]? = some x) (hb : b[k]? = some y) (h : compL (a.drop k) (b.drop k) = r) (e : x < y) : r = -1 := by
 rw [drop_cons ha, drop_cons hb] at h
 rw [← h]; unfold compL; rw [if_neg (by omega), if_pos e]
theorem compL_more {a b : List Int} {k : Nat} {x y : Int} {r : Int} (ha : a[k]? = some x) (hb : b[k]? = some y) (h : compL (a.drop k) (b.drop k) = r) (e : y < x) : r = 1 := by
 rw [drop_cons ha, drop_cons hb] at h
 rw [← h]; unfold compL; rw [if_neg (by omega), if_neg (by omega)]
theorem compL_end {a b : List Int} {k : Nat} {r : Int} (h : compL (a.drop k) (b.drop k) = r) (hk : a.length ≤ k) : r = 0 := by
 rw [List.drop_of_length_le hk] at h
 rw [← h]; rfl
theorem sameL_go {α : Type} [DecidableEq α] {a b : List α} {k : Nat} {x y : α} {r : Bool} (ha : a[k]? = some x) (hb : b[k]? = some y) (h : sameL (a.drop k) (b.drop k) = r) (e : x = y) : sameL (a.drop (k + 1)) (b.drop (k + 1)) = r := by
 rw [drop_cons ha, drop_cons hb] at h
 subst e
 simpa [sameL] using h
theorem sameL_stop {α : Type} [DecidableEq α] {a b : List α} {k : Nat} {x y : α} {r : Bool} (ha : a[k]? = some x) (hb : b[k]? = some y) (h : sameL (a.drop k) (b.drop k) = r) (e : ¬ x = y) : r = false := by
 rw [drop_cons ha, drop_cons hb] at h
 rw [← h]; simp [sameL, e]
theorem sameL_end {α : Type} [DecidableEq α] {a b : List α} {k : Nat} {r : Bool} (h : sameL (a.drop k) (b.drop k) = r) (hl : a.length = b.length) (hk : a.length ≤ k) : r = true := by
 rw [List.drop_of_length_le hk, List.drop_of_length_le (by omega)] at h
 rw [← h]; rfl
set_option maxHeartbeats 1000000 in
theorem equalStr_any (A B : Option Addr) (n c m d : Nat) (l r : List ByteArray) (w : World) (hl : SlR 1 strR w (.slice A n c) l) (hr : SlR 1 strR w (.slice B m d) r) :
 Calls Tryz.prog 82 #[.slice A n c, .slice B m d] w fun e w' => e = .returned (.bool (sameL l r)) ∧ Below w.heap.size w w' := by
 have hn2 : n ≤ 9223372036854775807 := by have := hl.le; omega
 have hln := hl.len
 have hrn := hr.len
 have HL := Lib.hid hl
 have HR := Lib.hid hr
 clear hl hr
 by_cases e : n = m
 ·
  subst e
  have el : l.length = r.length := by omega
  skip
  have HN := Lib.hid hln
  have HE := Lib.hid el
  clear hln hrn el
  obtain ⟨v, hv⟩ : ∃ v, sameL l r = v := ⟨_, rfl⟩
  rw [hv]
  have HV : Hid (sameL (l.drop 0) (r.drop 0) = v) := Lib.hid hv
  clear hv
  go_enter Tryz.func82, Tryz.ntmps82
  go_wp2_with fail
  go_loopg [13] n (fun q i wr => ∃ k : Nat, k ≤ n ∧ q = n - k ∧ i = .int .i64 k ∧ sameL (l.drop k) (r.drop k) = v ∧ Below w.heap.size w wr)
  case atStart => exact ⟨0, Nat.zero_le _, rfl, rfl, HV.out, Below.refl _ _⟩
  case round =>
   obtain ⟨k, hk, hq, rfl, hv, hb⟩ := hrel
   have HQ := Lib.hid hq
   have HB := Lib.hid hb
   have HV2 := Lib.hid hv
   clear hq hb hv HV
   by_cases hlt : k < n
   ·
    obtain ⟨a, ao, x, rfl, hal, hx, hxc⟩ := str_at (HL.out.mono strR_mono HB.out) hlt
    obtain ⟨b, bo, y, rfl, hbl, hy, hyc⟩ := str_at (HR.out.mono strR_mono HB.out) hlt
    have HX := Lib.hid hx
    have HY := Lib.hid hy
    have hkn : (k : Int) < (n : Int) := by omega
    have hk0 : (0 : Int) ≤ (k : Int) := by omega
    clear hx hy
    by_cases exy : x = y
    ·
     subst exy
     go_wp2_with fail
     go_quiet (fail)
     go_wp2_with fail
     go_roundg (n - (k + 1))
     case measure => have := HQ.out; omega
     case rel => exact ⟨k + 1, by omega, rfl, by go_num, sameL_go HX.out HY.out HV2.out rfl, below_drewN HB.out _⟩
    ·
     obtain rfl := sameL_stop HX.out HY.out HV2.out exy
     have exl : (x.toList == y.toList) = false := by rw [str_beq]; exact decide_eq_false exy
     go_wp2_with fail
     go_quiet (fail)
     go_wp2_with fail
     go_ret
     exact ⟨rfl, below_drewN HB.out _⟩
   ·
    obtain rfl := sameL_end HV2.out HE.out (by have := HN.out; omega)
    go_wp2_with fail
    go_ret
    exact ⟨rfl, HB.out⟩
 ·
  have el : ¬ l.length = r.length := by omega
  rw [sameL_len el]
  go_enter Tryz.func82, Tryz.ntmps82
  go_wp2_with fail
  go_ret
  exact ⟨rfl, Below.refl _ _⟩
set_option maxHeartbeats 1000000 in
theorem equalInt_any (A B : Option Addr) (n c m d : Nat) (l r : List Int) (w : World) (hl : SlR 1 iR w (.slice A n c) l) (hr : SlR 1 iR w (.slice B m d) r) :
 Calls Tryz.prog 51 #[.slice A n c, .slice B m d] w fun e w' => e = .returned (.bool (sameL l r)) ∧ Below w.heap.size w w' := by
 have hn2 : n ≤ 9223372036854775807 := by have := hl.le; omega
 have hln := hl.len
 have hrn := hr.len
 have HL := Lib.hid hl
 have HR := Lib.hid hr
 clear hl hr
 by_cases e : n = m
 ·
  subst e
  have el : l.length = r.length := by omega
  skip
  have HN := Lib.hid hln
  have HE := Lib.hid el
  clear hln hrn el
  obtain ⟨v, hv⟩ : ∃ v, sameL l r = v := ⟨_, rfl⟩
  rw [hv]
  have HV : Hid (sameL (l.drop 0) (r.drop 0) = v) := Lib.hid hv
  clear hv
  go_enter Tryz.func51, Tryz.ntmps51
  go_wp2_with fail
  go_loopg [13] n (fun q i wr => ∃ k : Nat, k ≤ n ∧ q = n - k ∧ i = .int .i64 k ∧ sameL (l.drop k) (r.drop k) = v ∧ Below w.heap.size w wr)
  case atStart => exact ⟨0, Nat.zero_le _, rfl, rfl, HV.out, Below.refl _ _⟩
  case round =>
   obtain ⟨k, hk, hq, rfl, hv, hb⟩ := hrel
   have HQ := Lib.hid hq
   have HB := Lib.hid hb
   have HV2 := Lib.hid hv
   clear hq hb hv HV
   by_cases hlt : k < n
   ·
    obtain ⟨a, ao, x, rfl, hal, hx, hxc⟩ := i_at (HL.out.mono iR_mono HB.out) hlt
    obtain ⟨b, bo, y, rfl, hbl, hy, hyc⟩ := i_at (HR.out.mono iR_mono HB.out) hlt
    have HX := Lib.hid hx
    have HY := Lib.hid hy
    have hkn : (k : Int) < (n : Int) := by omega
    have hk0 : (0 : Int) ≤ (k : Int) := by omega
    clear hx hy
    by_cases exy : x = y
    ·
     subst exy
     go_wp2_with fail
     go_quiet (fail)
     go_wp2_with fail
     go_roundg (n - (k + 1))
     case measure => have := HQ.out; omega
     case rel => exact ⟨k + 1, by omega, rfl, by go_num, sameL_go HX.out HY.out HV2.out rfl, below_drewN HB.out _⟩
    ·
     obtain rfl := sameL_stop HX.out HY.out HV2.out exy
     go_wp2_with fail
     go_quiet (fail)
     go_wp2_with fail
     go_ret
     exact ⟨rfl, below_drewN HB.out _⟩
   ·
    obtain rfl := sameL_end HV2.out HE.out (by have := HN.out; omega)
    go_wp2_with fail
    go_ret
    exact ⟨rfl, HB.out⟩
 ·
  have el : ¬ l.length = r.length := by omega
  rw [sameL_len el]
  go_enter Tryz.func51, Tryz.ntmps51
  go_wp2_with fail
  go_ret
  exact ⟨rfl, Below.refl _ _⟩
theorem mfLen : (Tryz.prog.info? 209).map (fun i => i.methods.find? (·.name == "Len")) = some (some ⟨"Len", 214, #[⟨212, 0, true⟩], some (149, false)⟩) := by kernel_rfl
theorem methodLen (G : Nat) (v : Value) (w : World) (h : w.cell? ⟨G, 0, none⟩ = some v) : ∀ N : Nat, 0 < N →
 (method N 209 (.pointer (some ⟨G, 0, none⟩)) "Len").run Tryz.prog w = .ok (149, v) w := by
 intro N hN
 obtain ⟨k, rfl⟩ : ∃ k, N = k + 1 := ⟨N - 1, by omega⟩
 obtain ⟨i, hi, hm⟩ : ∃ i, Tryz.prog.info? 209 = some i ∧ i.methods.find? (·.name == "Len") = some ⟨"Len", 214, #[⟨212, 0, true⟩], some (149, false)⟩ := by
  have := mfLen
  simpa [Option.map_eq_some_iff] using this
 unfold method
 simp [typeInfo, run_program, hi, hm, follow, run_underlying Tryz.underlying212, Place.get, asAddr, fieldPlace, receiverAt, run_underlying Tryz.underlying210, go_sem, h]
theorem mfLess : (Tryz.prog.info? 209).map (fun i => i.methods.find? (·.name == "Less")) = some (some ⟨"Less", 291, #[⟨212, 0, true⟩], some (237, false)⟩) := by kernel_rfl
theorem methodLess (G : Nat) (v : Value) (w : World) (h : w.cell? ⟨G, 0, none⟩ = some v) : ∀ N : Nat, 0 < N →
 (method N 209 (.pointer (some ⟨G, 0, none⟩)) "Less").run Tryz.prog w = .ok (237, v) w := by
 intro N hN
 obtain ⟨k, rfl⟩ : ∃ k, N = k + 1 := ⟨N - 1, by omega⟩
 obtain ⟨i, hi, hm⟩ : ∃ i, Tryz.prog.info? 209 = some i ∧ i.methods.find? (·.name == "Less") = some ⟨"Less", 291, #[⟨212, 0, true⟩], some (237, false)⟩ := by
  have := mfLess
  simpa [Option.map_eq_some_iff] using this
 unfold method
 simp [typeInfo, run_program, hi, hm, follow, run_underlying Tryz.underlying212, Place.get, asAddr, fieldPlace, receiverAt, run_underlying Tryz.underlying210, go_sem, h]
theorem mfSwap : (Tryz.prog.info? 209).map (fun i => i.methods.find? (·.name == "Swap")) = some (some ⟨"Swap", 284, #[⟨212, 0, true⟩], some (241, false)⟩) := by kernel_rfl
theorem methodSwap (G : Nat) (v : Value) (w : World) (h : w.cell? ⟨G, 0, none⟩ = some v) : ∀ N : Nat, 0 < N →
 (method N 209 (.pointer (some ⟨G, 0, none⟩)) "Swap").run Tryz.prog w = .ok (241, v) w := by
 intro N hN
 obtain ⟨k, rfl⟩ : ∃ k, N = k + 1 := ⟨N - 1, by omega⟩
 obtain ⟨i, hi, hm⟩ : ∃ i, Tryz.prog.info? 209 = some i ∧ i.methods.find? (·.name == "Swap") = some ⟨"Swap", 284, #[⟨212, 0, true⟩], some (241, false)⟩ := by
  have := mfSwap
  simpa [Option.map_eq_some_iff] using this
 unfold method
 simp [typeInfo, run_program, hi, hm, follow, run_underlying Tryz.underlying212, Place.get, asAddr, fieldPlace, receiverAt, run_underlying Tryz.underlying210, go_sem, h]
theorem mfPush : (Tryz.prog.info? 209).map (fun i => i.methods.find? (·.name == "Push")) = some (some ⟨"Push", 282, #[], some (239, true)⟩) := by kernel_rfl
theorem methodPush (a : Addr) (w : World) : ∀ N : Nat, 0 < N →
 (method N 209 (.pointer (some a)) "Push").run Tryz.prog w = .ok (239, .pointer (some a)) w := by
 intro N hN
 obtain ⟨k, rfl⟩ : ∃ k, N = k + 1 := ⟨N - 1, by omega⟩
 obtain ⟨i, hi, hm⟩ : ∃ i, Tryz.prog.info? 209 = some i ∧ i.methods.find? (·.name == "Push") = some ⟨"Push", 282, #[], some (239, true)⟩ := by
  have := mfPush
  simpa [Option.map_eq_some_iff] using this
 unfold method
 simp [typeInfo, run_program, hi, hm, follow, run_underlying Tryz.underlying209, Place.get, receiverAt]
theorem mfPop : (Tryz.prog.info? 209).map (fun i => i.methods.find? (·.name == "Pop")) = some (some ⟨"Pop", 286, #[], some (238, true)⟩) := by kernel_rfl
theorem methodPop (a : Addr) (w : World) : ∀ N : Nat, 0 < N →
 (method N 209 (.pointer (some a)) "Pop").run Tryz.prog w = .ok (238, .pointer (some a)) w := by
 intro N hN
 obtain ⟨k, rfl⟩ : ∃ k, N = k + 1 := ⟨N - 1, by omega⟩
 obtain ⟨i, hi, hm⟩ : ∃ i, Tryz.prog.info? 209 = some i ∧ i.methods.find? (·.name == "Pop") = some ⟨"Pop", 286, #[], some (238, true)⟩ := by
  have := mfPop
  simpa [Option.map_eq_some_iff] using this
 unfold method
 simp [typeInfo, run_program, hi, hm, follow, run_underlying Tryz.underlying209, Place.get, receiverAt]
end Go.Proofs.YtkgmonplcdnnbaaGreat
