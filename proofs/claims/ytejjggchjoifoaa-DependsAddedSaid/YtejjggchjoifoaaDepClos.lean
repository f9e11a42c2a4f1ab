/- The closure of a set under dependencies, as passes over the list: plain Lean. -/
import Derived.Test.YtejjggchjoifoaaDepPlain
namespace Go.Proofs.Ytejjggchjoifoaa

def pass (ds : List Dep) (x : Nat) : Nat := ds.foldl stepX x
def passN (ds : List Dep) : Nat → Nat → Nat
  | 0, x => x
  | n + 1, x => pass ds (passN ds n x)
def clos (ds : List Dep) (x : Nat) : Nat := passN ds 4096 x

theorem stepX_ge (x : Nat) (d : Dep) : x ≤ stepX x d := by
  unfold stepX; split
  · exact Nat.left_le_or
  · exact Nat.le_refl _
theorem stepX_gt {x : Nat} {d : Dep} (h : addB x d = true) : x < stepX x d := by
  have h1 : x ≤ stepX x d := stepX_ge x d
  have h2 : x ≠ stepX x d := by
    intro e
    rw [stepX_yes h] at e
    have h3 : x.testBit d.dst.toNat = false := by
      simp only [addB, Bool.and_eq_true, Bool.not_eq_true'] at h
      exact h.2
    rw [e] at h3
    simp [Nat.testBit_two_pow_self] at h3
  omega
theorem foldl_ge (ds : List Dep) : ∀ x : Nat, x ≤ ds.foldl stepX x := by
  induction ds with
  | nil => exact fun x => Nat.le_refl x
  | cons d r ih => exact fun x => Nat.le_trans (stepX_ge x d) (ih _)
theorem foldl_lt {ds : List Dep} (hd : ∀ d ∈ ds, okDep 12 d) : ∀ {x : Nat}, x < 4096 → ds.foldl stepX x < 4096 := by
  induction ds with
  | nil => exact fun h => h
  | cons d r ih => exact fun hx => ih (fun e he => hd e (by simp [he])) (stepX_lt hx (hd d (by simp)).2.2)
theorem passN_lt {ds : List Dep} (hd : ∀ d ∈ ds, okDep 12 d) {x : Nat} (hx : x < 4096) (n : Nat) : passN ds n x < 4096 := by
  induction n with
  | zero => exact hx
  | succ n ih => exact foldl_lt hd ih
theorem passN_grow (ds : List Dep) (x : Nat) : ∀ n, pass ds (passN ds n x) = passN ds n x ∨ n + 1 ≤ passN ds (n + 1) x := by
  intro n
  induction n with
  | zero =>
    have := foldl_ge ds x
    by_cases e : pass ds x = x
    · exact .inl e
    · right; show 1 ≤ pass ds x
      have h1 : x ≤ pass ds x := this
      omega
  | succ n ih =>
    by_cases e : pass ds (passN ds (n + 1) x) = passN ds (n + 1) x
    · exact .inl e
    · right
      have h1 : passN ds (n + 1) x ≤ pass ds (passN ds (n + 1) x) := foldl_ge ds _
      have h2 : n + 1 ≤ passN ds (n + 1) x := by
        rcases ih with h | h
        · exfalso; apply e
          have h3 : passN ds (n + 1) x = passN ds n x := h
          rw [h3]; exact h
        · exact h
      show n + 1 + 1 ≤ pass ds (passN ds (n + 1) x)
      omega
theorem clos_fix {ds : List Dep} (hd : ∀ d ∈ ds, okDep 12 d) {x : Nat} (hx : x < 4096) : pass ds (clos ds x) = clos ds x := by
  rcases passN_grow ds x 4096 with h | h
  · exact h
  · have := passN_lt hd hx (4096 + 1); omega
theorem passN_stay {ds : List Dep} {x n : Nat} (h : pass ds (passN ds n x) = passN ds n x) (m : Nat) : passN ds (n + m) x = passN ds n x := by
  induction m with
  | zero => rfl
  | succ m ih => show pass ds (passN ds (n + m) x) = _; rw [ih, h]
theorem clos_of_fix {ds : List Dep} (hd : ∀ d ∈ ds, okDep 12 d) {x : Nat} (hx : x < 4096) {n : Nat} (h : pass ds (passN ds n x) = passN ds n x) : passN ds n x = clos ds x := by
  rcases Nat.le_total n 4096 with hn | hn
  · have := passN_stay h (4096 - n)
    rw [show n + (4096 - n) = 4096 by omega] at this
    exact this.symm
  · have := passN_stay (n := 4096) (clos_fix hd hx) (n - 4096)
    rw [show 4096 + (n - 4096) = n by omega] at this
    exact this

end Go.Proofs.Ytejjggchjoifoaa
