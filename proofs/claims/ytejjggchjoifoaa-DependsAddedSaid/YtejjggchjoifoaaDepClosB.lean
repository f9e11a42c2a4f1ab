/- The closure as a set: plain Lean. -/
import Derived.Test.YtejjggchjoifoaaDepCnt
namespace Go.Proofs.Ytejjggchjoifoaa

def inX (x : Nat) (f : Int) : Bool := x.testBit f.toNat

theorem bitsL_bit : ∀ (l : List Int) (x i : Nat), (bitsL l x).testBit i = (x.testBit i || l.any (fun f => decide (f.toNat = i)))
  | [], x, i => by simp [bitsL]
  | f :: r, x, i => by
    show (bitsL r (x ||| 2 ^ f.toNat)).testBit i = _
    rw [bitsL_bit r, testBit_or_pow, List.any_cons, Bool.or_assoc]

theorem and_eq_iff (x b : Nat) : ((x &&& b) == b) = true ↔ ∀ i, b.testBit i = true → x.testBit i = true := by
  rw [beq_iff_eq]
  constructor
  · intro h i hi
    have h1 : (x &&& b).testBit i = true := by rw [h]; exact hi
    rw [Nat.testBit_and, Bool.and_eq_true] at h1
    exact h1.1
  · intro h
    apply Nat.eq_of_testBit_eq
    intro i
    rw [Nat.testBit_and]
    cases hb : b.testBit i
    · simp
    · simp [h i hb]

theorem sub_iff (x : Nat) (l : List Int) : ((x &&& bitsL l 0) == bitsL l 0) = l.all (inX x) := by
  rw [Bool.eq_iff_iff, and_eq_iff, List.all_eq_true]
  constructor
  · intro h f hf
    apply h
    rw [bitsL_bit]
    simp only [Nat.zero_testBit, Bool.false_or, List.any_eq_true, decide_eq_true_eq]
    exact ⟨f, hf, rfl⟩
  · intro h i hi
    rw [bitsL_bit] at hi
    simp only [Nat.zero_testBit, Bool.false_or, List.any_eq_true, decide_eq_true_eq] at hi
    obtain ⟨f, hf, rfl⟩ := hi
    exact h f hf

theorem stepX_eq (x : Nat) (d : Dep) : stepX x d = if d.src.all (inX x) then x ||| 2 ^ d.dst.toNat else x := by
  unfold stepX addB
  rw [sub_iff]
  cases h1 : d.src.all (inX x)
  · simp
  · cases h2 : x.testBit d.dst.toNat
    · simp
    · simp only [Bool.not_true, Bool.and_false, Bool.false_eq_true, if_false, if_true]
      apply Nat.eq_of_testBit_eq
      intro i
      rw [testBit_or_pow]
      by_cases e : d.dst.toNat = i
      · subst e; simp [h2]
      · simp [e]

theorem stepX_bit (x : Nat) (d : Dep) (i : Nat) : (stepX x d).testBit i = (x.testBit i || (d.src.all (inX x) && decide (d.dst.toNat = i))) := by
  rw [stepX_eq]
  split
  · rename_i h; rw [testBit_or_pow, h]; simp
  · rename_i h
    have : d.src.all (inX x) = false := by simpa using h
    rw [this]; simp

/-- Bits are only added. -/
def Sub (x y : Nat) : Prop := ∀ i, x.testBit i = true → y.testBit i = true
theorem Sub.refl (x : Nat) : Sub x x := fun _ h => h
theorem Sub.trans {x y z : Nat} (h : Sub x y) (k : Sub y z) : Sub x z := fun i hi => k i (h i hi)
theorem stepX_sub (x : Nat) (d : Dep) : Sub x (stepX x d) := fun i hi => by rw [stepX_bit, hi]; rfl
theorem foldl_sub : ∀ (ds : List Dep) (x : Nat), Sub x (ds.foldl stepX x)
  | [], x => Sub.refl x
  | d :: r, x => (stepX_sub x d).trans (foldl_sub r _)
theorem Sub.all {x y : Nat} (h : Sub x y) {l : List Int} (hl : l.all (inX x) = true) : l.all (inX y) = true := by
  rw [List.all_eq_true] at hl ⊢
  exact fun f hf => h _ (hl f hf)
theorem Sub.antisymm {x y : Nat} (h : Sub x y) (k : Sub y x) : x = y := by
  apply Nat.eq_of_testBit_eq
  intro i
  rw [Bool.eq_iff_iff]
  exact ⟨h i, k i⟩

/-- A set is closed: each dependency whose fields are in it has its field in it. -/
def Closed (ds : List Dep) (x : Nat) : Prop := ∀ d ∈ ds, d.src.all (inX x) = true → x.testBit d.dst.toNat = true

theorem pass_fix_iff (ds : List Dep) (x : Nat) : pass ds x = x ↔ Closed ds x := by
  unfold pass
  constructor
  · intro h d hd hall
    obtain ⟨a, b, rfl⟩ := List.append_of_mem hd
    rw [List.foldl_append, List.foldl_cons] at h
    have h1 : Sub x (a.foldl stepX x) := foldl_sub a x
    have h2 : Sub (stepX (a.foldl stepX x) d) x := by
      have := foldl_sub b (stepX (a.foldl stepX x) d)
      rw [h] at this
      exact this
    apply h2
    rw [stepX_bit, h1.all hall]
    simp
  · intro h
    induction ds with
    | nil => rfl
    | cons d r ih =>
      have h1 : stepX x d = x := by
        apply Nat.eq_of_testBit_eq
        intro i
        rw [stepX_bit]
        by_cases e : d.dst.toNat = i
        · cases hall : d.src.all (inX x)
          · simp
          · have := h d (by simp) hall
            rw [e] at this
            simp [this]
        · simp [e]
      rw [List.foldl_cons, h1]
      exact ih (fun e he => h e (by simp [he]))

theorem clos_closed {ds : List Dep} (hd : ∀ d ∈ ds, okDep 12 d) {x : Nat} (hx : x < 4096) : Closed ds (clos ds x) := (pass_fix_iff _ _).1 (clos_fix hd hx)
theorem passN_sub (ds : List Dep) (x : Nat) : ∀ n, Sub x (passN ds n x)
  | 0 => Sub.refl x
  | n + 1 => (passN_sub ds x n).trans (foldl_sub ds _)
theorem clos_sub (ds : List Dep) (x : Nat) : Sub x (clos ds x) := passN_sub ds x _
theorem foldl_least {ds : List Dep} {x c : Nat} (hc : Closed ds c) (h : Sub x c) : Sub (ds.foldl stepX x) c := by
  induction ds generalizing x with
  | nil => exact h
  | cons d r ih =>
    rw [List.foldl_cons]
    apply ih (fun e he => hc e (by simp [he]))
    intro i hi
    rw [stepX_bit, Bool.or_eq_true, Bool.and_eq_true, decide_eq_true_eq] at hi
    rcases hi with hi | ⟨h1, rfl⟩
    · exact h i hi
    · exact hc d (by simp) (h.all h1)
theorem passN_least {ds : List Dep} {x c : Nat} (hc : Closed ds c) (h : Sub x c) : ∀ n, Sub (passN ds n x) c
  | 0 => h
  | n + 1 => foldl_least hc (passN_least hc h n)
theorem clos_least {ds : List Dep} {x c : Nat} (hc : Closed ds c) (h : Sub x c) : Sub (clos ds x) c := passN_least hc h _

theorem cnt_foldl {nf : Nat} {ds : List Dep} (hd : ∀ d ∈ ds, okDep nf d) : ∀ {x : Nat}, cnt nf x ≤ cnt nf (ds.foldl stepX x) ∧ (ds.foldl stepX x ≠ x → cnt nf x + 1 ≤ cnt nf (ds.foldl stepX x)) := by
  induction ds with
  | nil => intro x; exact ⟨Nat.le_refl _, fun h => absurd rfl h⟩
  | cons d r ih =>
    intro x
    obtain ⟨h1, h2⟩ := ih (fun e he => hd e (by simp [he])) (x := stepX x d)
    rw [List.foldl_cons]
    cases ha : addB x d
    · rw [stepX_no ha] at h1 h2 ⊢
      exact ⟨h1, h2⟩
    · have hb : x.testBit d.dst.toNat = false := by
        simp only [addB, Bool.and_eq_true, Bool.not_eq_true'] at ha
        exact ha.2
      have hd' := hd d (by simp)
      have hc : cnt nf (stepX x d) = cnt nf x + 1 := by
        rw [stepX_yes ha]
        exact cnt_or hb nf (by have := hd'.2.1; have := hd'.2.2; omega)
      exact ⟨by omega, fun _ => by omega⟩
theorem cnt_full {n x : Nat} (h : n ≤ cnt n x) : ∀ i, i < n → x.testBit i = true := by
  induction n with
  | zero => intro i hi; omega
  | succ n ih =>
    rw [cnt_succ] at h
    have h1 := cnt_le n x
    cases hb : x.testBit n
    · rw [hb] at h; simp at h; omega
    · rw [hb] at h
      simp at h
      intro i hi
      rcases Nat.lt_or_ge i n with hlt | hge
      · exact ih (by omega) i hlt
      · have : i = n := by omega
        rw [this]; exact hb
/-- As many passes as there are fields are enough. -/
theorem clos_nf {nf : Nat} (hn : nf ≤ 12) {ds : List Dep} (hd : ∀ d ∈ ds, okDep nf d) {x : Nat} (hx : x < 4096) : passN ds nf x = clos ds x := by
  have hd12 : ∀ d ∈ ds, okDep 12 d := fun d h => ⟨fun f hf => by have := (hd d h).1 f hf; omega, (hd d h).2.1, by have := (hd d h).2.2; omega⟩
  have key : ∀ n, pass ds (passN ds n x) = passN ds n x ∨ n ≤ cnt nf (passN ds n x) := by
    intro n
    induction n with
    | zero => exact .inr (Nat.zero_le _)
    | succ n ih =>
      by_cases e : pass ds (passN ds n x) = passN ds n x
      · left
        show pass ds (pass ds (passN ds n x)) = pass ds (passN ds n x)
        rw [e, e]
      · right
        rcases ih with h | h
        · exact absurd h e
        · have := (cnt_foldl hd (x := passN ds n x)).2 e
          show n + 1 ≤ cnt nf (pass ds (passN ds n x))
          exact Nat.le_trans (by omega) this
  apply clos_of_fix hd12 hx
  rcases key nf with h | h
  · exact h
  · rw [pass_fix_iff]
    intro d hm _
    have h1 := (hd d hm).2
    exact cnt_full h _ (by omega)

end Go.Proofs.Ytejjggchjoifoaa
