/- Counting the fields of a set: plain Lean. -/
import Derived.Test.YtejjggchjoifoaaDepClos
namespace Go.Proofs.Ytejjggchjoifoaa

def cnt (n x : Nat) : Nat := (List.range n).countP x.testBit

theorem cnt_succ (n x : Nat) : cnt (n + 1) x = cnt n x + (if x.testBit n then 1 else 0) := by
  simp [cnt, List.range_succ, List.countP_append, List.countP_cons]
theorem cnt_le (n x : Nat) : cnt n x ≤ n := by
  have := List.countP_le_length (p := x.testBit) (l := List.range n)
  simpa [cnt] using this
theorem testBit_or_pow (x f i : Nat) : (x ||| 2 ^ f).testBit i = (x.testBit i || decide (f = i)) := by
  rw [Nat.testBit_or, Nat.testBit_two_pow]
theorem cnt_or_ge {x f : Nat} : ∀ n, n ≤ f → cnt n (x ||| 2 ^ f) = cnt n x
  | 0, _ => rfl
  | n + 1, h => by
    rw [cnt_succ, cnt_succ, cnt_or_ge n (by omega), testBit_or_pow]
    simp [show ¬ f = n by omega]
theorem cnt_or {x f : Nat} (hb : x.testBit f = false) : ∀ n, f < n → cnt n (x ||| 2 ^ f) = cnt n x + 1
  | 0, h => by omega
  | n + 1, h => by
    rw [cnt_succ, cnt_succ, testBit_or_pow]
    rcases Nat.lt_or_ge f n with hlt | hge
    · rw [cnt_or hb n hlt]
      simp [show ¬ f = n by omega]
      omega
    · have e : f = n := by omega
      subst e
      rw [cnt_or_ge f (Nat.le_refl _), hb]
      simp

theorem vLoop_cnt {nf : Nat} : ∀ {l : List Int} {x y : Nat}, vLoop nf l x = some y → l.length + cnt nf x = cnt nf y := by
  intro l
  induction l with
  | nil => intro x y h; simp only [vLoop, Option.some.injEq] at h; simp [h]
  | cons a r ih =>
    intro x y h
    unfold vLoop at h
    split at h
    · cases h
    · rename_i hn
      have h1 := ih h
      have h2 : x.testBit a.toNat = false := by
        cases hb : x.testBit a.toNat
        · rfl
        · exact absurd (.inr (.inr hb)) hn
      rw [cnt_or h2 nf (by omega)] at h1
      simp only [List.length_cons]
      omega
theorem validB_len {nf : Nat} {d : Dep} (h : validB nf d = true) : d.src.length ≤ nf := by
  unfold validB at h
  split at h
  · cases h
  · rename_i y hy
    have := vLoop_cnt hy
    have := cnt_le nf y
    omega
end Go.Proofs.Ytejjggchjoifoaa
