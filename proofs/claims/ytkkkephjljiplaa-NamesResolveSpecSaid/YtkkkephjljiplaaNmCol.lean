/- What names.collect gathers, in plain Lean. -/
import Derived.Test.YtkkkephjljiplaaStr
namespace Go.Proofs.Ytkkkephjljiplaa
open Go.RowKit

def cstep (s : List (ByteArray × Int) × Bool) (i : Nat) (x : ByteArray) : List (ByteArray × Int) × Bool :=
  if (getM s.1 x).isSome then (s.1, true) else (putM s.1 x (i : Int), s.2)
def colN (l : List ByteArray) : Nat → List (ByteArray × Int) × Bool
  | 0 => ([], false)
  | k + 1 => match l[k]? with
    | some x => cstep (colN l k) k x
    | none => colN l k
def col (l : List ByteArray) : List (ByteArray × Int) × Bool := colN l l.length

theorem colN_succ {l : List ByteArray} {k : Nat} {x : ByteArray} (h : l[k]? = some x) : colN l (k + 1) = cstep (colN l k) k x := by
  rw [colN, h]
theorem cstep_yes {s : List (ByteArray × Int) × Bool} {i : Nat} {x : ByteArray} {n : Int} (h : getM s.1 x = some n) : cstep s i x = (s.1, true) := by
  simp [cstep, h]
theorem cstep_no {s : List (ByteArray × Int) × Bool} {i : Nat} {x : ByteArray} (h : getM s.1 x = none) : cstep s i x = (putM s.1 x (i : Int), s.2) := by
  simp [cstep, h]

/-- The first place of a name. -/
def idx (l : List ByteArray) (x : ByteArray) : Option Nat := l.findIdx? (fun y => decide (y = x))

theorem idx_nil (x : ByteArray) : idx [] x = none := rfl
theorem idx_snoc (l : List ByteArray) (y x : ByteArray) : idx (l ++ [y]) x = (idx l x).or (if y = x then some l.length else none) := by
  unfold idx
  rw [List.findIdx?_append]
  congr 1
  by_cases h : y = x
  · simp [h]
  · simp [h]

theorem colN_get (l : List ByteArray) : ∀ k, k ≤ l.length → ∀ x, getM (colN l k).1 x = (idx (l.take k) x).map (fun n : Nat => (n : Int))
  | 0, _, x => rfl
  | k + 1, hk, x => by
    have hl : l[k]? = some l[k] := List.getElem?_eq_getElem hk
    have ih := colN_get l k (by omega)
    rw [colN_succ hl, take_snoc hl, idx_snoc]
    cases hg : getM (colN l k).1 l[k] with
    | some n =>
      rw [cstep_yes hg, ih x]
      by_cases h : l[k] = x
      · have := ih l[k]
        rw [hg, h] at this
        cases hi : idx (l.take k) x with
        | none => rw [hi] at this; cases this
        | some m => rfl
      · rw [if_neg h]
        cases idx (l.take k) x <;> rfl
    | none =>
      rw [cstep_no hg, getM_put]
      have h0 := ih l[k]
      rw [hg] at h0
      by_cases h : x = l[k]
      · rw [if_pos h, if_pos h.symm, h]
        cases hi : idx (l.take k) l[k] with
        | none => simp; omega
        | some m => rw [hi] at h0; cases h0
      · rw [if_neg h, if_neg (fun e => h e.symm), ih x]
        cases idx (l.take k) x <;> rfl
theorem col_get (l : List ByteArray) (x : ByteArray) : getM (col l).1 x = (idx l x).map (fun n : Nat => (n : Int)) := by
  have := colN_get l l.length (Nat.le_refl _) x
  rwa [List.take_length] at this

/-- A name occurs twice. -/
def twiceB (l : List ByteArray) : Bool := (col l).2

theorem idx_none {l : List ByteArray} {x : ByteArray} : idx l x = none ↔ x ∉ l := by
  unfold idx
  rw [List.findIdx?_eq_none_iff]
  simp only [decide_eq_false_iff_not]
  exact ⟨fun h hm => h x hm rfl, fun h y hy e => h (e ▸ hy)⟩
theorem colN_twice (l : List ByteArray) : ∀ k, k ≤ l.length → ((colN l k).2 = false ↔ (l.take k).Nodup)
  | 0, _ => by simp [colN]
  | k + 1, hk => by
    have hl : l[k]? = some l[k] := List.getElem?_eq_getElem hk
    have ih := colN_twice l k (by omega)
    have hg := colN_get l k (by omega) l[k]
    rw [colN_succ hl, take_snoc hl, List.nodup_append]
    cases h : getM (colN l k).1 l[k] with
    | some n =>
      rw [cstep_yes h]
      rw [h] at hg
      have hm : l[k] ∈ l.take k := by
        apply Classical.byContradiction
        intro hc
        rw [idx_none.2 hc] at hg
        cases hg
      constructor
      · intro e; cases e
      · rintro ⟨_, _, h3⟩
        exact absurd rfl (h3 _ hm _ (by simp))
    | none =>
      rw [cstep_no h]
      rw [h] at hg
      have hm : l[k] ∉ l.take k := by
        intro hc
        cases hi : idx (l.take k) l[k] with
        | none => exact idx_none.1 hi hc
        | some m => rw [hi] at hg; cases hg
      show (colN l k).2 = false ↔ _
      rw [ih]
      constructor
      · intro hn
        refine ⟨hn, by simp, fun a ha b hb e => ?_⟩
        rw [List.mem_singleton.1 hb] at e
        exact hm (e ▸ ha)
      · exact fun h => h.1
theorem twiceB_iff (l : List ByteArray) : twiceB l = false ↔ l.Nodup := by
  have := colN_twice l l.length (Nat.le_refl _)
  rwa [List.take_length] at this

def RetCol (l : List ByteArray) (w : World) (e : Ending) (w' : World) : Prop :=
  ∃ b, e = .returned (.tuple #[.map (some b), .bool (twiceB l)]) ∧ MapAt (fun x : ByteArray => Value.string x) (fun x : Int => Value.int .i64 x) w' b (col l).1 ∧ w.heap.size ≤ b ∧ Below w.heap.size w w'

end Go.Proofs.Ytkkkephjljiplaa
