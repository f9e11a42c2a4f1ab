/- Writing into a row of data of several cells each: plain lemmas. -/
import Derived.Test.YtkkkephjljiplaaCells
namespace Go.Proofs.Ytkkkephjljiplaa
open Go.RowKit

def chunk (cs : List Value) (sz i : Nat) : List Value := (cs.drop (i * sz)).take sz

theorem chunk_at {cs : List Value} {sz i j : Nat} (hj : j < sz) : (chunk cs sz i)[j]? = cs[i * sz + j]? := by
  unfold chunk
  rw [List.getElem?_take_of_lt hj, List.getElem?_drop]
theorem chunk_len {cs : List Value} {sz i n : Nat} (hl : cs.length = n * sz) (hi : i < n) : (chunk cs sz i).length = sz := by
  unfold chunk
  have : i * sz + sz ≤ n * sz := by rw [← Nat.succ_mul]; exact Nat.mul_le_mul_right _ hi
  rw [List.length_take, List.length_drop]; omega
theorem chunk_set {cs : List Value} {sz i j : Nat} (u : Value) (hj : j < sz) : chunk (cs.set (i * sz + j) u) sz i = (chunk cs sz i).set j u := by
  apply List.ext_getElem?
  intro k
  rcases Nat.lt_or_ge k sz with hk | hk
  · rw [chunk_at hk, List.getElem?_set, List.getElem?_set, chunk_at hk]
    by_cases e : j = k
    · subst e
      rw [if_pos rfl, if_pos rfl]
      unfold chunk
      rw [List.length_take, List.length_drop]
      by_cases h : i * sz + j < cs.length
      · rw [if_pos h, if_pos (by omega)]
      · rw [if_neg h, if_neg (by omega)]
    · rw [if_neg (by omega), if_neg e]
  · rw [List.getElem?_eq_none (by unfold chunk; rw [List.length_take]; omega), List.getElem?_eq_none (by rw [List.length_set]; unfold chunk; rw [List.length_take]; omega)]
theorem chunk_other {cs : List Value} {sz i i' j : Nat} (u : Value) (hj : j < sz) (hi : i' ≠ i) : chunk (cs.set (i * sz + j) u) sz i' = chunk cs sz i' := by
  apply List.ext_getElem?
  intro k
  rcases Nat.lt_or_ge k sz with hk | hk
  · rw [chunk_at hk, chunk_at hk, List.getElem?_set]
    rw [if_neg]
    intro e
    apply hi
    rcases Nat.lt_trichotomy i i' with h | h | h
    · exfalso
      have : i * sz + sz ≤ i' * sz := by rw [← Nat.succ_mul]; exact Nat.mul_le_mul_right _ h
      omega
    · exact h.symm
    · exfalso
      have : i' * sz + sz ≤ i * sz := by rw [← Nat.succ_mul]; exact Nat.mul_le_mul_right _ h
      omega
  · rw [List.getElem?_eq_none (by unfold chunk; rw [List.length_take]; omega), List.getElem?_eq_none (by unfold chunk; rw [List.length_take]; omega)]

theorem CellsR.chunk {α : Type} {sz : Nat} {R : World → List Value → α → Prop} {w : World} {cs : List Value} {l : List α} (h : CellsR sz R w cs l) {i : Nat} {x : α} (hi : l[i]? = some x) : R w (Proofs.Ytkkkephjljiplaa.chunk cs sz i) x := h.2 i x hi
/-- One cell of one element is written. -/
theorem CellsR.put {α : Type} {sz : Nat} {R : World → List Value → α → Prop} {w : World} {cs : List Value} {l : List α} (h : CellsR sz R w cs l) {i j : Nat} {x' : α} {u : Value} (hj : j < sz) (hi : i < l.length) (hR : R w ((Proofs.Ytkkkephjljiplaa.chunk cs sz i).set j u) x') : CellsR sz R w (cs.set (i * sz + j) u) (l.set i x') := by
  refine ⟨by rw [List.length_set, List.length_set]; exact h.1, fun k y hk => ?_⟩
  rw [List.getElem?_set] at hk
  by_cases e : i = k
  · subst e
    rw [if_pos rfl, if_pos hi, Option.some.injEq] at hk
    subst hk
    show R w (Proofs.Ytkkkephjljiplaa.chunk _ sz i) x'
    rw [chunk_set u hj]
    exact hR
  · rw [if_neg e] at hk
    show R w (Proofs.Ytkkkephjljiplaa.chunk _ sz k) y
    rw [chunk_other u hj (fun e' => e e'.symm)]
    exact h.2 k y hk

/-- A cell of a row of the call's own. -/
theorem own_cell {w : World} {base : Nat} {e : TypeId} {sz g n cap : Nat} {cs : List Value} (h : w.ownsRow base e sz (.slice (some ⟨g, 0, none⟩) n cap) n cs) {i j : Nat} {c : List Value} {u : Value} (hi : i < n) (hj : j < sz) (hc : chunk cs sz i = c) (hu : c[j]? = some u) : w.cell? ⟨g, i * sz + j, none⟩ = some u := by
  have hlt : i * sz + j < n * sz := by
    have : i * sz + sz ≤ n * sz := by rw [← Nat.succ_mul]; exact Nat.mul_le_mul_right _ hi
    omega
  rw [h.cellAt _ hlt, ← chunk_at hj, hc, hu]

theorem set_drop {α : Type} {out l : List α} {x : α} {k : Nat} (hk : out.length = k) {y : α} (hx : l[k]? = some y) : (out ++ l.drop k).set k x = (out ++ [x]) ++ l.drop (k + 1) := by
  subst hk
  rw [drop_cons hx, List.set_append_right _ _ (Nat.le_refl _), Nat.sub_self, List.set_cons_zero, List.append_assoc]
  rfl

end Go.Proofs.Ytkkkephjljiplaa
