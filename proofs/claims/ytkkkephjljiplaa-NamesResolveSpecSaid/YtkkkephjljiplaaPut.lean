/- Several cells of one element of a row are written at once. Plain lemmas. -/
import Derived.Test.YtkkkephjljiplaaNmSchP
import Derived.Deep.MidRow
namespace Go.Proofs.Ytkkkephjljiplaa
open Go.RowKit

def setL : List Value → Nat → List Value → List Value
  | cs, _, [] => cs
  | cs, o, v :: r => setL (cs.set o v) (o + 1) r
theorem setL_len : ∀ (vs : List Value) (cs : List Value) (o : Nat), (setL cs o vs).length = cs.length
  | [], _, _ => rfl
  | v :: r, cs, o => by rw [setL, setL_len r, List.length_set]
theorem chunk_setL {sz i : Nat} : ∀ (vs : List Value) (cs : List Value) (j : Nat), j + vs.length ≤ sz → chunk (setL cs (i * sz + j) vs) sz i = setL (chunk cs sz i) j vs
  | [], _, _, _ => rfl
  | v :: r, cs, j, h => by
    rw [List.length_cons] at h
    rw [setL, setL, Nat.add_assoc, chunk_setL r _ (j + 1) (by omega), chunk_set v (by omega)]
theorem chunk_setL_other {sz i i' : Nat} (hi : i' ≠ i) : ∀ (vs : List Value) (cs : List Value) (j : Nat), j + vs.length ≤ sz → chunk (setL cs (i * sz + j) vs) sz i' = chunk cs sz i'
  | [], _, _, _ => rfl
  | v :: r, cs, j, h => by
    rw [List.length_cons] at h
    rw [setL, Nat.add_assoc, chunk_setL_other hi r _ (j + 1) (by omega), chunk_other v (by omega) hi]
theorem CellsR.putL {α : Type} {sz : Nat} {R : World → List Value → α → Prop} {w : World} {cs : List Value} {l : List α} (h : CellsR sz R w cs l) {i j : Nat} {x' : α} {vs : List Value} (hj : j + vs.length ≤ sz) (hi : i < l.length) (hR : R w (setL (Proofs.Ytkkkephjljiplaa.chunk cs sz i) j vs) x') : CellsR sz R w (setL cs (i * sz + j) vs) (l.set i x') := by
  refine ⟨by rw [setL_len, List.length_set]; exact h.1, fun k y hk => ?_⟩
  rw [List.getElem?_set] at hk
  by_cases e : i = k
  · subst e
    rw [if_pos rfl, if_pos hi, Option.some.injEq] at hk
    subst hk
    show R w (Proofs.Ytkkkephjljiplaa.chunk _ sz i) x'
    rw [chunk_setL vs cs j hj]
    exact hR
  · rw [if_neg e] at hk
    show R w (Proofs.Ytkkkephjljiplaa.chunk _ sz k) y
    rw [chunk_setL_other (fun e' => e e'.symm) vs cs j hj]
    exact h.2 k y hk
theorem own_putL {base : Nat} {e : TypeId} {sz g n cap : Nat} : ∀ (vs : List Value) (o : Nat) (cs : List Value) (w : World), w.ownsRow base e sz (.slice (some ⟨g, 0, none⟩) n cap) n cs → (w.setCells g o vs).ownsRow base e sz (.slice (some ⟨g, 0, none⟩) n cap) n (setL cs o vs)
  | [], _, _, _, h => h
  | v :: r, o, _, _, h => own_putL r (o + 1) _ _ (h.stored o v).1
theorem own_setL {base : Nat} {e : TypeId} {sz n g : Nat} {v : Value} {cs : List Value} (hv : v.ownBlock ≠ some g) : ∀ (vs : List Value) (o : Nat) (w : World), w.ownsRow base e sz v n cs → (w.setCells g o vs).ownsRow base e sz v n cs
  | [], _, _, h => h
  | u :: r, o, _, h => own_setL hv r (o + 1) _ (own_set h hv u)
theorem grown_setL {a : World} {g : Nat} : ∀ (vs : List Value) (o : Nat) (w : World), a.grownBy w (some g) → a.grownBy (w.setCells g o vs) (some g)
  | [], _, _, h => h
  | u :: r, o, _, h => grown_setL r (o + 1) _ (grown_near h o u)
theorem size_setL {g : Nat} : ∀ (vs : List Value) (o : Nat) (w : World), (w.setCells g o vs).heap.size = w.heap.size
  | [], _, _ => rfl
  | u :: r, o, w => by rw [World.setCells, size_setL r (o + 1)]; simp [World.setCell]
/-- An element of a row of one's own may be written. -/
theorem own_there {w : World} {base : Nat} {e : TypeId} {sz g n cap : Nat} {cs : List Value} (h : w.ownsRow base e sz (.slice (some ⟨g, 0, none⟩) n cap) n cs) (hl : cs.length = n * sz) {i j m : Nat} (hi : i < n) (hj : j + m ≤ sz) : w.there g (i * sz + j) m := by
  intro k hk
  have hlt : i * sz + j + k < n * sz := by
    have : i * sz + sz ≤ n * sz := by rw [← Nat.succ_mul]; exact Nat.mul_le_mul_right _ hi
    omega
  refine ⟨?_, h.frozenAt _⟩
  rw [h.cellAt _ hlt, List.getElem?_eq_getElem (by omega)]
  rfl
/-- A part of an element of a row. -/
theorem own_range {w : World} {base : Nat} {e : TypeId} {sz g n cap : Nat} {cs : List Value} (h : w.ownsRow base e sz (.slice (some ⟨g, 0, none⟩) n cap) n cs) {i j : Nat} {c vs : List Value} (hi : i < n) (hc : chunk cs sz i = c) (hj : j + vs.length ≤ sz) (hv : (c.drop j).take vs.length = vs) : w.rangeAt g (i * sz + j) vs := by
  intro k u hu
  have hk := (List.getElem?_eq_some_iff.1 hu).1
  rw [Nat.add_assoc]
  refine own_cell h hi (by omega) hc ?_
  have e := congrArg (fun l => l[k]?) hv
  rw [List.getElem?_take_of_lt hk, List.getElem?_drop] at e
  rw [e, hu]
theorem own_lt {w : World} {base : Nat} {e : TypeId} {sz g n cap : Nat} {cs : List Value} (h : w.ownsRow base e sz (.slice (some ⟨g, 0, none⟩) n cap) n cs) : g < w.heap.size := (h.lt g rfl).2
/-- Grown beside what was before: everything below stands. -/
theorem below_grown {a w w' : World} {G : Nat} (h : Below a.heap.size a w) (hg : w.grownBy w' (some G)) (hG : a.heap.size ≤ G) : Below a.heap.size a w' :=
  h.grown hg h.size (fun k hk => by injection hk with hk; omega)
theorem blk_grown {w w' : World} {g K : Nat} {t : TypeId} {cs : Array Value} (h : Blk w g t cs) (hg : w.grownBy w' (some K)) (hK : g ≠ K) : Blk w' g t cs :=
  (hg.block g h.lt (fun e => by injection e with e; exact hK e)).trans h
theorem take_map_snoc {α : Type} {f : α → α} {l : List α} {k : Nat} {x : α} (hx : l[k]? = some x) : ((l.take k).map f ++ l.drop k).set k (f x) = (l.take (k + 1)).map f ++ l.drop (k + 1) := by
  have hk := (List.getElem?_eq_some_iff.1 hx).1
  rw [set_drop (by rw [List.length_map, List.length_take]; omega) hx, List.take_add_one, hx, List.map_append]
  rfl
theorem take_map_at {α : Type} {f : α → α} {l : List α} {k : Nat} {x : α} (hx : l[k]? = some x) : ((l.take k).map f ++ l.drop k)[k]? = some x := by
  have hk := (List.getElem?_eq_some_iff.1 hx).1
  have hl : ((l.take k).map f).length = k := by rw [List.length_map, List.length_take]; omega
  rw [List.getElem?_append_right (by omega), List.getElem?_drop, hl]
  simpa using hx
theorem take_map_len {α : Type} {f : α → α} {l : List α} {k : Nat} : ((l.take k).map f ++ l.drop k).length = l.length := by
  simp; omega
theorem take_map_all {α : Type} {f : α → α} {l : List α} {k : Nat} (hk : k = l.length) : (l.take k).map f ++ l.drop k = l.map f := by
  subst hk; simp
/-- A code that goes on in one frame, whatever its ways. -/
def Via0 (F : Act) (G : World → Prop) : Exit → Act → World → Prop
  | .normal, a', w' => a' = F ∧ G w'
  | _, _, _ => False
theorem wp_via0 {P : Program} {c : Code} {Q : Exit → Act → World → Prop} {a : Act} {w : World} (F : Act) (G : World → Prop) (h1 : c.wp P (Via0 F G) a w) (h2 : ∀ w', G w' → Q .normal F w') : c.wp P Q a w :=
  Code.wp_mono (fun e a' w' h => by
    cases e with
    | normal => obtain ⟨rfl, hg⟩ := h; exact h2 w' hg
    | _ => exact h.elim) h1
end Go.Proofs.Ytkkkephjljiplaa
