/- Plain: what numberSchema computes; writes into rows of fields and of dependencies. -/
import Derived.Test.YtkkkephjljiplaaNmPurp
namespace Go.Proofs.Ytkkkephjljiplaa
open Go.RowKit

def fieldStep (s : QSource) (f : QField) : Option QField :=
  if f.type.kind = 1 ∧ f.type.of_ ≠ noStr then (idx (unitNames s) f.type.of_).map (fun n => { f with type := { f.type with unit := (n : Int) } })
  else some { f with type := { f.type with unit := -1 } }
def idxI (l : List ByteArray) (x : ByteArray) : Option Int := (idx l x).map (fun n : Nat => (n : Int))
def depStep (x : QSchema) (d : QDep) : Option QDep :=
  match allP (fun _ => idxI (fieldNames x)) d.names, idxI (fieldNames x) d.name with
  | some l, some n => some { d with src := l, dst := n }
  | _, _ => none
def schemaP (s : QSource) (x : QSchema) : Option QSchema :=
  match idx s.issuers x.by_ with
  | none => none
  | some a => match allP (fun _ => fieldStep s) x.fields with
    | none => none
    | some fs => match allP (fun _ => depStep x) x.deps with
      | none => none
      | some ds => some { x with issuer := (a : Int), fields := fs, deps := ds }

theorem field_put {w : World} {cs : List Value} {l : List QField} {k : Nat} {u : QField} (h : CellsR 11 qFieldR w cs l) (hk : l[k]? = some u) (a : Int) : CellsR 11 qFieldR w (cs.set (k * 11 + 5) (.int .i64 a)) (l.set k { u with type := { u.type with unit := a } }) :=
  h.put (by omega) (List.getElem?_eq_some_iff.1 hk).1 (by
    obtain ⟨A1, n1, c1, he, hs⟩ := h.chunk hk
    rw [show chunk cs 11 k = _ from he]; exact ⟨A1, n1, c1, rfl, hs⟩)
theorem dep_put2 {w : World} {cs : List Value} {l : List QDep} {k : Nat} {u : QDep} (h : CellsR 4 qDepR w cs l) (hk : l[k]? = some u) {v : Value} {s : List Int} {A : Option Addr} {n c : Nat} (hv : v = .slice A n c) (hs : SlB 1 8 iR w v s) : CellsR 4 qDepR w (cs.set (k * 4 + 2) v) (l.set k { u with src := s }) :=
  h.put (by omega) (List.getElem?_eq_some_iff.1 hk).1 (by
    obtain ⟨A1, n1, c1, A2, n2, c2, he, h1, h2⟩ := h.chunk hk
    subst hv
    rw [show chunk cs 4 k = _ from he]; exact ⟨A1, n1, c1, _, _, _, rfl, h1, hs⟩)
theorem dep_put3 {w : World} {cs : List Value} {l : List QDep} {k : Nat} {u : QDep} (h : CellsR 4 qDepR w cs l) (hk : l[k]? = some u) (a : Int) : CellsR 4 qDepR w (cs.set (k * 4 + 3) (.int .i64 a)) (l.set k { u with dst := a }) :=
  h.put (by omega) (List.getElem?_eq_some_iff.1 hk).1 (by
    obtain ⟨A1, n1, c1, A2, n2, c2, he, h1, h2⟩ := h.chunk hk
    rw [show chunk cs 4 k = _ from he]; exact ⟨A1, n1, c1, A2, n2, c2, rfl, h1, h2⟩)

/-- The world with the block of a row hidden. -/
def hideV (v : Value) (w : World) : World := match v.ownBlock with
  | some H => mask H (H + 1) w
  | none => w
theorem hideV_below {v : Value} {w w' : World} (hg : w.grownBy w' v.ownBlock) : Below (hideV v w).heap.size (hideV v w) (hideV v w') := by
  unfold hideV
  cases hv : v.ownBlock with
  | none => rw [hv] at hg; exact ⟨hg.os, hg.tape, hg.output, hg.size, fun k hk => hg.block k hk (by simp)⟩
  | some H => rw [hv] at hg; exact mask_below hg (Nat.le_refl _) (Nat.lt_succ_self _)
theorem hideV_old {v : Value} {w0 w : World} (h : Below w0.heap.size w0 w) (hv : ∀ H, v.ownBlock = some H → w0.heap.size ≤ H) : Below w0.heap.size w0 (hideV v w) := by
  unfold hideV
  cases hb : v.ownBlock with
  | none => exact h
  | some H => exact mask_old w0 h (hv H hb)
theorem hideV_own {u v : Value} {w : World} {base : Nat} {e : TypeId} {sz n : Nat} {cs : List Value} (h : w.ownsRow base e sz v n cs) (hb : ∀ H, u.ownBlock = some H → H < base) : (hideV u w).ownsRow base e sz v n cs := by
  unfold hideV
  cases hu : u.ownBlock with
  | none => exact h
  | some H => exact mask_own h (hb H hu)
theorem hideV_unm {α : Type} {sz : Nat} {R : World → List Value → α → Prop} (hR : Unm R) {v : Value} {w : World} {cs : List Value} {l : List α} (h : CellsR sz R (hideV v w) cs l) : CellsR sz R w cs l := by
  unfold hideV at h
  cases hu : v.ownBlock with
  | none => rw [hu] at h; exact h
  | some H => rw [hu] at h; exact h.unm hR
theorem hideV_sl {α : Type} {sz : Nat} {R : World → List Value → α → Prop} (hR : Unm R) {v u : Value} {w : World} {l : List α} (h : SlR sz R (hideV v w) u l) : SlR sz R w u l := by
  unfold hideV at h
  cases hu : v.ownBlock with
  | none => rw [hu] at h; exact h
  | some H => rw [hu] at h; exact h.unm hR
theorem hideV_size (v : Value) (w : World) : (hideV v w).heap.size = w.heap.size := by
  unfold hideV
  cases v.ownBlock with
  | none => rfl
  | some H => exact mask_size
/-- Two rows apart. -/
theorem own_apart {w : World} {base : Nat} {e : TypeId} {sz : Nat} {v : Value} {n : Nat} {cs : List Value} (h : w.ownsRow base e sz v n cs) {H : Nat} (hH : H < base) : v.ownBlock ≠ some H := fun e => by have := h.lt _ e; omega
theorem grown_mid {a b c : World} {G H : Nat} (h : a.grownBy b (some G)) (h' : b.grownBy c (some H)) (hH : a.heap.size ≤ H) : a.grownBy c (some G) :=
  ⟨h'.os.trans h.os, h'.tape.trans h.tape, h'.output.trans h.output, Nat.le_trans h.size h'.size, fun k hk hne => (h'.block k (Nat.lt_of_lt_of_le hk h.size) (fun e => by injection e; omega)).trans (h.block k hk hne)⟩
theorem grown_back {w wa w' : World} {G : Nat} (h : w.grownBy wa (some G)) (h' : w.grownBy w' (some G)) (hs : wa.heap.size = w.heap.size) : wa.grownBy w' (some G) :=
  ⟨h'.os.trans h.os.symm, h'.tape.trans h.tape.symm, h'.output.trans h.output.symm, by rw [hs]; exact h'.size, fun k hk hne => (h'.block k (by omega) hne).trans (h.block k (by omega) hne).symm⟩
theorem grown_own {a b c : World} {H : Nat} {row : Option Nat} (h : a.grownBy b (some H)) (h' : b.grownBy c row) (hr : ∀ r, row = some r → a.heap.size ≤ r) : a.grownBy c (some H) :=
  ⟨h'.os.trans h.os, h'.tape.trans h.tape, h'.output.trans h.output, Nat.le_trans h.size h'.size, fun k hk hne => (h'.block k (Nat.lt_of_lt_of_le hk h.size) (fun e => by have := hr _ e.symm; omega)).trans (h.block k hk hne)⟩
theorem grown_alloc0 {a b : World} {row : Option Nat} (h : a.grownBy b row) (o : Obj) : a.grownBy (b.alloc o) row := grown_trans h (grown_of_below ((Below.refl _ _).alloc (Nat.le_refl _) _) _)
theorem own_set {w : World} {base : Nat} {e : TypeId} {sz : Nat} {v : Value} {n : Nat} {cs : List Value} (h : w.ownsRow base e sz v n cs) {p : Addr} (hp : v.ownBlock ≠ some p.block) (u : Value) : (w.setCell p u).ownsRow base e sz v n cs := ownsRow_setCell_other h hp u
theorem cellsI (w : World) (l : List Int) : CellsR 1 iR w (l.map i64W) l := by
  refine ⟨by simp, fun i x hi => ?_⟩
  show _ = _
  rw [Nat.mul_one, List.map_drop.symm, List.map_take.symm]
  have : (l.drop i).take 1 = [x] := by
    rw [drop_cons hi]; rfl
  rw [this]; rfl
theorem own_form' {w : World} {base : Nat} {e : TypeId} {sz : Nat} {v : Value} {n : Nat} {cs : List Value} (h : w.ownsRow base e sz v n cs) : ∃ A m c, v = .slice A m c ∧ m = n := by
  rcases own_row h with ⟨rfl, h0⟩ | ⟨g, cap, rfl, _⟩
  · exact ⟨_, _, _, rfl, h0.symm⟩
  · exact ⟨_, _, _, rfl, rfl⟩
theorem grown_setH {a w : World} {H : Nat} (h : a.grownBy w (some H)) (o : Nat) (v : Value) : a.grownBy (w.setCell ⟨H, o, none⟩ v) (some H) := grown_near h o v

end Go.Proofs.Ytkkkephjljiplaa
