/- Plain: a source with a second definition of one name is refused. -/
import Derived.Test.YtkkkephjljiplaaNmMisP
namespace Go.Proofs.Ytkkkephjljiplaa
open Go.RowKit

def zStr : ByteArray := ⟨#[122]⟩
def zField : QField := ⟨zStr, ⟨0, 0, 0, noStr, 0, []⟩, 0, 0, 0, 0⟩
def zFrom : QFrom := ⟨zStr, noStr, 0, ⟨noStr, noStr, 0, 0, 0⟩⟩

theorem twice_mem {l : List ByteArray} {x : ByteArray} (h : x ∈ l) : twiceB (l ++ [x]) = true := by
  cases h2 : twiceB (l ++ [x]) with
  | true => rfl
  | false =>
    rw [twiceB_iff, List.nodup_append] at h2
    exact absurd rfl (h2.2.2 x h x (by simp))
theorem twice_two {l : List ByteArray} {x : ByteArray} : twiceB (l ++ [x, x]) = true := by
  cases h2 : twiceB (l ++ [x, x]) with
  | true => rfl
  | false =>
    rw [twiceB_iff, List.nodup_append] at h2
    have := h2.2.1
    simp at this
theorem refuse_twice {s : QSource} (h : sourceTwice s = true) : resolveP s = (111, noSource) := by
  unfold resolveP
  rw [if_pos h]
theorem twice_any {s : QSource} (h : twiceB s.issuers = true ∨ twiceB (unitNames s) = true ∨ twiceB (schemaNames s) = true ∨ twiceB (purposeNames s) = true ∨ s.schemas.any (fun x => twiceB (fieldNames x)) = true ∨ s.rules.any (fun x => twiceB (fromNames x)) = true) : sourceTwice s = true := by
  unfold sourceTwice
  rcases h with h | h | h | h | h | h <;> rw [h] <;> simp
theorem any_set {α : Type} {p : α → Bool} {l : List α} {k : Nat} {y : α} (hk : k < l.length) (h : p y = true) : (l.set k y).any p = true :=
  List.any_eq_true.2 ⟨y, List.mem_iff_getElem?.2 ⟨k, by rw [List.getElem?_set_self hk]⟩, h⟩

theorem two0 {s : QSource} {k : Nat} {x : ByteArray} (hx : s.issuers[k]? = some x) : resolveP { s with issuers := s.issuers ++ [x] } = (111, noSource) :=
  refuse_twice (twice_any (.inl (twice_mem (List.mem_of_getElem? hx))))
theorem two1 {s : QSource} {k : Nat} {u : QUnit} (hu : s.units[k]? = some u) : resolveP { s with units := s.units ++ [⟨u.name, noStr, 0, 0, 0⟩] } = (111, noSource) := by
  refine refuse_twice (twice_any (.inr (.inl ?_)))
  have e : unitNames { s with units := s.units ++ [⟨u.name, noStr, 0, 0, 0⟩] } = unitNames s ++ [u.name] := by unfold unitNames; rw [List.map_append]; rfl
  rw [e]
  exact twice_mem (List.mem_map.2 ⟨u, List.mem_of_getElem? hu, rfl⟩)
theorem two2 {s : QSource} {k : Nat} {u : QPurpose} (hu : s.purposes[k]? = some u) : resolveP { s with purposes := s.purposes ++ [⟨u.name, [], 0⟩] } = (111, noSource) := by
  refine refuse_twice (twice_any (.inr (.inr (.inr (.inl ?_)))))
  have e : purposeNames { s with purposes := s.purposes ++ [⟨u.name, [], 0⟩] } = purposeNames s ++ [u.name] := by unfold purposeNames; rw [List.map_append]; rfl
  rw [e]
  exact twice_mem (List.mem_map.2 ⟨u, List.mem_of_getElem? hu, rfl⟩)
theorem two3 {s : QSource} {k : Nat} {u : QSchema} (hu : s.schemas[k]? = some u) : resolveP { s with schemas := s.schemas ++ [⟨u.name, noStr, 0, 0, [], []⟩] } = (111, noSource) := by
  refine refuse_twice (twice_any (.inr (.inr (.inl ?_))))
  have e : schemaNames { s with schemas := s.schemas ++ [⟨u.name, noStr, 0, 0, [], []⟩] } = schemaNames s ++ [u.name] := by unfold schemaNames; rw [List.map_append]; rfl
  rw [e]
  exact twice_mem (List.mem_map.2 ⟨u, List.mem_of_getElem? hu, rfl⟩)
theorem two4 {s : QSource} {k : Nat} {u : QSchema} (hu : s.schemas[k]? = some u) : resolveP { s with schemas := s.schemas.set k { u with fields := u.fields ++ [zField, zField] } } = (111, noSource) := by
  refine refuse_twice (twice_any (.inr (.inr (.inr (.inr (.inl (any_set (List.getElem?_eq_some_iff.1 hu).1 ?_)))))))
  have e : fieldNames { u with fields := u.fields ++ [zField, zField] } = fieldNames u ++ [zStr, zStr] := by unfold fieldNames; rw [List.map_append]; rfl
  rw [e]
  exact twice_two
theorem two5 {s : QSource} {k : Nat} {u : QRule} (hu : s.rules[k]? = some u) : resolveP { s with rules := s.rules.set k { u with froms := u.froms ++ [zFrom, zFrom] } } = (111, noSource) := by
  refine refuse_twice (twice_any (.inr (.inr (.inr (.inr (.inr (any_set (List.getElem?_eq_some_iff.1 hu).1 ?_)))))))
  have e : fromNames { u with froms := u.froms ++ [zFrom, zFrom] } = fromNames u ++ [zStr, zStr] := by unfold fromNames; rw [List.map_append]; rfl
  rw [e]
  exact twice_two

end Go.Proofs.Ytkkkephjljiplaa
