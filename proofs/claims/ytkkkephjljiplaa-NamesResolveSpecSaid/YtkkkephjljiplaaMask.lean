/- A world in which some blocks are hidden: what is read there does not depend on them. Plain lemmas. -/
import Derived.Test.YtkkkephjljiplaaChunk
import Derived.Test.YtkkkephjljiplaaNmKeep
namespace Go.Proofs.Ytkkkephjljiplaa
open Go.RowKit

/-- The blocks from lo up to M hidden. -/
def mask (lo M : Nat) (w : World) : World := { w with heap := w.heap.mapIdx (fun b o => if lo ≤ b ∧ b < M then .cells #[] 0 else o) }

section
variable {lo M : Nat} {w w' : World}
theorem mask_size : (mask lo M w).heap.size = w.heap.size := by simp [mask]
theorem mask_heap {b : Nat} (h : b < lo ∨ M ≤ b) : (mask lo M w).heap[b]? = w.heap[b]? := by
  simp only [mask, Array.getElem?_mapIdx]
  cases w.heap[b]? with
  | none => rfl
  | some o => rw [Option.map_some, if_neg (by omega)]
theorem mask_hid {b : Nat} (h : lo ≤ b ∧ b < M) (hb : b < w.heap.size) : (mask lo M w).heap[b]? = some (.cells #[] 0) := by
  simp only [mask, Array.getElem?_mapIdx]
  rw [Array.getElem?_eq_getElem hb, Option.map_some, if_pos h]
theorem mask_cell {b o : Nat} {v : Value} (h : (mask lo M w).cell? ⟨b, o, none⟩ = some v) : w.cell? ⟨b, o, none⟩ = some v := by
  by_cases hb : b < lo ∨ M ≤ b
  · rw [← h]
    exact (World.cell?_of_block (mask_heap hb)).symm
  · exfalso
    by_cases hs : b < w.heap.size
    · simp [World.cell?, mask_hid (w := w) (lo := lo) (M := M) (b := b) (by omega) hs] at h
    · have : (mask lo M w).heap[b]? = none := by
        rw [Array.getElem?_eq_none]
        rw [mask_size]
        omega
      simp [World.cell?, this] at h
theorem mask_below {G : Nat} (hg : w.grownBy w' (some G)) (h1 : lo ≤ G) (h2 : G < M) : Below (mask lo M w).heap.size (mask lo M w) (mask lo M w') := by
  refine ⟨hg.os, hg.tape, hg.output, by rw [mask_size, mask_size]; exact hg.size, fun k hk => ?_⟩
  rw [mask_size] at hk
  by_cases hb : k < lo ∨ M ≤ k
  · rw [mask_heap hb, mask_heap hb]
    exact hg.block k hk (fun e => by injection e; omega)
  · rw [mask_hid (by omega) hk, mask_hid (by omega) (Nat.lt_of_lt_of_le hk hg.size)]
theorem mask_below0 (hg : Below w.heap.size w w') : Below (mask lo M w).heap.size (mask lo M w) (mask lo M w') := by
  refine ⟨hg.os, hg.tape, hg.output, by rw [mask_size, mask_size]; exact hg.size, fun k hk => ?_⟩
  rw [mask_size] at hk
  by_cases hb : k < lo ∨ M ≤ k
  · rw [mask_heap hb, mask_heap hb]
    exact hg.block k hk
  · rw [mask_hid (by omega) hk, mask_hid (by omega) (Nat.lt_of_lt_of_le hk hg.size)]
theorem mask_own {base : Nat} {e : TypeId} {sz : Nat} {v : Value} {n : Nat} {cs : List Value} (h : w.ownsRow base e sz v n cs) (hb : M ≤ base) : (mask lo M w).ownsRow base e sz v n cs := by
  refine ⟨h.1, ?_⟩
  rcases h.2 with h | ⟨g, cap, cur, h1, h2, h3, h4⟩
  · exact .inl h
  · exact .inr ⟨g, cap, cur, h1, h2, (mask_heap (.inr (by omega))).trans h3, h4⟩
theorem mask_map {κ ν : Type} {ek : κ → Value} {ev : ν → Value} {b : Nat} {m : List (κ × ν)} (h : MapAt ek ev (mask lo M w) b m) : MapAt ek ev w b m := by
  obtain ⟨es, clock, h1, h2⟩ := h
  refine ⟨es, clock, ?_, h2⟩
  by_cases hb : b < lo ∨ M ≤ b
  · rw [← h1]; exact (mask_heap hb).symm
  · exfalso
    have hs : b < w.heap.size := by have := (Array.getElem?_eq_some_iff.1 h1).1; rwa [mask_size] at this
    rw [mask_hid (by omega) hs] at h1
    cases h1
theorem mask_blk {g : Nat} {t : TypeId} {cs : Array Value} (h : Blk (mask lo M w) g t cs) (hc : cs ≠ #[]) : Blk w g t cs := by
  by_cases hb : g < lo ∨ M ≤ g
  · exact (mask_heap hb).symm.trans h
  · exfalso
    have hs : g < w.heap.size := by have := h.lt; rwa [mask_size] at this
    have h1 : (mask lo M w).heap[g]? = some (.cells cs t (0, 0)) := h
    rw [mask_hid (by omega) hs] at h1
    injection h1 with h1
    injection h1 with h1
    exact hc h1.symm

/-- What is read with blocks hidden is read. -/
def Unm {α : Type} (R : World → List Value → α → Prop) : Prop := ∀ (lo M : Nat) (w : World) (cs : List Value) (x : α), R (mask lo M w) cs x → R w cs x
theorem SlR.unm {α : Type} {sz : Nat} {R : World → List Value → α → Prop} (hR : Unm R) {v : Value} {l : List α} (h : SlR sz R (mask lo M w) v l) : SlR sz R w v l := by
  obtain ⟨A, cap, e, h1, h2, h3⟩ := h
  refine ⟨A, cap, e, h1, h2, fun i x hi => ?_⟩
  obtain ⟨b, off, cs, rfl, hlt, hl, hc, hr⟩ := h3 i x hi
  exact ⟨b, off, cs, rfl, by rwa [mask_size] at hlt, hl, fun j u hu => mask_cell (hc j u hu), hR _ _ _ _ _ hr⟩
theorem SlB.unm {α : Type} {sz bytes : Nat} {R : World → List Value → α → Prop} (hR : Unm R) {v : Value} {l : List α} (h : SlB sz bytes R (mask lo M w) v l) : SlB sz bytes R w v l := ⟨h.1.unm hR, h.2⟩
/-- What lies below the hidden blocks reads with them hidden. -/
theorem mask_old (w0 : World) (h : Below w0.heap.size w0 w) (hlo : w0.heap.size ≤ lo) : Below w0.heap.size w0 (mask lo M w) :=
  ⟨h.os, h.tape, h.output, by rw [mask_size]; exact h.size, fun k hk => (mask_heap (.inl (by omega))).trans (h.block k hk)⟩
theorem mask_grown {H : Option Nat} (hg : w.grownBy w' H) : (mask lo M w).grownBy (mask lo M w') H := by
  refine ⟨hg.os, hg.tape, hg.output, by rw [mask_size, mask_size]; exact hg.size, fun k hk hne => ?_⟩
  rw [mask_size] at hk
  by_cases hb : k < lo ∨ M ≤ k
  · rw [mask_heap hb, mask_heap hb]
    exact hg.block k hk hne
  · rw [mask_hid (by omega) hk, mask_hid (by omega) (Nat.lt_of_lt_of_le hk hg.size)]
theorem SlR.unm_fix {α : Type} {sz : Nat} {R : World → List Value → α → Prop} {v : Value} {l : List α} (h : SlR sz R (mask lo M w) v l) : SlR sz (fun _ => R (mask lo M w)) w v l := by
  obtain ⟨A, cap, e, h1, h2, h3⟩ := h
  refine ⟨A, cap, e, h1, h2, fun i x hi => ?_⟩
  obtain ⟨b, off, cs, rfl, hlt, hl, hc, hr⟩ := h3 i x hi
  exact ⟨b, off, cs, rfl, by rwa [mask_size] at hlt, hl, fun j u hu => mask_cell (hc j u hu), hr⟩
theorem CellsR.unm {α : Type} {sz : Nat} {R : World → List Value → α → Prop} (hR : Unm R) {cs : List Value} {l : List α} (h : CellsR sz R (mask lo M w) cs l) : CellsR sz R w cs l := ⟨h.1, fun i x hi => hR _ _ _ _ _ (h.2 i x hi)⟩
theorem mapR_unm : Unm mapR := by
  rintro lo M w cs x ⟨b, e, h⟩
  exact ⟨b, e, mask_map h⟩
theorem ResR.unm {R : Nat} {s : QSource} (h : ResR (mask lo M w) R s) : ResR w R s := by
  obtain ⟨b1, b2, b3, A, n, c, h0, h1, h2, h3, h4⟩ := h
  exact ⟨b1, b2, b3, A, n, c, mask_blk h0 (by simp), mask_map h1, mask_map h2, mask_map h3, h4.unm mapR_unm⟩
end

theorem strR_unm : Unm strR := fun _ _ _ _ _ h => h
theorem iR_unm : Unm iR := fun _ _ _ _ _ h => h
theorem qUnitR_unm : Unm qUnitR := fun _ _ _ _ _ h => h
theorem qTermR_unm : Unm qTermR := fun _ _ _ _ _ h => h
theorem qAtomR_unm : Unm qAtomR := fun _ _ _ _ _ h => h
theorem qFromR_unm : Unm qFromR := fun _ _ _ _ _ h => h
theorem qSetR_unm : Unm qSetR := fun _ _ _ _ _ h => h
theorem qMoveR_unm : Unm qMoveR := fun _ _ _ _ _ h => h
theorem qRefR_unm : Unm qRefR := fun _ _ _ _ _ h => h
theorem qTypeR_unm : Unm qTypeR := by
  rintro lo M w cs x ⟨A1, n1, c1, h0, h1⟩
  exact ⟨A1, n1, c1, h0, h1.unm strR_unm⟩
theorem qFieldR_unm : Unm qFieldR := by
  rintro lo M w cs x ⟨A1, n1, c1, h0, h1⟩
  exact ⟨A1, n1, c1, h0, h1.unm strR_unm⟩
theorem qDepR_unm : Unm qDepR := by
  rintro lo M w cs x ⟨A1, n1, c1, A2, n2, c2, h0, h1, h2⟩
  exact ⟨A1, n1, c1, A2, n2, c2, h0, h1.unm strR_unm, h2.unm iR_unm⟩
theorem qSchemaR_unm : Unm qSchemaR := by
  rintro lo M w cs x ⟨A1, n1, c1, A2, n2, c2, h0, h1, h2⟩
  exact ⟨A1, n1, c1, A2, n2, c2, h0, h1.unm qFieldR_unm, h2.unm qDepR_unm⟩
theorem qRuleR_unm : Unm qRuleR := by
  rintro lo M w cs x ⟨A1, n1, c1, A2, n2, c2, A3, n3, c3, h0, h1, h2, h3⟩
  exact ⟨A1, n1, c1, A2, n2, c2, A3, n3, c3, h0, h1.unm qFromR_unm, h2.unm qAtomR_unm, h3.unm qSetR_unm⟩
theorem qConvertR_unm : Unm qConvertR := by
  rintro lo M w cs x ⟨A1, n1, c1, h0, h1⟩
  exact ⟨A1, n1, c1, h0, h1.unm qMoveR_unm⟩
theorem qPurposeR_unm : Unm qPurposeR := by
  rintro lo M w cs x ⟨A1, n1, c1, h0, h1⟩
  exact ⟨A1, n1, c1, h0, h1.unm qRefR_unm⟩
theorem qSourceR_unm : Unm qSourceR := by
  rintro lo M w cs x ⟨A1, n1, c1, A2, n2, c2, A3, n3, c3, A4, n4, c4, A5, n5, c5, A6, n6, c6, h0, h1, h2, h3, h4, h5, h6⟩
  exact ⟨A1, n1, c1, A2, n2, c2, A3, n3, c3, A4, n4, c4, A5, n5, c5, A6, n6, c6, h0, h1.unm strR_unm, h2.unm qUnitR_unm, h3.unm qSchemaR_unm, h4.unm qRuleR_unm, h5.unm qConvertR_unm, h6.unm qPurposeR_unm⟩

end Go.Proofs.Ytkkkephjljiplaa
