/- container/heap over rules.queue: the memory of the queue, Len, Less, Swap. -/
import Derived.Test.YtkgmonplcdnnbaaGreatPm05
import Derived.BigRegion
import Derived.RegionTactic
import Derived.ChangeAlike
import Derived.Laws.OwnMore
import Derived.Lib.SmallJoins
namespace Go.Proofs.YtkgmonplcdnnbaaGreat
open Go.RowKit
def ptOf (G : Nat) (W : World) : Option Nat := (W.cell? ⟨G, 0, none⟩).bind fun v => v.ownBlock
theorem ptOf_blk {G : Nat} {w : World} {t : TypeId} {v : Value} (h : Blk w G t #[v]) : ptOf G w = v.ownBlock := by
 unfold ptOf
 rw [h.cell 0]
 rfl
structure Kept (G : Nat) (w w' : World) : Prop where
 os : w'.os = w.os
 tape : w'.tape = w.tape
 output : w'.output = w.output
 size : w.heap.size ≤ w'.heap.size
 block : ∀ b, b < w.heap.size → b ≠ G → some b ≠ ptOf G w → w'.heap[b]? = w.heap[b]?
 pt : ptOf G w' = ptOf G w ∨ ∃ b, ptOf G w' = some b ∧ w.heap.size ≤ b
theorem Kept.refl (G : Nat) (w : World) : Kept G w w := ⟨rfl, rfl, rfl, Nat.le_refl _, fun _ _ _ _ => rfl, .inl rfl⟩
theorem Kept.trans {G : Nat} {a b c : World} (h : Kept G a b) (k : Kept G b c) : Kept G a c :=
 ⟨k.os.trans h.os, k.tape.trans h.tape, k.output.trans h.output, Nat.le_trans h.size k.size, fun x hx hg hp => (k.block x (Nat.lt_of_lt_of_le hx h.size) hg (fun e => by
  rcases h.pt with h1 | ⟨y, h1, h2⟩
  · rw [h1] at e; exact hp e
  · rw [h1] at e; injection e with e; omega)).trans (h.block x hx hg hp), by
  rcases k.pt with k1 | ⟨y, k1, k2⟩
  ·
   rcases h.pt with h1 | ⟨y, h1, h2⟩
   · exact .inl (k1.trans h1)
   · exact .inr ⟨y, k1.trans h1, h2⟩
  · exact .inr ⟨y, k1, Nat.le_trans h.size k2⟩⟩
theorem Kept.drewN {G : Nat} {a b : World} (h : Kept G a b) (n : Nat) : Kept G a (b.drewN n) := ⟨h.os, h.tape, h.output, h.size, h.block, h.pt⟩
theorem Kept.of_grown {G g : Nat} {a b : World} {t : TypeId} {v : Value} (hk : Blk a G t #[v]) (hv : v.ownBlock = some g) (hne : G ≠ g) (h : a.grownBy b (some g)) : Kept G a b :=
 ⟨h.os, h.tape, h.output, h.size, fun x hx _ hp => h.block x hx (fun e => hp (by rw [ptOf_blk hk, hv, e])), .inl (by
  have hk2 : Blk b G t #[v] := hk.grown h (fun e => hne (by injection e))
  rw [ptOf_blk hk, ptOf_blk hk2])⟩
theorem Kept.put {G : Nat} {a b : World} {t : TypeId} {v u : Value} (h : Kept G a b) (hk : Blk b G t #[v]) (hu : u.ownBlock = ptOf G a ∨ ∃ y, u.ownBlock = some y ∧ a.heap.size ≤ y) : Kept G a (b.setCell ⟨G, 0, none⟩ u) :=
 ⟨h.os, h.tape, h.output, by simpa [World.setCell] using h.size, fun x hx hne hp => (Below.heap_setCell b _ u x hne).trans (h.block x hx hne hp), by
  have hk2 : Blk (b.setCell ⟨G, 0, none⟩ u) G t #[u] := hk.put 0 u
  rw [ptOf_blk hk2]
  exact hu⟩
def QAt (w : World) (base G : Nat) (l : List Int) : Prop :=
 ∃ v, Blk w G 212 #[v] ∧ w.ownsRow base 3 1 v l.length (l.map (Value.int .i64)) ∧ G < base ∧ base ≤ w.heap.size
theorem QAt.form {w : World} {base G : Nat} {l : List Int} (h : QAt w base G l) (hl : 0 < l.length) :
 ∃ g cap, base ≤ g ∧ G < base ∧ base ≤ w.heap.size ∧ Blk w G 212 #[.slice (some ⟨g, 0, none⟩) l.length cap] ∧ w.ownsRow base 3 1 (.slice (some ⟨g, 0, none⟩) l.length cap) l.length (l.map (Value.int .i64)) := by
 obtain ⟨v, h1, h2, h3, h4⟩ := h
 obtain ⟨g, cap, rfl⟩ := Joins.ownsRow_form h2 hl
 exact ⟨g, cap, (h2.lt g rfl).1, h3, h4, h1, h2⟩
theorem len_any (A : Option Addr) (n c : Nat) (w : World) : Calls Tryz.prog 149 #[.slice A n c] w fun e w' => e = .returned (.int .i64 n) ∧ w = w' := by
 go_enter Tryz.func149, Tryz.ntmps149
 go_wp2_with fail
 go_ret
 exact ⟨rfl, rfl⟩
theorem rowI_cell {w : World} {base g cap n : Nat} {l : List Int} (h : w.ownsRow base 3 1 (.slice (some ⟨g, 0, none⟩) n cap) n (l.map (Value.int .i64))) {i : Nat} (hi : i < n) :
 w.cell? ⟨g, i, none⟩ = some (.int .i64 (l.getD i 0)) := by
 have hl : l.length = n := by have := h.1; simpa using this
 rw [h.cellAt i (by omega)]
 rw [List.getElem?_map, List.getD_eq_getElem?_getD]
 have : l[i]? = some l[i] := List.getElem?_eq_getElem (by omega)
 simp [this]
theorem less_any (base g cap n : Nat) (l : List Int) (i j : Nat) (w : World) (h : w.ownsRow base 3 1 (.slice (some ⟨g, 0, none⟩) n cap) n (l.map (Value.int .i64))) (hi : i < n) (hj : j < n) :
 Calls Tryz.prog 237 #[.slice (some ⟨g, 0, none⟩) n cap, .int .i64 i, .int .i64 j] w fun e w' => e = .returned (.bool (decide (l.getD i 0 < l.getD j 0))) ∧ ∃ k, w' = w.drewN k := by
 have ci := rowI_cell h hi
 have cj := rowI_cell h hj
 obtain ⟨a, ha⟩ : ∃ a, l.getD i 0 = a := ⟨_, rfl⟩
 obtain ⟨b, hb⟩ : ∃ b, l.getD j 0 = b := ⟨_, rfl⟩
 rw [ha] at ci ⊢
 rw [hb] at cj ⊢
 clear ha hb h
 have i0 : (0 : Int) ≤ (i : Int) := by omega
 have i1 : (i : Int) < (n : Int) := by omega
 have j0 : (0 : Int) ≤ (j : Int) := by omega
 have j1 : (j : Int) < (n : Int) := by omega
 go_enter Tryz.func237, Tryz.ntmps237
 go_wp2_with fail
 go_quiet (fail)
 go_wp2_with fail
 go_ret
 exact ⟨rfl, _, rfl⟩
theorem grown_refl (w : World) (row : Option Nat) : w.grownBy w row := ⟨rfl, rfl, rfl, Nat.le_refl _, fun _ _ _ => rfl⟩
theorem swap_map (l : List Int) (i j : Nat) : ((l.map (Value.int .i64)).set i (.int .i64 (l.getD j 0))).set j (.int .i64 (l.getD i 0)) = (swapL l i j).map (Value.int .i64) := by
 simp [swapL, List.map_set]
theorem swap_any (base g cap n : Nat) (l : List Int) (i j : Nat) (w : World) (h : w.ownsRow base 3 1 (.slice (some ⟨g, 0, none⟩) n cap) n (l.map (Value.int .i64))) (hi : i < n) (hj : j < n) :
 Calls Tryz.prog 241 #[.slice (some ⟨g, 0, none⟩) n cap, .int .i64 i, .int .i64 j] w fun e w' => (∃ u, e = .returned u) ∧ w'.ownsRow base 3 1 (.slice (some ⟨g, 0, none⟩) n cap) n ((swapL l i j).map (Value.int .i64)) ∧ w.grownBy w' (some g) := by
 have ci := rowI_cell h hi
 have cj := rowI_cell h hj
 have fi := h.frozenAt i
 have fj := h.frozenAt j
 have HS := Lib.hid (swap_map l i j)
 have HO := Lib.hid h
 obtain ⟨a, ha⟩ : ∃ a, l.getD i 0 = a := ⟨_, rfl⟩
 obtain ⟨b, hb⟩ : ∃ b, l.getD j 0 = b := ⟨_, rfl⟩
 rw [ha] at ci
 rw [hb] at cj
 rw [ha, hb] at HS
 clear ha hb h
 have i0 : (0 : Int) ≤ (i : Int) := by omega
 have i1 : (i : Int) < (n : Int) := by omega
 have j0 : (0 : Int) ≤ (j : Int) := by omega
 have j1 : (j : Int) < (n : Int) := by omega
 by_cases hij : i = j
 ·
  subst hij
  obtain rfl : a = b := by rw [ci] at cj; simpa using cj
  go_enter Tryz.func241, Tryz.ntmps241
  go_wp2_with fail
  go_region
  go_end0
  refine ⟨⟨_, rfl⟩, ?_, grown_drew (grown_put (grown_put (grown_refl _ _) _ _) _ _)⟩
  rw [← HS.out]
  exact ((HO.out.stored _ _).1.stored _ _).1.drew
 ·
  go_enter Tryz.func241, Tryz.ntmps241
  go_wp2_with fail
  go_region
  go_end0
  refine ⟨⟨_, rfl⟩, ?_, grown_drew (grown_put (grown_put (grown_refl _ _) _ _) _ _)⟩
  rw [← HS.out]
  exact ((HO.out.stored _ _).1.stored _ _).1.drew
end Go.Proofs.YtkgmonplcdnnbaaGreat
