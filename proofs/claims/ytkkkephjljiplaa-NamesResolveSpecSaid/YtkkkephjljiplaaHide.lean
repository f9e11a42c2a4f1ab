/- Rows that grow and whose elements hold slices: read with the row's own blocks hidden. Plain lemmas; one step of a drawn region. -/
import Derived.Test.YtkkkephjljiplaaMask
import Derived.Test.YtkkkephjljiplaaSteps
import Derived.Test.YtkkkephjljiplaaNmPurp
namespace Go.Proofs.Ytkkkephjljiplaa
open Go.RowKit

/-- The blocks of a list hidden. -/
def hideL : List Nat → World → World
  | [], w => w
  | b :: S, w => mask b (b + 1) (hideL S w)
theorem hideL_size {w : World} : ∀ S : List Nat, (hideL S w).heap.size = w.heap.size
  | [] => rfl
  | b :: S => by rw [hideL, mask_size, hideL_size S]
theorem hideL_heap {w : World} {g : Nat} : ∀ S : List Nat, g ∉ S → (hideL S w).heap[g]? = w.heap[g]?
  | [], _ => rfl
  | b :: S, h => by
    rw [List.mem_cons, not_or] at h
    rw [hideL, mask_heap (by omega), hideL_heap S h.2]
theorem hideL_hid {w : World} {g : Nat} (hg : g < w.heap.size) : ∀ S : List Nat, g ∈ S → (hideL S w).heap[g]? = some (.cells #[] 0)
  | b :: S, h => by
    rw [hideL]
    by_cases e : g = b
    · subst e
      exact mask_hid (by omega) (by rw [hideL_size]; exact hg)
    · rw [mask_heap (by omega)]
      exact hideL_hid hg S ((List.mem_cons.1 h).resolve_left e)
theorem hideL_rest {w : World} : ∀ S : List Nat, (hideL S w).os = w.os ∧ (hideL S w).tape = w.tape ∧ (hideL S w).output = w.output
  | [] => ⟨rfl, rfl, rfl⟩
  | _ :: S => hideL_rest S
theorem hideL_unm {α : Type} {R : World → List Value → α → Prop} (hR : Unm R) {w : World} {cs : List Value} {x : α} : ∀ S : List Nat, R (hideL S w) cs x → R w cs x
  | [], h => h
  | _ :: S, h => hideL_unm hR S (hR _ _ _ _ _ h)
theorem hideL_cells {α : Type} {sz : Nat} {R : World → List Value → α → Prop} (hR : Unm R) {w : World} {cs : List Value} {l : List α} {S : List Nat} (h : CellsR sz R (hideL S w) cs l) : CellsR sz R w cs l :=
  ⟨h.1, fun i x hi => hideL_unm hR S (h.2 i x hi)⟩
/-- Growing the row's own block: what is hidden stays hidden, a further block may be hidden, too. -/
theorem hideL_grown {w w' : World} {S S' : List Nat} {row : Option Nat} (hg : w.grownBy w' row) (hr : ∀ r, row = some r → r < w.heap.size → r ∈ S) (hS : ∀ b, b < w.heap.size → (b ∈ S' ↔ b ∈ S)) : Below (hideL S w).heap.size (hideL S w) (hideL S' w') := by
  obtain ⟨a1, a2, a3⟩ := hideL_rest (w := w) S
  obtain ⟨b1, b2, b3⟩ := hideL_rest (w := w') S'
  refine ⟨by rw [a1, b1]; exact hg.os, by rw [a2, b2]; exact hg.tape, by rw [a3, b3]; exact hg.output, by rw [hideL_size, hideL_size]; exact hg.size, fun k hk => ?_⟩
  rw [hideL_size] at hk
  by_cases hb : k ∈ S
  · rw [hideL_hid hk S hb, hideL_hid (Nat.lt_of_lt_of_le hk hg.size) S' ((hS k hk).2 hb)]
  · rw [hideL_heap S hb, hideL_heap S' (fun h => hb ((hS k hk).1 h))]
    exact hg.block k hk (fun e => hb (hr k e.symm hk))
theorem hideL_below {w w' : World} {S : List Nat} (hb : Below w.heap.size w w') : Below (hideL S w).heap.size (hideL S w) (hideL S w') :=
  hideL_grown (row := none) ⟨hb.os, hb.tape, hb.output, hb.size, fun k hk _ => hb.block k hk⟩ (by simp) (fun _ _ => Iff.rfl)
theorem hideL_old {w0 w : World} {S : List Nat} (h : Below w0.heap.size w0 w) (hS : ∀ b ∈ S, w0.heap.size ≤ b) : Below w0.heap.size w0 (hideL S w) := by
  obtain ⟨a1, a2, a3⟩ := hideL_rest (w := w) S
  refine ⟨by rw [a1]; exact h.os, by rw [a2]; exact h.tape, by rw [a3]; exact h.output, by rw [hideL_size]; exact h.size, fun k hk => ?_⟩
  rw [hideL_heap S (fun hm => by have := hS k hm; omega)]
  exact h.block k hk
theorem hideL_own {w : World} {S : List Nat} {base : Nat} {e : TypeId} {sz : Nat} {v : Value} {n : Nat} {cs : List Value} (h : w.ownsRow base e sz v n cs) (hS : ∀ b ∈ S, b < base) : (hideL S w).ownsRow base e sz v n cs := by
  refine ⟨h.1, ?_⟩
  rcases h.2 with h | ⟨g, cap, cur, h1, h2, h3, h4⟩
  · exact .inl h
  · exact .inr ⟨g, cap, cur, h1, h2, (hideL_heap S (fun hm => by have := hS g hm; omega)).trans h3, h4⟩
theorem hideL_blk {w : World} {S : List Nat} {g : Nat} {t : TypeId} {cs : Array Value} (h : Blk w g t cs) (hS : g ∉ S) : Blk (hideL S w) g t cs := (hideL_heap S hS).trans h

/-- A row of the call's own that grows and whose elements hold slices. -/
def Grow {α : Type} (L : Nat) (T : TypeId) (sz : Nat) (R : World → List Value → α → Prop) (v : Value) (l : List α) (w : World) : Prop :=
  ∃ cs S, w.ownsRow L T sz v l.length cs ∧ (∀ r, v.ownBlock = some r → r ∈ S) ∧ (∀ b ∈ S, L ≤ b ∧ b < w.heap.size) ∧ CellsR sz R (hideL S w) cs l
section
variable {α : Type} {L : Nat} {T : TypeId} {sz : Nat} {R : World → List Value → α → Prop} {v : Value} {l : List α} {w w' : World}
theorem Grow.none_ : Grow L T sz R (.slice none 0 0) [] w :=
  ⟨[], [], ⟨by simp, .inl ⟨rfl, rfl⟩⟩, fun r e => by simp [Value.ownBlock] at e, fun b hb => by simp at hb, CellsR.nil⟩
theorem Grow.lit {g : Nat} (h : Blk w g T #[]) (hL : L ≤ g) : Grow L T sz R (.slice (some ⟨g, 0, none⟩) 0 0) [] w :=
  ⟨[], [g], ⟨by simp, .inr ⟨g, 0, #[], rfl, hL, h, Nat.le_refl _, by decide, by simp, by simp⟩⟩, fun r e => by
    simp only [Value.ownBlock, Option.some.injEq] at e
    simp [e], fun b hb => by
    rw [List.mem_singleton] at hb
    subst hb
    exact ⟨hL, h.lt⟩, CellsR.nil⟩
theorem Grow.below (h : Grow L T sz R v l w) (hR : Mono R) (hb : Below w.heap.size w w') : Grow L T sz R v l w' := by
  obtain ⟨cs, S, h1, h2, h3, h4⟩ := h
  exact ⟨cs, S, own_below0 h1 hb, h2, fun b hm => ⟨(h3 b hm).1, Nat.lt_of_lt_of_le (h3 b hm).2 hb.size⟩, h4.mono hR (hideL_below hb)⟩
theorem Grow.form (h : Grow L T sz R v l w) : ∃ A c, v = .slice A l.length c := by
  obtain ⟨cs, S, h1, _⟩ := h
  rcases own_row h1 with ⟨rfl, h0⟩ | ⟨g, cap, rfl, _⟩
  · exact ⟨none, 0, by rw [h0]⟩
  · exact ⟨_, cap, rfl⟩
theorem Grow.sl (h : Grow L T sz R v l w) (hR : Unm R) : SlR sz R w v l := by
  obtain ⟨cs, S, h1, h2, h3, h4⟩ := h
  exact slR_of_row h1 (hideL_cells hR h4) rfl
/-- One element more. -/
theorem Grow.push {cs : List Value} {S : List Nat} (h2 : ∀ r, v.ownBlock = some r → r ∈ S) (h3 : ∀ b ∈ S, L ≤ b ∧ b < w.heap.size) (hc : CellsR sz R (hideL S w) cs l) (hR : Mono R) {v' : Value} {news : List Value} {r : List α} {n : Nat}
    (hown : w'.ownsRow L T sz v' n (cs ++ news)) (hn : n = (l ++ r).length) (hg : w.grownBy w' v.ownBlock) (hat : v'.ownBlock = v.ownBlock ∨ v'.ownBlock = some w.heap.size) (hL : L ≤ w.heap.size) (hx : CellsR sz R (hideL S w) news r) : Grow L T sz R v' (l ++ r) w' := by
  have hlt : ∀ r, v'.ownBlock = some r → r < w'.heap.size := fun r e => (hown.lt r e).2
  subst hn
  rcases hat with hat | hat
  · refine ⟨_, S, hown, fun r e => h2 r (by rw [← hat]; exact e), fun b hm => ⟨(h3 b hm).1, Nat.lt_of_lt_of_le (h3 b hm).2 hg.size⟩, ?_⟩
    have hb := hideL_grown (S := S) (S' := S) hg (fun r e _ => h2 r e) (fun _ _ => Iff.rfl)
    exact (hc.mono hR hb).append (hx.mono hR hb)
  · refine ⟨_, w.heap.size :: S, hown, fun r e => by rw [hat] at e; injection e with e; simp [e], fun b hm => ?_, ?_⟩
    · rcases List.mem_cons.1 hm with rfl | hm
      · exact ⟨hL, hlt _ hat⟩
      · exact ⟨(h3 b hm).1, Nat.lt_of_lt_of_le (h3 b hm).2 hg.size⟩
    have hb := hideL_grown (S := S) (S' := w.heap.size :: S) hg (fun r e _ => h2 r e) (fun b hlt => by
      rw [List.mem_cons]
      exact ⟨fun h => h.resolve_left (by omega), .inr⟩)
    exact (hc.mono hR hb).append (hx.mono hR hb)
end

/-- append of a slice that reads as l onto a row of the call's own, as one step of a region that draws. -/
theorem step_append_row {P : Program} {α : Type} {sz : Nat} {R : World → List Value → α → Prop} (w : World) {ops : Array Oper} {o : Oper} {a : Act} {K : Act → World → Prop} {Q : Exit → Act → World → Prop} {E : Prop} (hgd : o.guard = none) (s x : Operand) (t e : TypeId)
    (hop : o.op = .call { callee := .builtin .append, args := #[s, x], argTypes := #[t, t] }) (i : TypeInfo) (z : Value) (bytes : Nat) (ht : P.underlying t = some (.slice e)) (hi : P.info? e = some i) (hz : i.zero = some z) (hsize : i.size = sz) (hby : i.bytes = bytes) (hzs : z.cells.size = sz) (hsz : 0 < sz) (ho : One R)
    (base : Nat) (v : Value) (n : Nat) (xs : List Value) (hs : a.eval s = v) (hown : w.ownsRow base e sz v n xs) (A : Option Addr) (m c : Nat) (l : List α) (hx : a.eval x = .slice A m c) (hr : SlR sz R w (.slice A m c) l)
    (hn : n + m ≤ maxLen) (hb : (n + m) * bytes ≤ 140737488355328) (hbase : base ≤ w.heap.size)
    (h : ∀ v' w' cs, CellsR sz R w cs l → w'.ownsRow base e sz v' (n + m) (xs ++ cs) → w.grownBy w' v.ownBlock → (v'.ownBlock = v.ownBlock ∨ v'.ownBlock = some w.heap.size) → K (a.put o.dst v') w') :
    if Region.wanted o (yielded ops a.tmps) = true then Oper.wp P o a w K Q else E := by
  have hw : Region.wanted o (yielded ops a.tmps) = true := by simp [Region.wanted, hgd]
  rw [if_pos hw]
  exact wp_append_row w s x t e hop i z bytes ht hi hz hsize hby hzs hsz ho base v n xs hs hown A m c l hx hr hn hb hbase h
theorem own_of_blk {w : World} {g base : Nat} {e : TypeId} {sz : Nat} (h : Blk w g e #[]) (hb : base ≤ g) : w.ownsRow base e sz (.slice (some ⟨g, 0, none⟩) 0 0) 0 [] :=
  ⟨by simp, .inr ⟨g, 0, #[], rfl, hb, h, Nat.le_refl _, by decide, by simp, by simp⟩⟩
theorem cells_two {α : Type} {sz : Nat} {R : World → List Value → α → Prop} {w : World} {cs ds : List Value} {x y : α} (hx : R w cs x) (hy : R w ds y) (hl : cs.length = sz) (hl' : ds.length = sz) : CellsR sz R w (cs ++ ds) [x, y] := CellsR.append (CellsR.one hl hx) (CellsR.one hl' hy)
theorem blk_new2 (w : World) (o : Obj) (t : TypeId) (cs : Array Value) : Blk ((w.alloc o).alloc (.cells cs t)) (w.heap.size + 1) t cs := by simpa using Blk.new (w.alloc o) t cs
theorem below_one (w : World) (o : Obj) : Below w.heap.size w (w.alloc o) := (Below.refl _ _).alloc (Nat.le_refl _) _
theorem below_two (w : World) (o o' : Obj) : Below w.heap.size w ((w.alloc o).alloc o') := (below_one w o).alloc (by simp) _

end Go.Proofs.Ytkkkephjljiplaa
