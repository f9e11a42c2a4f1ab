/- A range over an iterator that keeps cells of its own, by a body that appends to a row of its own: a law for the caller. -/
import Derived.Test.YtkgmonplcdnnbaaGreatPm10
import Derived.RangeFuncNested
import Derived.RangeFuncBound
import Derived.RangeFuncCalls
import Derived.RangeFuncLeaves
namespace Go.Proofs.YtkgmonplcdnnbaaGreat
open Go.RowKit
structure KpC (n₀ B B2 : Nat) (W W' : World) : Prop where
 size : W.heap.size ≤ W'.heap.size
 block : ∀ b, (b < n₀ ∨ B ≤ b) → b < W.heap.size → some b ≠ ptOf B2 W → W'.heap[b]? = W.heap[b]?
 pt : ptOf B2 W' = ptOf B2 W ∨ ∃ b, ptOf B2 W' = some b ∧ W.heap.size ≤ b
 lt : ∀ b, ptOf B2 W' = some b → b < W'.heap.size
structure Off (B B2 : Nat) (A C : World) : Prop where
 os : C.os = A.os
 tape : C.tape = A.tape
 output : C.output = A.output
 size : A.heap.size ≤ C.heap.size
 block : ∀ b, b < A.heap.size → (b < B ∨ some b = ptOf B2 A) → C.heap[b]? = A.heap[b]?
theorem Off.of_grown {B B2 : Nat} {A C : World} {row : Option Nat} (hg : A.grownBy C row) (hr : ∀ r, row = some r → B ≤ r ∧ some r ≠ ptOf B2 A) : Off B B2 A C :=
 ⟨hg.os, hg.tape, hg.output, hg.size, fun b hb h => hg.block b hb (fun e => by
  obtain ⟨h1, h2⟩ := hr b e.symm
  rcases h with h | h
  · omega
  · exact h2 h)⟩
def AbC {α : Type} (B B2 : Nat) (J : List α → World → Prop) : Prop := ∀ s A C, J s A → Off B B2 A C → J s C
def SeqC {α : Type} (F : Fence) (n : Nat) (P : Program) (g : Nat) (lb : Array Value) (encs : α → Array Value) (n₀ B2 : Nat) (S : List α → Prop) (N : Nat) (w : World) : Prop :=
 ∀ (l : Nat) (J : List α → World → Prop) (W : World), Below w.heap.size w W → (∀ b, ptOf B2 W = some b → n₀ ≤ b ∧ b < W.heap.size) → AbC W.heap.size B2 J →
  (∀ pre x W1, J pre W1 → pre.length < N → YieldAt F (n - 1) P l (encs x) W1 fun e W' => e = .returned (.bool true) ∧ J (pre ++ [x]) W' ∧ KpC n₀ W.heap.size B2 W1 W') →
  J [] W →
  CallsIn F n P g (#[.func (.yield l) #[] #[]] ++ lb) W fun e W' => (∃ v, e = .returned v) ∧ ∃ xs, S xs ∧ J xs W'
theorem ptOf_put {B2 l : Nat} {W : World} {o : Obj} (h : l ≠ B2) : ptOf B2 (W.putObj l o) = ptOf B2 W := by
 unfold ptOf World.cell?
 rw [World.putObj_heap_other (fun e => h e.symm)]
theorem wpIn_rangeFunc_C {F : Fence} {n : Nat} {P : Program} {α : Type} {g : Operand} {ps : Array Tmp} {assign body : Code} {Q : Exit → Act → World → Prop} {a : Act} {w : World}
 (hro : F.round = none) (h1 : 1 ≤ n) {gf : Nat} {lb : Array Value} (hg : a.eval g = .func (.func gf) #[] lb) (hFg : F.fn gf) (eg : ∀ args w, (callFunc gf args).run P w = .ok (.enter gf args) w)
 {encs : α → Array Value} {n₀ B2 : Nat} {S : List α → Prop} {N : Nat} (hseq : SeqC F (n - 1) P gf lb encs n₀ B2 S N w)
 (hps : ∀ x, (encs x).size = ps.size) (hn₀ : n₀ ≤ w.heap.size) (hB2 : B2 < w.heap.size)
 (I : List α → World → Prop) (hI : AbC w.heap.size B2 I) (hpt : ∀ pre W, I pre W → ∀ b, ptOf B2 W = some b → n₀ ≤ b ∧ ∃ cs t fz, W.heap[b]? = some (Obj.cells cs t fz)) (h0 : I [] w) (a₁ : α → Act)
 (hassign : ∀ (l : Nat) (x : α) (W : World) (K : Act → World → Prop), K (a₁ x) W →
  assign.wpIn (F.inRound l) (n - 1 - 1) P (Exit.then K (fun _ _ _ => False)) { tmps := (ps.zip (encs x)).foldl (fun t (p, v) => t.setIfInBounds p v) a.tmps, defers := [] } W)
 (hbody : ∀ (l : Nat) (pre : List α) (x : α) (W : World), I pre W → pre.length < N →
  body.wpIn (F.inRound l) (n - 1 - 1) P (fun e _ W' => e = .normal ∧ KeepsOthers W W' ∧ KpC n₀ (w.heap.size + 2) B2 W W' ∧ I (pre ++ [x]) W') (a₁ x) W)
 (hdone : ∀ (D : Nat) (xs : List α) (W : World), w.heap.size ≤ D → S xs → I xs W → W.heap[D]? = some (.deferred (some [])) → Q .normal { a with defers := { target := .collected D, args := #[] } :: a.defers } W) :
 (Code.rangeFunc g ps assign body).wpIn F n P Q a w := by
 refine wpIn_rangeFunc ?_
 intro fn hfn
 rw [hro]
 obtain ⟨rec, hrec⟩ : ∃ rec : LoopState → Option Code → Loop, rec = fun st pe => { state := st, pending := pe, fn, tmps := a.tmps, params := ps, assign, body, defers := w.heap.size } := ⟨_, rfl⟩
 obtain ⟨W1, hW1⟩ : ∃ W1, (w.alloc (.deferred (some []))).alloc (.loop (rec .ready none)) = W1 := ⟨_, rfl⟩
 have hsz1 : W1.heap.size = w.heap.size + 2 := by rw [← hW1]; simp
 have hL1 : W1.heap[w.heap.size + 1]? = some (.loop (rec .ready none)) := by
  rw [← hW1]; have := World.alloc_heap_new (w.alloc (.deferred (some []))) (.loop (rec .ready none)); rwa [World.size_alloc] at this
 have hK1 : W1.heap[w.heap.size]? = some (.deferred (some [])) := by
  rw [← hW1]; exact (Below.heap_alloc _ _ _ (by simp)).trans (World.alloc_heap_new w _)
 have hI1 : I [] W1 := by
  rw [← hW1]
  exact hI _ _ _ (hI _ _ _ h0 (Off.of_grown (World.grownBy_alloc _ _ none) (fun r e => by cases e))) (Off.of_grown (World.grownBy_alloc _ _ none) (fun r e => by cases e))
 have hb1 : Below w.heap.size w W1 := by
  rw [← hW1]; exact ((Below.refl _ w).alloc (Nat.le_refl _) _).alloc (by simp) _
 -- the turn of a block of book-keeping
 have hIput : ∀ (pre : List α) (W : World) (l : Nat) (o o' : Obj), I pre W → w.heap.size ≤ l → W.heap[l]? = some o → o.isCells = false → I pre (W.putObj l o') := by
  intro pre W l o o' hi hl ho hc
  refine hI _ _ _ hi (Off.of_grown (grownBy_putObj' W l o') (fun r e => ?_))
  cases e
  refine ⟨hl, fun e => ?_⟩
  obtain ⟨_, cs, t, fz, hcs⟩ := hpt _ _ hi _ e.symm
  rw [ho] at hcs
  injection hcs with hcs
  subst hcs
  cases hc
 refine ⟨w.heap.size + 1, [{ target := .collected w.heap.size, args := #[] }], W1, { target := .fn (.func gf) lb, args := #[.func (.yield (w.heap.size + 1)) #[] #[]] }, W1, gf,
  #[.func (.yield (w.heap.size + 1)) #[] #[]] ++ lb, W1, ?_, ?_, ?_, ?_, fun _ => h1, ?_⟩
 · rw [← hW1, hrec]; exact run_enterLoop_outer _ _ _ _ _
 ·
  simp only [resolve, hg]
  simp [go_sem]
 · intro f' hf'; simp [Target.leads] at hf'; subst hf'; exact hFg
 · simp [invoke, go_sem, eg]
 ·
  refine (hseq (w.heap.size + 1)
   (fun pre W => I pre W ∧ W.heap[w.heap.size + 1]? = some (.loop (rec .ready none)) ∧ W.heap[w.heap.size]? = some (.deferred (some [])))
   W1 hb1 (fun b hb => by obtain ⟨h0, cs, t, fz, h⟩ := hpt _ _ hI1 b hb; exact ⟨h0, (Array.getElem?_eq_some_iff.1 h).1⟩)
   (fun s A C hs ho => ⟨hI s A C hs.1 ⟨ho.os, ho.tape, ho.output, ho.size, fun b hb h => ho.block b hb (h.imp (fun h => by omega) id)⟩,
    (ho.block _ (Array.getElem?_eq_some_iff.1 hs.2.1).1 (.inl (by omega))).trans hs.2.1,
    (ho.block _ (Array.getElem?_eq_some_iff.1 hs.2.2).1 (.inl (by omega))).trans hs.2.2⟩)
   ?_ ⟨hI1, hL1, hK1⟩).mono ?_
  ·
   rintro pre x W ⟨hi, hl, hk⟩ hlen
   have hlt : w.heap.size + 1 < W.heap.size := (Array.getElem?_eq_some_iff.1 hl).1
   have hy := run_yield (P := P) (args := encs x) hl (by rw [hrec]; exact hps x)
   rw [hrec] at hy
   refine ⟨fn, _, assign, body, hy, roundIn_of_wpIn hfn (hassign _ x W _ ⟨_, run_beginRound hl (by rw [hrec]), ?_⟩)⟩
   have hl2 : (W.putObj (w.heap.size + 1) (.loop { rec .ready none with state := .busy })).heap[w.heap.size + 1]? = some (.loop { rec .ready none with state := .busy }) := World.putObj_heap_same hlt
   have hk2 : (W.putObj (w.heap.size + 1) (.loop { rec .ready none with state := .busy })).heap[w.heap.size]? = some (.deferred (some [])) := (World.putObj_heap_other (by omega)).trans hk
   refine wpIn_mono (hbody _ pre x _ (hIput _ _ _ _ _ hi (by omega) hl rfl) hlen) ?_
   rintro e a3 W3 ⟨rfl, hk3, hkp3, hi3⟩
   have hl3 := hk3.same _ _ hl2 rfl
   have hend := run_endRound (P := P) none hl3
   rw [hrec] at hend
   have hlt3 : w.heap.size + 1 < W3.heap.size := (Array.getElem?_eq_some_iff.1 hl3).1
   refine ⟨_, _, hend, rfl, ⟨hIput _ _ _ _ _ hi3 (by omega) hl3 rfl, ?_, (World.putObj_heap_other (by omega)).trans (hk3.same _ _ hk2 rfl)⟩, ?_⟩
   ·
    rw [World.putObj_heap_same hlt3, hrec]
    rfl
   ·
    have hsz : ∀ (X : World) (l : Nat) (o : Obj), (X.putObj l o).heap.size = X.heap.size := fun X l o => by simp [World.putObj]
    have hne : w.heap.size + 1 ≠ B2 := by omega
    refine ⟨by rw [hsz]; have := hkp3.size; rw [hsz] at this; exact this, fun b hb hbl hbp => ?_, ?_, ?_⟩
    ·
     have hbne : b ≠ w.heap.size + 1 := by omega
     rw [World.putObj_heap_other (by omega)]
     have := hkp3.block b (by omega) (by rw [hsz]; exact hbl) (by rw [ptOf_put hne]; exact hbp)
     rw [this, World.putObj_heap_other (by omega)]
    ·
     rw [ptOf_put hne]
     rcases hkp3.pt with h | ⟨b, h, hb⟩
     · exact .inl (by rw [h, ptOf_put hne])
     · exact .inr ⟨b, h, by rw [hsz] at hb; exact hb⟩
    ·
     intro b hb
     rw [ptOf_put hne] at hb
     rw [hsz]
     exact hkp3.lt b hb
  ·
   rintro e W2 ⟨⟨v, rfl⟩, xs, hS, hi, hl, hk⟩
   exact ⟨none, _, by have := run_endLoop (P := P) hl (by rw [hrec]; simp); rw [hrec] at this; exact this, hdone _ xs _ (Nat.le_refl _) hS (hIput _ _ _ _ _ hi (by omega) hl rfl) ((World.putObj_heap_other (by omega)).trans hk)⟩
end Go.Proofs.YtkgmonplcdnnbaaGreat
