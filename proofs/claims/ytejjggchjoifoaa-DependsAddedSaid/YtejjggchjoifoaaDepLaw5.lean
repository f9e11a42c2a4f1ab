/- The law DependsComplete returns true. -/
import Derived.Test.YtejjggchjoifoaaDepLaw4
namespace Go.Proofs.Ytejjggchjoifoaa
open Go.RowKit

theorem xor1 (v : Int) : v ≠ bits .xor .i64 v 1 ∧ -9223372036854775808 ≤ bits .xor .i64 v 1 ∧ bits .xor .i64 v 1 ≤ 9223372036854775807 := by
  have e : bits .xor .i64 v 1 = IntKind.i64.wrap ((BitVec.ofInt 64 v ^^^ BitVec.ofInt 64 1).toNat : Int) := rfl
  rw [e]
  generalize hX : BitVec.ofInt 64 v ^^^ BitVec.ofInt 64 1 = X
  have hlt := X.isLt
  have hw : IntKind.i64.wrap (X.toNat : Int) = if (X.toNat : Int) ≥ 9223372036854775808 then (X.toNat : Int) - 18446744073709551616 else (X.toNat : Int) := by
    have hm : (X.toNat : Int) % 18446744073709551616 = X.toNat := Int.emod_eq_of_lt (by omega) (by omega)
    simp only [IntKind.wrap, IntKind.bits, IntKind.signed, Bool.true_and, decide_eq_true_eq, ge_iff_le]
    rw [show (2 : Int) ^ (64 - 1) = 9223372036854775808 by decide, show (2 : Int) ^ 64 = 18446744073709551616 by decide, hm]
  refine ⟨fun h => ?_, ?_, ?_⟩
  · have h1 : BitVec.ofInt 64 v = X := by
      rw [h, hw]
      apply BitVec.eq_of_toNat_eq
      rw [BitVec.toNat_ofInt]
      split <;> omega
    rw [h1] at hX
    have h2 : X ^^^ (X ^^^ BitVec.ofInt 64 1) = X ^^^ X := by rw [hX]
    rw [← BitVec.xor_assoc, BitVec.xor_self, BitVec.zero_xor] at h2
    exact absurd h2 (by decide)
  · rw [hw]; split <;> omega
  · rw [hw]; split <;> omega

/-- Two instances that grow: their boxes, their rows. -/
structure CmW (w : World) (va vb : Value) (la lb : List Int) (W : World) : Prop where
  old : Below w.heap.size w W
  size : w.heap.size + 2 ≤ W.heap.size
  ba : Blk W w.heap.size 49 #[.int .i64 0, .int .i64 0, .int .i64 0, va]
  bb : Blk W (w.heap.size + 1) 49 #[.int .i64 0, .int .i64 0, .int .i64 0, vb]
  ra : W.ownsRow (w.heap.size + 2) 3 1 va la.length (la.map (Value.int .i64))
  rb : W.ownsRow (w.heap.size + 2) 3 1 vb lb.length (lb.map (Value.int .i64))
  apart : ∀ g, va.ownBlock = some g → vb.ownBlock ≠ some g

theorem cm_start (w : World) : CmW w (.slice none 0 0) (.slice none 0 0) [] [] ((w.alloc (.cells #[.int .i64 0, .int .i64 0, .int .i64 0, .slice none 0 0] 49)).alloc (.cells #[.int .i64 0, .int .i64 0, .int .i64 0, .slice none 0 0] 49)) where
  old := ((Below.refl _ _).alloc (Nat.le_refl _) _).alloc (by simp) _
  size := by simp
  ba := (Blk.new _ _ _).alloc _
  bb := Blk.new1 _ _ _ _
  ra := World.ownsRow_nil _ _ _ _
  rb := World.ownsRow_nil _ _ _ _
  apart := fun g h => by cases h

section
variable {w : World} {va vb : Value} {la lb : List Int} {W : World}

theorem CmW.alloc (h : CmW w va vb la lb W) (o : Obj) : CmW w va vb la lb (W.alloc o) where
  old := h.old.alloc h.old.size _
  size := Nat.le_trans h.size (by simp)
  ba := h.ba.alloc _
  bb := h.bb.alloc _
  ra := h.ra.alloc _
  rb := h.rb.alloc _
  apart := h.apart

/-- One value more for the first. -/
theorem CmW.putA (h : CmW w va vb la lb W) {x : Int} {v' : Value} {W2 : World} (ho : W2.ownsRow (w.heap.size + 2) 3 1 v' (la.length + 1) (la.map (Value.int .i64) ++ [.int .i64 x])) (hg : W.grownBy W2 va.ownBlock) (hat : v'.ownBlock = va.ownBlock ∨ v'.ownBlock = some W.heap.size) :
    CmW w v' vb (la ++ [x]) lb (W2.setCell ⟨w.heap.size, 3, none⟩ v') := by
  have hra := h.ra.lt
  have hrb := h.rb.lt
  have hsz := h.size
  have n1 : some w.heap.size ≠ va.ownBlock := fun e => by have := hra _ e.symm; omega
  have n2 : some (w.heap.size + 1) ≠ va.ownBlock := fun e => by have := hra _ e.symm; omega
  have nv : v'.ownBlock ≠ some w.heap.size := fun e => by rcases hat with hh | hh <;> rw [e] at hh; exact n1 hh; injection hh; omega
  refine ⟨(h.old.grown hg h.old.size (fun k e => by have := hra k e; omega)).setCell (by simp) _, Nat.le_trans h.size (by simpa [World.setCell] using hg.size), ?_, (h.bb.grown hg n2).far (by simp) _, ?_, ?_, ?_⟩
  · exact (h.ba.grown hg n1).put 3 v'
  · have := ownsRow_setCell_other ho (a := ⟨w.heap.size, 3, none⟩) nv v'
    rw [List.map_append, List.length_append]
    exact this
  · refine ownsRow_setCell_other (h.rb.kept hg ?_) (a := ⟨w.heap.size, 3, none⟩) (fun e => by have := hrb _ e; simp at this; omega) v'
    cases hb : vb.ownBlock with
    | none => exact .inl rfl
    | some g => right; intro e; exact h.apart g e.symm hb
  · intro g hg' hb
    rcases hat with hh | hh
    · exact h.apart g (hh ▸ hg') hb
    · rw [hg'] at hh
      injection hh with hh
      have := hrb g hb
      omega
theorem CmW.atA (h : CmW w va vb la lb W) {W2 : World} (hg : W.grownBy W2 va.ownBlock) : W2.cell? ⟨w.heap.size, 3, none⟩ = some va ∧ W2.frozen? ⟨w.heap.size, 3, none⟩ = false := by
  have n1 : some w.heap.size ≠ va.ownBlock := fun e => by have := h.ra.lt _ e.symm; omega
  exact ⟨(h.ba.grown hg n1).cell 3, (h.ba.grown hg n1).frozen 3⟩
theorem CmW.atB (h : CmW w va vb la lb W) {W2 : World} (hg : W.grownBy W2 vb.ownBlock) : W2.cell? ⟨w.heap.size + 1, 3, none⟩ = some vb ∧ W2.frozen? ⟨w.heap.size + 1, 3, none⟩ = false := by
  have n1 : some (w.heap.size + 1) ≠ vb.ownBlock := fun e => by have := h.rb.lt _ e.symm; omega
  exact ⟨(h.bb.grown hg n1).cell 3, (h.bb.grown hg n1).frozen 3⟩
theorem CmW.putB (h : CmW w va vb la lb W) {x : Int} {v' : Value} {W2 : World} (ho : W2.ownsRow (w.heap.size + 2) 3 1 v' (lb.length + 1) (lb.map (Value.int .i64) ++ [.int .i64 x])) (hg : W.grownBy W2 vb.ownBlock) (hat : v'.ownBlock = vb.ownBlock ∨ v'.ownBlock = some W.heap.size) :
    CmW w va v' la (lb ++ [x]) (W2.setCell ⟨w.heap.size + 1, 3, none⟩ v') := by
  have hra := h.ra.lt
  have hrb := h.rb.lt
  have hsz := h.size
  have n1 : some w.heap.size ≠ vb.ownBlock := fun e => by have := hrb _ e.symm; omega
  have n2 : some (w.heap.size + 1) ≠ vb.ownBlock := fun e => by have := hrb _ e.symm; omega
  have nv : v'.ownBlock ≠ some (w.heap.size + 1) := fun e => by rcases hat with hh | hh <;> rw [e] at hh; exact n2 hh; injection hh; omega
  refine ⟨(h.old.grown hg h.old.size (fun k e => by have := hrb k e; omega)).setCell (by simp) _, Nat.le_trans h.size (by simpa [World.setCell] using hg.size), (h.ba.grown hg n1).far (by simp) _, ?_, ?_, ?_, ?_⟩
  · exact (h.bb.grown hg n2).put 3 v'
  · refine ownsRow_setCell_other (h.ra.kept hg ?_) (a := ⟨w.heap.size + 1, 3, none⟩) (fun e => by have := hra _ e; simp at this) v'
    cases hb : va.ownBlock with
    | none => exact .inl rfl
    | some g => right; intro e; exact h.apart g hb e.symm
  · have := ownsRow_setCell_other ho (a := ⟨w.heap.size + 1, 3, none⟩) nv v'
    rw [List.map_append, List.length_append]
    exact this
  · intro g hg' hb
    rcases hat with hh | hh
    · exact h.apart g hg' (hh ▸ hb)
    · rw [hb] at hh
      injection hh with hh
      have := hra g hg'
      omega
end

theorem own_form {W : World} {base : Nat} {e : TypeId} {size : Nat} {v : Value} {n : Nat} {xs : List Value} (h : W.ownsRow base e size v n xs) : ∃ A m c, v = .slice A m c := by
  rcases h.2 with ⟨rfl, _⟩ | ⟨g, cap, cur, rfl, _⟩
  · exact ⟨_, _, _, rfl⟩
  · exact ⟨_, _, _, rfl⟩

theorem inst2_blk {W : World} {g : Nat} {A0 A2 : Option Addr} {n0 c0 n2 c2 : Nat} {l0 l2 : Inst}
    (h : Blk W g 49 #[.int .i64 0, .int .i64 0, .int .i64 0, .slice A0 n0 c0, .int .i64 0, .int .i64 0, .int .i64 0, .slice A2 n2 c2])
    (h0 : SlR 1 intR W (.slice A0 n0 c0) l0) (h2 : SlR 1 intR W (.slice A2 n2 c2) l2) :
    SlR 4 instR W (.slice (some ⟨g, 0, none⟩) 2 2) [l0, l2] := by
  refine ⟨some ⟨g, 0, none⟩, 2, rfl, Nat.le_refl _, by decide, fun i x hi => ?_⟩
  rcases i with _ | _ | i
  · simp only [List.getElem?_cons_zero, Option.some.injEq] at hi
    subst hi
    refine ⟨g, 0, _, rfl, h.lt, ?_, ?_, ⟨0, 0, 0, A0, n0, c0, rfl, h0⟩⟩
    · rfl
    · intro j u hu
      rw [h.cell]
      rcases j with _ | _ | _ | _ | j <;> simp at hu ⊢ <;> exact hu
  · simp only [List.getElem?_cons_succ, List.getElem?_cons_zero, Option.some.injEq] at hi
    subst hi
    refine ⟨g, 0, _, rfl, h.lt, ?_, ?_, ⟨0, 0, 0, A2, n2, c2, rfl, h2⟩⟩
    · rfl
    · intro j u hu
      rw [h.cell]
      rcases j with _ | _ | _ | _ | j <;> simp at hu ⊢ <;> exact hu
  · simp at hi

theorem twoL_succ (n : Nat) (L : List Int) (v u : Int) : twoL (n + 1) L v u = twoL n L v u ++ [if L.any (· == (n : Int)) then v else u] := by
  simp [twoL, List.range_succ]
theorem repl_succ (n : Nat) (v : Int) : List.replicate (n + 1) v = List.replicate n v ++ [v] := List.replicate_succ'

end Go.Proofs.Ytejjggchjoifoaa
