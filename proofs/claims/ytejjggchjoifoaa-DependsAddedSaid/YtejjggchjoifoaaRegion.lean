/- A region that draws its order, by an invariant on which of its operations are done: one step for each operation, whatever the order. Plain lemmas, no program. -/
import Derived.Test.YtejjggchjoifoaaWords
import Derived.Orders
namespace Go.Proofs.Ytejjggchjoifoaa
open Go.RowKit

theorem countP_one {p q : Nat → Bool} {i : Nat} (h : ∀ j, j ≠ i → p j = q j) (hp : p i = true) (hq : q i = false) : ∀ n, i < n → (List.range n).countP q + 1 = (List.range n).countP p := by
  have key : ∀ n, n ≤ i → (List.range n).countP q = (List.range n).countP p := by
    intro n
    induction n with
    | zero => intro _; rfl
    | succ n ih =>
      intro hn
      rw [List.range_succ, List.countP_append, List.countP_append, ih (by omega)]
      simp [h n (by omega)]
  intro n
  induction n with
  | zero => intro hn; omega
  | succ n ih =>
    intro hn
    rw [List.range_succ, List.countP_append, List.countP_append]
    rcases Nat.lt_or_ge i n with hlt | hge
    · have := ih hlt
      simp only [List.countP_cons, List.countP_nil, h n (by omega)]
      omega
    · have e : n = i := by omega
      subst e
      rw [key n (Nat.le_refl _)]
      simp [hp, hq]

section
variable {P : Program} {ops : Array Oper} {Q : Exit → Act → World → Prop}

theorem wpOp_mono {i : Nat} {K K' : Act → World → Prop} (hk : ∀ a w, K a w → K' a w) {a : Act} {w : World} (h : wpOp P ops Q i K a w) : wpOp P ops Q i K' a w := by
  unfold wpOp at h ⊢
  split at h
  · exact hk _ _ h
  · rename_i o ho
    split at h
    · rename_i hw
      rw [if_pos hw]
      rcases h with h | h
      · left
        unfold Oper.wp Oper.upon at h ⊢
        split at h
        all_goals first
          | exact hk _ _ h
          | exact h
          | (refine Calls.mono h ?_
             intro e w' hh
             cases e <;> first | exact hk _ _ hh | exact hh)
          | exact Rows.mono h fun _ _ hh => hk _ _ hh
      · exact .inr h
    · rename_i hw
      rw [if_neg hw]
      exact hk _ _ h

theorem wpOp_of {i : Nat} {o : Oper} {K : Act → World → Prop} {a : Act} {w : World} (ho : ops[i]? = some o) (hg : o.guard = none) (h : o.wp P a w K Q) : wpOp P ops Q i K a w := by
  unfold wpOp
  rw [ho]
  have hw : Region.wanted o (yielded ops a.tmps) = true := by simp [Region.wanted, hg]
  simp only [hw, if_true]
  exact .inl h

theorem wpAny_inv (I : Array Bool → Act → World → Prop) (hstep : ∀ L a w i, I L a w → i ∈ Region.ready .any ops L → wpOp P ops Q i (I (L.setIfInBounds i true)) a w)
    (hdone : ∀ L a w, I L a w → Region.ready .any ops L = [] → Q .normal a w) :
    ∀ (fuel : Nat) (L : Array Bool) (a : Act) (w : World), I L a w → L.size = ops.size → (List.range ops.size).countP (fun j => !L.getD j true) ≤ fuel → wpAny P .any ops Q fuel L a w := by
  intro fuel
  induction fuel with
  | zero =>
    intro L a w h hs hc
    have hr : Region.ready .any ops L = [] := by
      unfold Region.ready
      rw [List.filter_eq_nil_iff]
      intro i hi
      have h0 : (List.range ops.size).countP (fun j => !L.getD j true) = 0 := by omega
      have := List.countP_eq_zero.1 h0 i hi
      simp only [Bool.not_eq_true, Bool.and_eq_true, not_and] at this ⊢
      rw [this]; simp
    exact ⟨hr, hdone L a w h hr⟩
  | succ fuel ih =>
    intro L a w h hs hc
    refine ⟨fun hr => hdone L a w h hr, fun i hi => ?_⟩
    refine wpOp_mono ?_ (hstep L a w i h hi)
    intro a' w' h'
    refine ih _ a' w' h' (by simpa using hs) ?_
    unfold Region.ready at hi
    simp only [List.mem_filter, List.mem_range, Bool.and_eq_true] at hi
    have hlt := hi.1
    have h1 : (fun j => !L.getD j true) i = true := hi.2.1
    have := countP_one (p := fun j => !L.getD j true) (q := fun j => !(L.setIfInBounds i true).getD j true) (i := i)
      (fun j hj => by simp [Array.getD_eq_getD_getElem?, Ne.symm hj]) h1 (by simp [Array.getD_eq_getD_getElem?, hs, hlt]) ops.size hlt
    omega

theorem wp_region_inv {id : Nat} {a : Act} {w : World} (hm : P.follows .mixedOrders = true) (I : Array Bool → Act → World → Prop) (h0 : I (Array.replicate ops.size false) a w.drew)
    (hstep : ∀ L a w i, I L a w → i ∈ Region.ready .any ops L → wpOp P ops Q i (I (L.setIfInBounds i true)) a w) (hdone : ∀ L a w, I L a w → Region.ready .any ops L = [] → Q .normal a w) :
    (Code.region id ops true).wp P Q a w := by
  refine wp_region_any hm (wpAny_inv I hstep hdone _ _ _ _ h0 (by simp) ?_)
  exact Nat.le_trans List.countP_le_length (by simp)
end

/-- An operation by its own run, without a look at the frame. -/
theorem wp_v {P : Program} {o : Oper} {a : Act} {w w' : World} {K : Act → World → Prop} {Q : Exit → Act → World → Prop} {v : Value} (s : Sem Value) (he : execOp a.eval o = (do pure (.value (← s)))) (h : s.run P w = .ok v w') (hk : K (a.put o.dst v) w') : o.wp P a w K Q := by
  unfold Oper.wp
  rw [he]
  simp only [Sem.run_bind, Sem.run_pure, h, Result.andThen_ok]
  exact hk
theorem wp_u {P : Program} {o : Oper} {a : Act} {w w' : World} {K : Act → World → Prop} {Q : Exit → Act → World → Prop} {u : Unit} (s : Sem Unit) (he : execOp a.eval o = (do s; pure .skip)) (h : s.run P w = .ok u w') (hk : K (a.put o.dst undef) w') : o.wp P a w K Q := by
  unfold Oper.wp
  rw [he]
  simp only [Sem.run_bind, Sem.run_pure, h, Result.andThen_ok]
  exact hk

end Go.Proofs.Ytejjggchjoifoaa
