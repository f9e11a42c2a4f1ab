/- A region that draws its order, in which the call number n panics whatever the order: the operations ahead of it only read. For any program. -/
import Derived.Test.YtkkkephjljiplaaWords
import Derived.StillTailTactics
namespace Go.Proofs.Ytkkkephjljiplaa
open Go.RowKit

section
variable {P : Program} {ops : Array Oper} {md : Region.Mode} {w : World} {Q : Exit → Act → World → Prop}

/-- Operation n is a call that panics, and the post holds of that. -/
def DiesOp (P : Program) (ops : Array Oper) (w : World) (Q : Exit → Act → World → Prop) (n : Nat) (a : Act) : Prop :=
  ∃ o f args chain, ops[n]? = some o ∧ Region.wanted o (yielded ops a.tmps) = true ∧ (execOp a.eval o).run P w = .ok (.enter f args) w ∧ Calls P f args w (fun e w'' => e = .panicked chain ∧ w'' = w) ∧ Q (.panic chain) a w

def wpAnyD (P : Program) (md : Region.Mode) (ops : Array Oper) (w : World) (Q : Exit → Act → World → Prop) (n : Nat) : Nat → Array Bool → Act → Prop
  | 0, listed, a => Region.ready md ops listed ≠ [] ∧ ∀ i ∈ Region.ready md ops listed, i = n ∧ DiesOp P ops w Q n a
  | f + 1, listed, a => Region.ready md ops listed ≠ [] ∧ ∀ i ∈ Region.ready md ops listed, (i = n ∧ DiesOp P ops w Q n a) ∨ (i ≠ n ∧ stOp P ops w i (wpAnyD P md ops w Q n f (listed.setIfInBounds i true)) a)

theorem wpOp_dies {n : Nat} {a : Act} {K : Act → World → Prop} (h : DiesOp P ops w Q n a) : wpOp P ops Q n K a w := by
  obtain ⟨o, f, args, chain, ho, hw, hr, hc, hq⟩ := h
  unfold wpOp
  simp only [ho, hw, if_true]
  refine .inl ?_
  unfold Oper.wp
  rw [hr]
  exact hc.mono fun e w'' ⟨he, hw⟩ => by subst he; subst hw; exact hq

theorem wpAny_of_dies {n g : Nat} : ∀ (f : Nat) (listed : Array Bool) (a : Act), wpAnyD P md ops w Q n f listed a → wpAny P md ops Q (f + 1 + g) listed a w
  | 0, listed, a, h => by
    rw [show 0 + 1 + g = g + 1 by omega]
    refine ⟨fun h0 => absurd h0 h.1, fun i hi => ?_⟩
    obtain ⟨rfl, hd⟩ := h.2 i hi
    exact wpOp_dies hd
  | f + 1, listed, a, h => by
    rw [show f + 1 + 1 + g = (f + 1 + g) + 1 by omega]
    refine ⟨fun h0 => absurd h0 h.1, fun i hi => ?_⟩
    rcases h.2 i hi with ⟨rfl, hd⟩ | ⟨_, hs⟩
    · exact wpOp_dies hd
    · exact wpOp_of_stOp (fun a' h' => wpAny_of_dies f _ a' h') hs

theorem wpAnyD_first {n i : Nat} {oi : Oper} {v : Value} (hi : ops[i]? = some oi) (hin : i ≠ n) (hsel : ∀ (j : Nat) (o : Oper) cs b, ops[j]? = some o → o.op ≠ .select cs b)
    (hQ : ∀ (d : Option Tmp) (u : Value) (c : List PanicEntry) (a : Act), Q (.panic c) (a.put d u) w → Q (.panic c) a w) :
    ∀ (f : Nat) (listed : Array Bool) (a : Act),
      (∀ j oj, ops[j]? = some oj → j ≠ i → listed.getD j true = false → (∀ e ∈ oj.after, Region.binds md e = true → e.on ≠ i) → oi.apart ops oj = true) →
      i ∈ Region.ready md ops listed → YieldsAt P ops w oi v a →
      wpAnyD P md ops w Q n f (listed.setIfInBounds i true) (a.put oi.dst v) → wpAnyD P md ops w Q n (f + 1) listed a := by
  intro f
  induction f with
  | zero =>
    intro listed a hfree hr hy H
    have hun := (mem_ready.1 hr).1
    refine ⟨fun h => (by rw [h] at hr; cases hr), fun j hj => ?_⟩
    by_cases hji : j = i
    · subst hji; exact .inr ⟨hin, hy.stOp hi H⟩
    · obtain ⟨hjun, oj, hoj, hall⟩ := mem_ready.1 hj
      have hnot : ∀ e ∈ oj.after, Region.binds md e = true → e.on ≠ i := fun e he hb heq => by
        have h1 := hall e he hb
        rw [heq, getD_both hun] at h1
        cases h1
      obtain ⟨h1, h2, h3⟩ := Oper.apart_spec (hfree j oj hoj hji hjun hnot)
      obtain ⟨rfl, o, fn, args, chain, ho, hw, hru, hc, hq⟩ := H.2 j (ready_mono hj hji)
      have e : o = oj := Option.some.inj (ho.symm.trans hoj)
      subst e
      refine .inl ⟨rfl, o, fn, args, chain, ho, ?_, ?_, hc, hQ _ _ _ _ hq⟩
      · rw [← wanted_put o a oi.dst v h1]; exact hw
      · rw [← execOp_put o (fun cs b => hsel j o cs b ho) a oi.dst v h1]; exact hru
  | succ f ih =>
    intro listed a hfree hr hy H
    have hun := (mem_ready.1 hr).1
    refine ⟨fun h => (by rw [h] at hr; cases hr), fun j hj => ?_⟩
    by_cases hji : j = i
    · subst hji; exact .inr ⟨hin, hy.stOp hi H⟩
    · obtain ⟨hjun, oj, hoj, hall⟩ := mem_ready.1 hj
      have hnot : ∀ e ∈ oj.after, Region.binds md e = true → e.on ≠ i := fun e he hb heq => by
        have h1 := hall e he hb
        rw [heq, getD_both hun] at h1
        cases h1
      have hap := hfree j oj hoj hji hjun hnot
      obtain ⟨h1, h2, h3⟩ := Oper.apart_spec hap
      rcases H.2 j (ready_mono hj hji) with ⟨rfl, o, fn, args, chain, ho, hw, hru, hc, hq⟩ | ⟨hjn, hst⟩
      · have e : o = oj := Option.some.inj (ho.symm.trans hoj)
        subst e
        refine .inl ⟨rfl, o, fn, args, chain, ho, ?_, ?_, hc, hQ _ _ _ _ hq⟩
        · rw [← wanted_put o a oi.dst v h1]; exact hw
        · rw [← execOp_put o (fun cs b => hsel j o cs b ho) a oi.dst v h1]; exact hru
      · refine .inr ⟨hjn, ?_⟩
        have hs2 := stOp_put hoj hap (fun cs b => hsel i oi cs b hi) (fun cs b => hsel j oj cs b hoj) hy hst
        have hfree' : ∀ k ok, ops[k]? = some ok → k ≠ i → (listed.setIfInBounds j true).getD k true = false →
            (∀ e ∈ ok.after, Region.binds md e = true → e.on ≠ i) → oi.apart ops ok = true := fun k ok hk hki hun hno => by
          refine hfree k ok hk hki ?_ hno
          by_cases hjk : j = k
          · subst hjk; exact hjun
          · rw [getD_set_ne true hjk] at hun; exact hun
        refine stOp_mono (fun a' h3 => ih (listed.setIfInBounds j true) a' hfree' (ready_mono hr (Ne.symm hji)) h3.1 ?_) hs2
        rw [Array.setIfInBounds_comm _ _ hji]
        exact h3.2

def diesB (md : Region.Mode) (ops : Array Oper) (n : Nat) : List Nat → Array Bool → Bool
  | [], listed => decide (Region.ready md ops listed = [n])
  | k :: ks, listed => (Region.ready md ops listed).contains k && Region.free md ops listed k && decide (k ≠ n) && diesB md ops n ks (listed.setIfInBounds k true)

theorem wpAnyD_lex {n : Nat} (hsel : Region.noSelect ops = true) (hQ : ∀ (d : Option Tmp) (u : Value) (c : List PanicEntry) (a : Act), Q (.panic c) (a.put d u) w → Q (.panic c) a w) :
    ∀ (l : List Oper) (ks : List Nat) (listed : Array Bool) (a : Act), ks.map (fun k => ops[k]?) = l.map some →
    diesB md ops n ks listed = true → wpStill P ops w (DiesOp P ops w Q n) l a → wpAnyD P md ops w Q n l.length listed a
  | [], [], listed, a, _, hB, h => by
    have hB' : Region.ready md ops listed = [n] := by simpa [diesB] using hB
    have h' : DiesOp P ops w Q n a := h
    refine ⟨by rw [hB']; simp, fun i hi => ?_⟩
    rw [hB', List.mem_singleton] at hi
    exact ⟨hi, h'⟩
  | [], _ :: _, _, _, hm, _, _ => by simp at hm
  | _ :: _, [], _, _, hm, _, _ => by simp at hm
  | o :: l, k :: ks, listed, a, hm, hB, h => by
    simp only [List.map_cons, List.cons.injEq] at hm
    simp only [diesB, Bool.and_eq_true, decide_eq_true_eq] at hB
    obtain ⟨⟨⟨hr, hf⟩, hkn⟩, hB'⟩ := hB
    have hr' : k ∈ Region.ready md ops listed := by simpa using hr
    have hst : stOp P ops w k (wpStill P ops w (DiesOp P ops w Q n) l) a := by unfold stOp; simp only [hm.1]; exact h
    obtain ⟨v, hy, hK⟩ := yieldsAt_of_stOp hm.1 hst
    exact wpAnyD_first hm.1 hkn (Region.noSelect_spec hsel) hQ l.length listed a (Region.free_spec hm.1 hf) hr' hy (wpAnyD_lex hsel hQ l ks _ _ hm.2 hB' hK)

/-- The region dies at its operation n; ks: all that may come up ahead of it, in an order. -/
theorem wp_region_still_dies {id : Nat} {a : Act} {w : World} {l : List Oper} (n : Nat) (ks : List Nat) (pick : List Oper → List Oper) (hm : P.follows .mixedOrders = true) (hk : ks.map (fun k => l.toArray[k]?) = (pick l).map some)
    (hB : (decide (ks.length < l.length) && Region.noSelect l.toArray && diesB .any l.toArray n ks (Array.replicate l.toArray.size false)) = true)
    (hQ : ∀ (d : Option Tmp) (u : Value) (c : List PanicEntry) (a : Act), Q (.panic c) (a.put d u) w.drew → Q (.panic c) a w.drew)
    (h : wpStill P l.toArray w.drew (DiesOp P l.toArray w.drew Q n) (pick l) a) : (Code.region id l.toArray true).wp P Q a w := by
  simp only [Bool.and_eq_true, decide_eq_true_eq] at hB
  obtain ⟨⟨hn, hsel⟩, hB⟩ := hB
  have hl : (pick l).length = ks.length := by have := congrArg List.length hk; simpa using this.symm
  have H := wpAnyD_lex (md := .any) hsel hQ (pick l) ks _ a hk hB h
  refine wp_region_any hm ?_
  have := wpAny_of_dies (Q := Q) (g := l.toArray.size - ks.length - 1) _ _ _ H
  rw [hl, show ks.length + 1 + (l.toArray.size - ks.length - 1) = l.toArray.size by simp; omega] at this
  exact this
end

end Go.Proofs.Ytkkkephjljiplaa
