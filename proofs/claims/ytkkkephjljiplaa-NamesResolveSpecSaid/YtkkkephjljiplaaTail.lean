/- A region that draws its order: some operations come whenever they like (they look at no memory), the others only read, then a tail in one order. For any program. -/
import Derived.Test.YtkkkephjljiplaaDies
namespace Go.Proofs.Ytkkkephjljiplaa
open Go.RowKit

section
variable {P : Program} {ops : Array Oper} {md : Region.Mode} {w : World} {Q : Exit → Act → World → Prop}

/-- Each operation ahead of n, but for those of E, is awaited by a later one up to n. -/
def sinkE (md : Region.Mode) (ops : Array Oper) (n : Nat) (E : List Nat) : Bool :=
  (List.range n).all fun i => E.contains i || (List.range (n + 1)).any fun j => decide (i < j) && !E.contains j && Region.waitsFor md ops j i
/-- Each operation behind n is awaited from the one before it. -/
def chainT (md : Region.Mode) (ops : Array Oper) (n : Nat) : Bool := (List.range ops.size).all fun t => decide (t ≤ n) || Region.waitsFor md ops t (t - 1)

structure HeadE (md : Region.Mode) (ops : Array Oper) (n : Nat) (E : List Nat) (listed : Array Bool) : Prop where
  size : listed.size = ops.size
  closed : ∀ (j : Nat) (oj : Oper), ops[j]? = some oj → listed.getD j false = true → ∀ e ∈ oj.after, Region.binds md e = true → listed.getD e.on false = true
  tail : ∀ t, n ≤ t → t < ops.size → listed.getD t true = false
  float : ∀ i ∈ E, listed.getD i false = true

theorem HeadE.set {n i : Nat} {E : List Nat} {listed : Array Bool} (inv : HeadE md ops n E listed) (hi : i ∈ Region.ready md ops listed) (hin : i < n) : HeadE md ops n E (listed.setIfInBounds i true) := by
  obtain ⟨_, oi, hoi, hall⟩ := mem_ready.1 hi
  refine ⟨by simp [inv.size], fun j oj hj hl e he hb => ?_, fun t ht ht' => by rw [getD_set_ne true (by omega)]; exact inv.tail t ht ht', fun k hk => getD_set_true (inv.float k hk)⟩
  by_cases hij : i = j
  · subst hij
    have : oj = oi := Option.some.inj (hj.symm.trans hoi)
    subst this
    exact getD_set_true (hall e he hb)
  · rw [getD_set_ne false hij] at hl
    exact getD_set_true (inv.closed j oj hj hl e he hb)

/-- If operation n may come up, all ahead of it has been. -/
theorem head_done {n : Nat} {E : List Nat} {listed : Array Bool} (hs : sinkE md ops n E = true) (inv : HeadE md ops n E listed) (hr : n ∈ Region.ready md ops listed) : ∀ d i, i + d = n → i < n → listed.getD i false = true := by
  obtain ⟨_, on, hon, hall⟩ := mem_ready.1 hr
  intro d
  induction d using Nat.strongRecOn with
  | _ d ih =>
    intro i hid hin
    unfold sinkE at hs
    have h1 := List.all_eq_true.1 hs i (List.mem_range.2 hin)
    rw [Bool.or_eq_true] at h1
    rcases h1 with h1 | h1
    · exact inv.float i (by simpa using h1)
    · obtain ⟨j, hj, hjw⟩ := List.any_eq_true.1 h1
      simp only [Bool.and_eq_true, decide_eq_true_eq] at hjw
      obtain ⟨⟨hij, _⟩, hw⟩ := hjw
      obtain ⟨oj, hoj, e, he, hb, heq⟩ := Region.waitsFor_spec hw
      have hjn : j ≤ n := by have := List.mem_range.1 hj; omega
      rcases Nat.lt_or_ge j n with hlt | hge
      · have := ih (n - j) (by omega) j (by omega) hlt
        rw [← heq]
        exact inv.closed j oj hoj this e he hb
      · have hj2 : j = n := by omega
        subst hj2
        have : oj = on := Option.some.inj (hoj.symm.trans hon)
        subst this
        rw [← heq]
        exact hall e he hb

theorem tail_wait {n i : Nat} {E : List Nat} {listed : Array Bool} (hs : sinkE md ops n E = true) (hc : chainT md ops n = true) (inv : HeadE md ops n E listed) (hin : i < n) (hun : listed.getD i true = false) {j : Nat} (hj : j ∈ Region.ready md ops listed) : j < n := by
  rcases Nat.lt_or_ge j n with h | h
  · exact h
  · exfalso
    obtain ⟨hjun, oj, hoj, hall⟩ := mem_ready.1 hj
    rcases Nat.eq_or_lt_of_le h with e | hlt
    · subst e
      have := head_done hs inv hj (n - i) i (by omega) hin
      rw [getD_both hun] at this
      cases this
    · have hjs : j < ops.size := (Array.getElem?_eq_some_iff.1 hoj).1
      unfold chainT at hc
      have h1 := List.all_eq_true.1 hc j (List.mem_range.2 hjs)
      rw [Bool.or_eq_true, decide_eq_true_eq] at h1
      rcases h1 with h1 | h1
      · omega
      · obtain ⟨o', ho', e, he, hb, heq⟩ := Region.waitsFor_spec h1
        have : o' = oj := Option.some.inj (ho'.symm.trans hoj)
        subst this
        have h2 := hall e he hb
        rw [heq, getD_both (inv.tail (j - 1) (by omega) (by omega))] at h2
        cases h2

theorem wpAnyE_first {n i : Nat} {E : List Nat} {oi : Oper} {v : Value} {L : Array Bool → Act → Prop} (hi : ops[i]? = some oi) (hsel : ∀ (j : Nat) (o : Oper) cs b, ops[j]? = some o → o.op ≠ .select cs b)
    (hs : sinkE md ops n E = true) (hc : chainT md ops n = true) (hin : i < n) (hdone : ∀ listed a, L listed a → ∀ j ∈ Region.ready md ops listed, n ≤ j) :
    ∀ (f : Nat) (listed : Array Bool) (a : Act), HeadE md ops n E listed →
      (∀ j oj, ops[j]? = some oj → j ≠ i → listed.getD j true = false → (∀ e ∈ oj.after, Region.binds md e = true → e.on ≠ i) → oi.apart ops oj = true) →
      i ∈ Region.ready md ops listed → YieldsAt P ops w oi v a →
      wpAnyL P md ops w n L f (listed.setIfInBounds i true) (a.put oi.dst v) → wpAnyL P md ops w n L (f + 1) listed a := by
  intro f
  induction f with
  | zero =>
    intro listed a inv _ hr hy H
    have hun := (mem_ready.1 hr).1
    refine ⟨fun h => (by rw [h] at hr; cases hr), fun j hj => ?_⟩
    have hjn := tail_wait hs hc inv hin hun hj
    refine ⟨hjn, ?_⟩
    by_cases hji : j = i
    · subst hji; exact hy.stOp hi H
    · have := hdone _ _ H j (ready_mono hj hji)
      omega
  | succ f ih =>
    intro listed a inv hfree hr hy H
    have hun := (mem_ready.1 hr).1
    refine ⟨fun h => (by rw [h] at hr; cases hr), fun j hj => ?_⟩
    have hjn := tail_wait hs hc inv hin hun hj
    refine ⟨hjn, ?_⟩
    by_cases hji : j = i
    · subst hji; exact hy.stOp hi H
    · have h1 := (H.2 j (ready_mono hj hji)).2
      obtain ⟨hjun, oj, hoj, hall⟩ := mem_ready.1 hj
      have hnot : ∀ e ∈ oj.after, Region.binds md e = true → e.on ≠ i := fun e he hb heq => by
        have h2 := hall e he hb
        rw [heq, getD_both hun] at h2
        cases h2
      have hs2 := stOp_put hoj (hfree j oj hoj hji hjun hnot) (fun cs b => hsel i oi cs b hi) (fun cs b => hsel j oj cs b hoj) hy h1
      refine stOp_mono (fun a' h3 => ih (listed.setIfInBounds j true) a' (inv.set hj hjn) (fun k ok hk hki hun' hno => ?_) (ready_mono hr (Ne.symm hji)) h3.1 ?_) hs2
      · refine hfree k ok hk hki ?_ hno
        by_cases hjk : j = k
        · subst hjk; exact hjun
        · rw [getD_set_ne true hjk] at hun'; exact hun'
      · rw [Array.setIfInBounds_comm _ _ hji]
        exact h3.2

/-- The head's operations, each with its number. -/
def floatB (md : Region.Mode) (ops : Array Oper) (g n : Nat) : List Nat → Array Bool → Bool
  | [], listed => Region.seqB md ops g n listed
  | k :: ks, listed => (Region.ready md ops listed).contains k && Region.free md ops listed k && decide (k < n) && floatB md ops g n ks (listed.setIfInBounds k true)

theorem wpAnyE_lex {n g : Nat} {E : List Nat} {Lq : Act → Prop} (hsel : Region.noSelect ops = true) (hs : sinkE md ops n E = true) (hc : chainT md ops n = true) :
    ∀ (l : List Oper) (ks : List Nat) (listed : Array Bool) (a : Act), ks.map (fun k => ops[k]?) = l.map some → HeadE md ops n E listed → floatB md ops g n ks listed = true → wpStill P ops w Lq l a →
    wpAnyL P md ops w n (fun listed' a' => Region.seqB md ops g n listed' = true ∧ Lq a') l.length listed a
  | [], [], listed, a, _, _, hB, h => ⟨hB, h⟩
  | [], _ :: _, _, _, hm, _, _, _ => by simp at hm
  | _ :: _, [], _, _, hm, _, _, _ => by simp at hm
  | o :: l, k :: ks, listed, a, hm, inv, hB, h => by
    simp only [List.map_cons, List.cons.injEq] at hm
    simp only [floatB, Bool.and_eq_true, decide_eq_true_eq] at hB
    obtain ⟨⟨⟨hr, hf⟩, hkn⟩, hB'⟩ := hB
    have hr' : k ∈ Region.ready md ops listed := by simpa using hr
    have hst : stOp P ops w k (wpStill P ops w Lq l) a := by unfold stOp; simp only [hm.1]; exact h
    obtain ⟨v, hy, hK⟩ := yieldsAt_of_stOp hm.1 hst
    exact wpAnyE_first hm.1 (Region.noSelect_spec hsel) hs hc hkn (fun listed' a' hL => seqB_ready hL.1) l.length listed a inv (Region.free_spec hm.1 hf) hr' hy
      (wpAnyE_lex hsel hs hc l ks _ _ hm.2 (inv.set hr' hkn) hB' hK)

/-- With the floating operations done: the rest of the head, read in the order ks, then the tail. -/
theorem wpAny_float {n : Nat} {E : List Nat} {a : Act} {w : World} {hd tl : List Oper} {listed : Array Bool} {fuel : Nat} (ks : List Nat) (hk : ks.map (fun k => ops[k]?) = hd.map some) (htl : ∀ j, tl[j]? = ops[n + j]?)
    (hB : (Region.noSelect ops && sinkE md ops n E && chainT md ops n && floatB md ops tl.length n ks listed) = true) (inv : HeadE md ops n E listed) (hf : fuel = ks.length + tl.length)
    (h : wpStill P ops w (fun a' => wpList P ops Q tl a' w) hd a) : wpAny P md ops Q fuel listed a w := by
  simp only [Bool.and_eq_true] at hB
  obtain ⟨⟨⟨hsel, hs⟩, hc⟩, hlex⟩ := hB
  have H := wpAnyE_lex (g := tl.length) hsel hs hc hd ks listed a hk inv hlex h
  have hl : hd.length = ks.length := by have := congrArg List.length hk; simpa using this.symm
  have := wpAny_of_head (Q' := Q) (g := tl.length) (fun listed' a' hL => wpAny_of_seq (Q' := Q) tl n listed' a' w htl hL.1 hL.2) _ _ _ H
  rw [hf, ← hl]
  exact this

/-- One floating operation (a move): taken first. -/
theorem wp_region_float {id : Nat} {a : Act} {w : World} {l : List Oper} (n i : Nat) (oi : Oper) (v : Value) (ks : List Nat) (pick : List Oper → List Oper) (hm : P.follows .mixedOrders = true) (hi : l.toArray[i]? = some oi) (hin : i < n) (hnl : n ≤ l.length) (hks : ks.length + 1 = n)
    (haf : oi.after.all (fun e => !Region.binds .any e) = true) (hsel : Region.noSelect l.toArray = true) (hfr : Region.free .any l.toArray (Array.replicate l.toArray.size false) i = true) (hrd : (Region.ready .any l.toArray (Array.replicate l.toArray.size false)).contains i = true)
    (hQ : ∀ c a w, Q (.panic c) (a.put oi.dst v) w → Q (.panic c) a w) (hy : Yields P l.toArray oi v a) (hk : ks.map (fun k => l.toArray[k]?) = (pick l).map some)
    (hB : (Region.noSelect l.toArray && sinkE .any l.toArray n [i] && chainT .any l.toArray n && floatB .any l.toArray (l.length - n) n ks ((Array.replicate l.toArray.size false).setIfInBounds i true)) = true)
    (h : wpStill P l.toArray w.drew (fun a' => wpList P l.toArray Q (l.drop n) a' w.drew) (pick l) (a.put oi.dst v)) : (Code.region id l.toArray true).wp P Q a w := by
  refine wp_region_any hm ?_
  have hil : i < l.length := by omega
  have hsz : l.toArray.size = (l.length - 1) + 1 := by simp; omega
  have hmain : wpAny P .any l.toArray Q (l.length - 1) ((Array.replicate l.toArray.size false).setIfInBounds i true) (a.put oi.dst v) w.drew := by
    refine wpAny_float (n := n) (E := [i]) (tl := l.drop n) ks hk (fun j => by simp [List.getElem?_drop]) (by rw [List.length_drop]; exact hB) ⟨by simp, ?_, ?_, ?_⟩ (by rw [List.length_drop]; omega) h
    · intro j oj hj hl e he hb
      by_cases hij : i = j
      · subst hij
        have : oj = oi := Option.some.inj (hj.symm.trans hi)
        subst this
        have := Array.all_eq_true'.1 haf e he
        rw [hb] at this
        cases this
      · rw [getD_set_ne false hij, getD_replicate_false] at hl
        cases hl
    · intro t ht hts
      rw [getD_set_ne true (by omega)]
      exact getD_in (by simpa using hts) (getD_replicate_false _ _)
    · intro k hk
      rw [List.mem_singleton] at hk
      subst hk
      simp [Array.getD_eq_getD_getElem?, hil]
  have := wpAny_take (md := .any) (fuel := l.length - 1) (w := w.drew) hi hsel hfr hrd hQ hy hmain
  rw [← hsz] at this
  exact this
end

end Go.Proofs.Ytkkkephjljiplaa
