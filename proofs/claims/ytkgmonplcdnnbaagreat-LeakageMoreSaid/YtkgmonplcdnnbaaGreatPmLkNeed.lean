/- Regions that draw their order: a condition on the world that holds till one operation comes up (what an earlier operation of the region reads, and this one overwrites). No program. -/
import Derived.OrdersHeld
import Derived.StillTail
import Derived.Deep.RegionHeld
import Derived.RowKit
namespace Go.Proofs.YtkgmonplcdnnbaaGreat
open Go.RowKit
section
variable {P : Program} {ops : Array Oper} {Q : Exit → Act → World → Prop} {md : Region.Mode} {S : World → Prop} {t : Nat}
def Till (S : World → Prop) (t : Nat) (listed : Array Bool) (w : World) : Prop := listed.getD t false = false → S w
def wpAnyN (P : Program) (md : Region.Mode) (ops : Array Oper) (Q : Exit → Act → World → Prop) (S : World → Prop) (t : Nat) : Nat → Array Bool → Act → World → Prop
 | 0, listed, a, w => Region.ready md ops listed = [] ∧ Q .normal a w
 |
  fuel + 1, listed, a, w =>
  (Region.ready md ops listed = [] → Q .normal a w) ∧
  ∀ i ∈ Region.ready md ops listed, wpOp P ops Q i (fun a' w' => Till S t (listed.setIfInBounds i true) w' ∧ wpAnyN P md ops Q S t fuel (listed.setIfInBounds i true) a' w') a w
theorem wpAny_of_till : ∀ (fuel : Nat) (listed : Array Bool) (a : Act) (w : World), wpAnyN P md ops Q S t fuel listed a w → wpAny P md ops Q fuel listed a w
 | 0, _, _, _, h => h
 | fuel + 1, _, _, _, h => ⟨h.1, fun i hi => wpOp_mono (fun a' w' h' => wpAny_of_till fuel _ a' w' h'.2) (h.2 i hi)⟩
theorem ready_lt {i : Nat} {listed : Array Bool} (h : i ∈ Region.ready md ops listed) : i < ops.size := by
 obtain ⟨_, o, ho, _⟩ := mem_ready.1 h
 exact (Array.getElem?_eq_some_iff.1 ho).1
theorem wpAnyN_first {S0 : World → Prop} {i : Nat} {oi : Oper} {v : Value} (hi : ops[i]? = some oi) (hsel : ∀ (j : Nat) (o : Oper) cs b, ops[j]? = some o → o.op ≠ .select cs b)
 (hQ : ∀ c a w, Q (.panic c) (a.put oi.dst v) w → Q (.panic c) a w) (hti : t ≠ i)
 (hS0 : ∀ (listed : Array Bool) (w : World), HeadInv md ops ops.size listed → listed.getD i false = false → Till S t listed w → S0 w) :
 ∀ (fuel : Nat) (listed : Array Bool) (a : Act) (w : World), HeadInv md ops ops.size listed →
  (∀ j oj, ops[j]? = some oj → j ≠ i → listed.getD j true = false → (∀ e ∈ oj.after, Region.binds md e = true → e.on ≠ i) → oi.apart ops oj = true) →
  i ∈ Region.ready md ops listed → YieldsIf P ops S0 oi v a → Till S t listed w →
  wpAnyN P md ops Q S t fuel (listed.setIfInBounds i true) (a.put oi.dst v) w → wpAnyN P md ops Q S t (fuel + 1) listed a w := by
 intro fuel
 induction fuel with
 |
  zero =>
  intro listed a w inv _ hr hy hT H
  have hun := getD_both (mem_ready.1 hr).1
  refine ⟨fun h => (by rw [h] at hr; cases hr), fun j hj => ?_⟩
  by_cases hji : j = i
  ·
   subst hji
   exact hy.wpOp hi (hS0 _ _ inv hun hT) ⟨fun h => hT (by rw [getD_set_ne false (Ne.symm hti)] at h; exact h), H⟩
  ·
   have := ready_mono hj hji
   rw [H.1] at this
   cases this
 |
  succ fuel ih =>
  intro listed a w inv hfree hr hy hT H
  have hun := getD_both (mem_ready.1 hr).1
  refine ⟨fun h => (by rw [h] at hr; cases hr), fun j hj => ?_⟩
  by_cases hji : j = i
  ·
   subst hji
   exact hy.wpOp hi (hS0 _ _ inv hun hT) ⟨fun h => hT (by rw [getD_set_ne false (Ne.symm hti)] at h; exact h), H⟩
  ·
   have h1 := H.2 j (ready_mono hj hji)
   obtain ⟨hjun, oj, hoj, hall⟩ := mem_ready.1 hj
   have hnot : ∀ e ∈ oj.after, Region.binds md e = true → e.on ≠ i := fun e he hb heq => by
    have h1 := hall e he hb
    rw [heq, hun] at h1
    cases h1
   have h2 := wpOp_putIf hoj (hfree j oj hoj hji hjun hnot) (fun cs b => hsel i oi cs b hi) (fun cs b => hsel j oj cs b hoj) hQ hy h1
   have hfree' : ∀ k ok, ops[k]? = some ok → k ≠ i → (listed.setIfInBounds j true).getD k true = false →
    (∀ e ∈ ok.after, Region.binds md e = true → e.on ≠ i) → oi.apart ops ok = true := fun k ok hk hki hun hno => by
    refine hfree k ok hk hki ?_ hno
    by_cases hjk : j = k
    · subst hjk; exact hjun
    · rw [getD_set_ne true hjk] at hun; exact hun
   have inv' := inv.set hj (ready_lt hj)
   refine wpOp_mono (fun a' w' h3 => ?_) h2
   have hT' : Till S t (listed.setIfInBounds j true) w' := fun h => h3.2.1 (by
    rw [Array.setIfInBounds_comm _ _ (Ne.symm hji), getD_set_ne false (Ne.symm hti)]
    exact h)
   refine ⟨hT', ih (listed.setIfInBounds j true) a' w' inv' hfree' (ready_mono hr (Ne.symm hji)) h3.1 hT' ?_⟩
   rw [Array.setIfInBounds_comm _ _ hji]
   exact h3.2.2
def pathB (md : Region.Mode) (ops : Array Oper) : List Nat → Bool
 | a :: b :: l => Region.waitsFor md ops a b && pathB md ops (b :: l)
 | _ => true
theorem path_listed {listed : Array Bool} (inv : HeadInv md ops ops.size listed) : ∀ (l : List Nat) (a b : Nat), pathB md ops (a :: l) = true → (a :: l).getLast? = some b → listed.getD a false = true → listed.getD b false = true
 |
  [], a, b, _, hb, h => by
  simp only [List.getLast?_singleton, Option.some.injEq] at hb
  exact hb ▸ h
 |
  c :: l, a, b, hp, hb, h => by
  simp only [pathB, Bool.and_eq_true] at hp
  obtain ⟨oa, hoa, e, he, hbi, hon⟩ := Region.waitsFor_spec hp.1
  refine path_listed inv l c b hp.2 (by rw [← hb]; simp) ?_
  rw [← hon]
  exact inv.closed a oa hoa h e he hbi
def closedB (md : Region.Mode) (ops : Array Oper) (listed : Array Bool) : Bool :=
 decide (listed.size = ops.size) && (List.range ops.size).all fun j => !listed.getD j false || ((ops[j]?).map (·.after.all fun e => !Region.binds md e || listed.getD e.on false)).getD true
theorem closed_inv {listed : Array Bool} (h : closedB md ops listed = true) : HeadInv md ops ops.size listed := by
 simp only [closedB, Bool.and_eq_true, decide_eq_true_eq, List.all_eq_true, List.mem_range] at h
 refine ⟨h.1, fun j oj hj hl e he hb => ?_, fun t h1 h2 => by omega⟩
 have hlt : j < ops.size := (Array.getElem?_eq_some_iff.1 hj).1
 have h1 := h.2 j hlt
 rw [hl, hj] at h1
 simp only [Bool.not_true, Bool.false_or, Option.map_some, Option.getD_some] at h1
 have h2 := Array.all_eq_true_iff_forall_mem.1 h1 e he
 rw [hb] at h2
 simpa using h2
theorem wpAnyN_take {i : Nat} {oi : Oper} {v : Value} {fuel : Nat} {listed : Array Bool} {a : Act} {w : World} (path : List Nat) (hi : ops[i]? = some oi)
 (hs : Region.noSelect ops = true) (hf : Region.free md ops listed i = true) (hr : (Region.ready md ops listed).contains i = true) (hc : closedB md ops listed = true)
 (hp : (pathB md ops (t :: path) && decide ((t :: path).getLast? = some i) && decide (t ≠ i)) = true)
 (hQ : ∀ c a w, Q (.panic c) (a.put oi.dst v) w → Q (.panic c) a w) (hy : YieldsIf P ops S oi v a) (hT : Till S t listed w)
 (h : wpAnyN P md ops Q S t fuel (listed.setIfInBounds i true) (a.put oi.dst v) w) : wpAnyN P md ops Q S t (fuel + 1) listed a w := by
 simp only [Bool.and_eq_true, decide_eq_true_eq] at hp
 refine wpAnyN_first (S0 := S) hi (Region.noSelect_spec hs) hQ hp.2 (fun L W inv hun hT => hT ?_) fuel listed a w (closed_inv hc) (Region.free_spec hi hf) (by simpa using hr) hy hT h
 cases hl : L.getD t false with
 | false => rfl
 |
  true =>
  have := path_listed inv path t i hp.1.1 hp.1.2 hl
  rw [hun] at this
  cases this
theorem wpAnyN_pure {i : Nat} {oi : Oper} {v : Value} {fuel : Nat} {listed : Array Bool} {a : Act} {w : World} (hi : ops[i]? = some oi)
 (hs : Region.noSelect ops = true) (hf : Region.free md ops listed i = true) (hr : (Region.ready md ops listed).contains i = true) (hc : closedB md ops listed = true) (hti : t ≠ i)
 (hQ : ∀ c a w, Q (.panic c) (a.put oi.dst v) w → Q (.panic c) a w) (hy : YieldsIf P ops (fun _ => True) oi v a) (hT : Till S t listed w)
 (h : wpAnyN P md ops Q S t fuel (listed.setIfInBounds i true) (a.put oi.dst v) w) : wpAnyN P md ops Q S t (fuel + 1) listed a w :=
 wpAnyN_first (S0 := fun _ => True) hi (Region.noSelect_spec hs) hQ hti (fun _ _ _ _ _ => trivial) fuel listed a w (closed_inv hc) (Region.free_spec hi hf) (by simpa using hr) hy hT h
def AllReadyN (P : Program) (md : Region.Mode) (ops : Array Oper) (Q : Exit → Act → World → Prop) (S : World → Prop) (t fuel : Nat) (listed : Array Bool) (a : Act) (w : World) (rs : List Nat) : Prop :=
 ∀ i ∈ rs, wpOp P ops Q i (fun a' w' => Till S t (listed.setIfInBounds i true) w' ∧ wpAnyN P md ops Q S t fuel (listed.setIfInBounds i true) a' w') a w
theorem AllReadyN.nil {fuel : Nat} {listed : Array Bool} {a : Act} {w : World} : AllReadyN P md ops Q S t fuel listed a w [] := fun _ h => by cases h
theorem wpAnyN_ready {rs : List Nat} {fuel : Nat} {listed : Array Bool} {a : Act} {w : World} (hr : Region.ready md ops listed = rs) (hne : rs ≠ [])
 (h : AllReadyN P md ops Q S t fuel listed a w rs) : wpAnyN P md ops Q S t (fuel + 1) listed a w := ⟨fun h0 => absurd (hr ▸ h0) hne, hr ▸ h⟩
theorem wpAnyN_done {listed : Array Bool} {a : Act} {w : World} (hr : Region.ready md ops listed = []) (h : Q .normal a w) : ∀ fuel, wpAnyN P md ops Q S t fuel listed a w
 | 0 => ⟨hr, h⟩
 | _ + 1 => ⟨fun _ => h, by rw [hr]; simp⟩
theorem wp_region_till {id : Nat} {a : Act} {w : World} (S : World → Prop) (t n : Nat) (L : Array Bool) (hm : P.follows .mixedOrders = true) (hn : ops.size = n) (hL : Array.replicate n false = L) (h : wpAnyN P .any ops Q S t n L a w.drew) : (Code.region id ops true).wp P Q a w := by
 subst hn hL
 exact wp_region_any hm (wpAny_of_till _ _ _ _ h)
theorem needLoad {fuel : Nat} {listed : Array Bool} {a : Act} {w : World} (i : Nat) (path : List Nat)
 (hB : (Region.noSelect ops && Region.free md ops listed i && (Region.ready md ops listed).contains i && closedB md ops listed && (pathB md ops (t :: path) && decide ((t :: path).getLast? = some i) && decide (t ≠ i))) = true) (hS : S w)
 (h : ∀ oi, ops[i]? = some oi → ∃ v, (∀ c a w, Q (.panic c) (a.put oi.dst v) w → Q (.panic c) a w) ∧ YieldsIf P ops S oi v a ∧ wpAnyN P md ops Q S t fuel (listed.setIfInBounds i true) (a.put oi.dst v) w) : wpAnyN P md ops Q S t (fuel + 1) listed a w := by
 simp only [Bool.and_eq_true] at hB
 obtain ⟨⟨⟨⟨h1, h2⟩, h3⟩, h4⟩, h5⟩ := hB
 have hr : i ∈ Region.ready md ops listed := by simpa using h3
 obtain ⟨_, oi, hoi, _⟩ := mem_ready.1 hr
 obtain ⟨v, hQ, hy, hn⟩ := h oi hoi
 exact wpAnyN_take path hoi h1 h2 h3 h4 (by simpa using h5) hQ hy (fun _ => hS) hn
theorem needPure {fuel : Nat} {listed : Array Bool} {a : Act} {w : World} (i : Nat)
 (hB : (Region.noSelect ops && Region.free md ops listed i && (Region.ready md ops listed).contains i && closedB md ops listed && decide (t ≠ i)) = true) (hT : Till S t listed w)
 (h : ∀ oi, ops[i]? = some oi → ∃ v, (∀ c a w, Q (.panic c) (a.put oi.dst v) w → Q (.panic c) a w) ∧ YieldsIf P ops (fun _ => True) oi v a ∧ wpAnyN P md ops Q S t fuel (listed.setIfInBounds i true) (a.put oi.dst v) w) : wpAnyN P md ops Q S t (fuel + 1) listed a w := by
 simp only [Bool.and_eq_true, decide_eq_true_eq] at hB
 obtain ⟨⟨⟨⟨h1, h2⟩, h3⟩, h4⟩, h5⟩ := hB
 have hr : i ∈ Region.ready md ops listed := by simpa using h3
 obtain ⟨_, oi, hoi, _⟩ := mem_ready.1 hr
 obtain ⟨v, hQ, hy, hn⟩ := h oi hoi
 exact wpAnyN_pure hoi h1 h2 h3 h4 h5 hQ hy hT hn
theorem AllReadyN.cons {fuel : Nat} {listed : Array Bool} {a : Act} {w : World} {i : Nat} {rs : List Nat} (hlt : (ops[i]?).isSome = true)
 (h : ∀ o, ops[i]? = some o → ∀ K' : Act → World → Prop, Shut (∀ a w, Till S t (listed.setIfInBounds i true) w → wpAnyN P md ops Q S t fuel (listed.setIfInBounds i true) a w → K' a w) → if Region.wanted o (yielded ops a.tmps) = true then Oper.wp P o a w K' Q else K' (a.put o.dst undef) w)
 (hs : AllReadyN P md ops Q S t fuel listed a w rs) : AllReadyN P md ops Q S t fuel listed a w (i :: rs) := fun j hj => by
 obtain ⟨o, ho⟩ := Option.isSome_iff_exists.1 hlt
 rcases List.mem_cons.1 hj with rfl | hj
 · exact wpOp_step ho (fun K' hK => h o ho K' (fun a w hT hW => hK a w ⟨hT, hW⟩))
 · exact hs j hj
theorem Till.past {listed : Array Bool} {w : World} (h : listed.getD t false = true) : Till S t listed w := fun h' => by rw [h] at h'; cases h'
theorem Till.of {listed : Array Bool} {w : World} (h : S w) : Till S t listed w := fun _ => h
end
end Go.Proofs.YtkgmonplcdnnbaaGreat
