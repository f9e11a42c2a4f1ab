/- The laws of dependencies in plain Lean: what is implied is not broken, what is not implied can be broken, and what is added. -/
import Derived.Test.YtejjggchjoifoaaDepBrk
import Derived.Test.YtejjggchjoifoaaDepLawC
namespace Go.Proofs.Ytejjggchjoifoaa

/-- The fields in which two instances agree. -/
def agreeX (nf : Nat) (x y : Inst) : Nat := bitsL (((List.range nf).filter (fun i => x.getD i 0 == y.getD i 0)).map (fun i : Nat => (i : Int))) 0

theorem agreeX_bit {nf : Nat} {x y : Inst} {i : Nat} : (agreeX nf x y).testBit i = true ↔ i < nf ∧ x.getD i 0 = y.getD i 0 := by
  unfold agreeX
  rw [bitsL0]
  simp only [List.mem_map, List.mem_filter, List.mem_range, beq_iff_eq]
  constructor
  · rintro ⟨f, ⟨j, h, rfl⟩, rfl⟩
    simpa using h
  · intro h
    exact ⟨i, ⟨i, h, rfl⟩, by simp⟩

section
variable {nf : Nat} {ds : List Dep}

theorem breaksB_comm (x y : Inst) (d : Dep) : breaksB x y d = breaksB y x d := by
  rw [Bool.eq_iff_iff, breaksB_iff, breaksB_iff]
  exact ⟨fun ⟨h1, h2⟩ => ⟨fun f hf => (h1 f hf).symm, fun e => h2 e.symm⟩, fun ⟨h1, h2⟩ => ⟨fun f hf => (h1 f hf).symm, fun e => h2 e.symm⟩⟩

theorem agree_closed {x y : Inst} (hd : ∀ d ∈ ds, okDep nf d) (hno : ∀ d ∈ ds, breaksB x y d = false) : Closed ds (agreeX nf x y) := by
  intro d hdm hall
  rw [List.all_eq_true] at hall
  have hok := hd d hdm
  refine agreeX_bit.2 ⟨by have := hok.2; omega, ?_⟩
  apply Decidable.byContradiction
  intro hne
  have : breaksB x y d = true := breaksB_iff.2 ⟨fun f hf => (agreeX_bit.1 (hall f hf)).2, hne⟩
  rw [hno d hdm] at this
  cases this

/-- What is implied is not broken. -/
theorem sound_plain {l : List Inst} {d : Dep} (hb : ∀ x ∈ l, Bd x) (hk : brokenOk nf ds l = true) (h : (brokenS nf ds l).ok = false) (hv : validB nf d = true) (hi : impB ds d = true) {i j : Nat} (hji : j < i) (hil : i < l.length) : breaksB (instAt l i) (instAt l j) d = false := by
  have hno := (broken_no hb hk h).2 j i hji hil
  have hc : checkB nf ds = true := by unfold brokenOk at hk; rw [Bool.and_eq_true] at hk; exact hk.1
  have hcl := agree_closed (nf := nf) (checkB_ok hc).2.2.2 hno
  rw [breaksB_comm]
  cases hbr : breaksB (instAt l j) (instAt l i) d
  · rfl
  · obtain ⟨h1, h2⟩ := breaksB_iff.1 hbr
    have hok := validB_ok hv
    have hs : Sub (bitsL d.src 0) (agreeX nf (instAt l j) (instAt l i)) := by
      intro k hk
      obtain ⟨f, hf, rfl⟩ := (bitsL0 _ _).1 hk
      exact agreeX_bit.2 ⟨by have := hok.1 f hf; omega, h1 f hf⟩
    have := clos_least hcl hs d.dst.toNat hi
    exact absurd (agreeX_bit.1 this).2 h2

/-- Two instances that agree exactly on a list of fields. -/
def twoL (nf : Nat) (L : List Int) (v u : Int) : Inst := (List.range nf).map (fun i : Nat => if L.any (· == (i : Int)) then v else u)

theorem twoL_at {L : List Int} {v u : Int} {f : Int} (h0 : 0 ≤ f) (h1 : f < nf) : (twoL nf L v u).getD f.toNat 0 = if L.any (· == f) then v else u := by
  unfold twoL
  rw [List.getD_eq_getElem?_getD, List.getElem?_map, List.getElem?_range (by omega), Option.map_some, Option.getD_some, Int.toNat_of_nonneg h0]
theorem repl_at {v : Int} {f : Int} (h0 : 0 ≤ f) (h1 : f < nf) : (List.replicate nf v : Inst).getD f.toNat 0 = v := by
  rw [List.getD_eq_getElem?_getD, List.getElem?_replicate_of_lt (by omega), Option.getD_some]
theorem two_breaks {L : List Int} {v u : Int} (hvu : v ≠ u) {d : Dep} (hd : okDep nf d) : breaksB (List.replicate nf v) (twoL nf L v u) d = (subB d.src L && !L.any (· == d.dst)) := by
  rw [Bool.eq_iff_iff, breaksB_iff, Bool.and_eq_true]
  unfold subB
  rw [List.all_eq_true, repl_at hd.2.1 hd.2.2, twoL_at hd.2.1 hd.2.2]
  refine and_congr ⟨fun h f hf => ?_, fun h f hf => ?_⟩ ?_
  · have := h f hf
    rw [repl_at (hd.1 f hf).1 (hd.1 f hf).2, twoL_at (hd.1 f hf).1 (hd.1 f hf).2] at this
    cases hc : L.any (· == f)
    · rw [hc] at this
      exact absurd this hvu
    · rfl
  · rw [repl_at (hd.1 f hf).1 (hd.1 f hf).2, twoL_at (hd.1 f hf).1 (hd.1 f hf).2, h f hf]
    rfl
  · cases L.any (· == d.dst) <;> simp [hvu]

theorem complete_plain {v u : Int} (hvu : v ≠ u) (hv : -9223372036854775808 ≤ v ∧ v ≤ 9223372036854775807) (hu : -9223372036854775808 ≤ u ∧ u ≤ 9223372036854775807) {d : Dep} (hc : checkB nf ds = true) (hd : validB nf d = true) :
    brokenS nf ds [List.replicate nf v, twoL nf (closL nf ds d.src) v u] = ⟨0, 0, 0, false⟩ ∧ brokenOk nf ds [List.replicate nf v, twoL nf (closL nf ds d.src) v u] = true ∧
    breaksB (List.replicate nf v) (twoL nf (closL nf ds d.src) v u) d = !impB ds d := by
  have hok := validB_ok hd
  have hco := closOk_src hc hok
  have hlen : (twoL nf (closL nf ds d.src) v u).length = nf := by simp [twoL]
  have hbk : brokenOk nf ds [List.replicate nf v, twoL nf (closL nf ds d.src) v u] = true := by
    simp [brokenOk, hc, hlen]
  have hbd : ∀ x ∈ [List.replicate nf v, twoL nf (closL nf ds d.src) v u], Bd x := by
    intro x hx y hy
    simp only [List.mem_cons, List.not_mem_nil, or_false] at hx
    rcases hx with rfl | rfl
    · rw [(List.mem_replicate.1 hy).2]; exact hv
    · unfold twoL at hy
      rw [List.mem_map] at hy
      obtain ⟨i, _, rfl⟩ := hy
      split
      · exact hv
      · exact hu
  refine ⟨broken_none hbd hbk ?_, hbk, ?_⟩
  · intro a b hab hbl e he
    have ha : a = 0 := by simp at hbl; omega
    have hb : b = 1 := by simp at hbl; omega
    subst ha hb
    show breaksB (List.replicate nf v) (twoL nf (closL nf ds d.src) v u) e = false
    rw [two_breaks hvu ((checkB_ok hc).2.2.2 e he)]
    cases hs : subB e.src (closL nf ds d.src)
    · rfl
    · rw [clos_dep hco he hs]; rfl
  · rw [two_breaks hvu hok, clos_holds hco]
    have : (closL nf ds d.src).any (· == d.dst) = impB ds d := by
      rw [closL_yes hco, listX_any hok.2.1 hok.2.2]; rfl
    rw [this]; rfl

theorem added_check {d : Dep} (hc : checkB nf ds = true) (hd : validB nf d = true) (hl : ds.length < 12) : checkB nf (ds ++ [d]) = true := by
  obtain ⟨h1, h2, _, _⟩ := checkB_ok hc
  simp only [checkB, Bool.and_eq_true, decide_eq_true_eq] at hc ⊢
  refine ⟨⟨⟨h1, h2⟩, by simp; omega⟩, ?_⟩
  rw [List.all_append, hc.2]
  simp [hd]
theorem added_ok {d : Dep} {l : List Int} (hc : checkB nf ds = true) (hc2 : checkB nf (ds ++ [d]) = true) : closOk nf (ds ++ [d]) l = closOk nf ds l := by
  unfold closOk
  rw [hc, hc2]
theorem added_imp {d : Dep} (hc2 : checkB nf (ds ++ [d]) = true) (hd : validB nf d = true) : impB (ds ++ [d]) d = true := by
  have hco := closOk_src hc2 (validB_ok hd)
  obtain ⟨k1, k2, k3⟩ := clos_parts hco
  refine clos_closed k2 k1 d (by simp) ?_
  rw [List.all_eq_true]
  intro f hf
  exact clos_sub _ _ _ ((bitsL0 _ _).2 ⟨f, hf, rfl⟩)
theorem added_sub {d : Dep} {l : List Int} (h : closOk nf ds l = true) (h2 : closOk nf (ds ++ [d]) l = true) : subB (closL nf ds l) (closL nf (ds ++ [d]) l) = true := by
  rw [closL_yes h, closL_yes h2, subB_iff]
  obtain ⟨k1, k2, k3⟩ := clos_parts h2
  intro f hf
  obtain ⟨a, b, c⟩ := mem_listX.1 hf
  refine mem_listX.2 ⟨a, b, clos_least (fun e he => clos_closed k2 k1 e (List.mem_append_left _ he)) (clos_sub _ _) _ c⟩
theorem added_same {d : Dep} {l : List Int} (h : closOk nf ds l = true) (h2 : closOk nf (ds ++ [d]) l = true) (hi : impB ds d = true) : closL nf (ds ++ [d]) l = closL nf ds l := by
  rw [closL_yes h, closL_yes h2]
  obtain ⟨k1, k2, k3⟩ := clos_parts h
  obtain ⟨k1', k2', k3'⟩ := clos_parts h2
  suffices e : clos (ds ++ [d]) (bitsL l 0) = clos ds (bitsL l 0) by rw [e]
  apply Nat.eq_of_testBit_eq
  intro i
  rw [Bool.eq_iff_iff]
  constructor
  · intro hb
    refine clos_least ?_ (clos_sub ds _) i hb
    intro e he hall
    rcases List.mem_append.1 he with he | he
    · exact clos_closed k2 k1 e he hall
    · rw [List.mem_singleton.1 he] at hall ⊢
      rw [List.all_eq_true] at hall
      refine clos_least (clos_closed k2 k1) ?_ _ hi
      intro j hj
      obtain ⟨f, hf, rfl⟩ := (bitsL0 _ _).1 hj
      exact hall f hf
  · intro hb
    exact clos_least (fun e he => clos_closed k2' k1' e (List.mem_append_left _ he)) (clos_sub _ _) i hb
theorem added_no {d : Dep} {l : List Int} (h : closOk nf ds l = false) (h2 : closOk nf (ds ++ [d]) l = false) : closL nf (ds ++ [d]) l = closL nf ds l := by
  rw [closL_no h, closL_no h2]
end

end Go.Proofs.Ytejjggchjoifoaa
