/- The laws of closures, in plain Lean: what DependsClosure asks. -/
import Derived.Test.YtejjggchjoifoaaDepR3
namespace Go.Proofs.Ytejjggchjoifoaa

theorem mem_listX {nf x : Nat} {f : Int} : f ∈ listX nf x ↔ 0 ≤ f ∧ f < nf ∧ x.testBit f.toNat = true := by
  unfold listX
  simp only [List.mem_map, List.mem_filter, List.mem_range]
  constructor
  · rintro ⟨i, ⟨h1, h2⟩, rfl⟩
    exact ⟨by omega, by omega, by simpa using h2⟩
  · rintro ⟨h1, h2, h3⟩
    exact ⟨f.toNat, ⟨by omega, h3⟩, by omega⟩

theorem subB_iff {a b : List Int} : subB a b = true ↔ ∀ f ∈ a, f ∈ b := by
  unfold subB
  simp only [List.all_eq_true, any_mem, decide_eq_true_eq]

theorem listX_inB (nf x : Nat) : (listX nf x).all (inB nf) = true := by
  rw [List.all_eq_true]
  intro f hf
  have := mem_listX.1 hf
  simp [inB, this.1, this.2.1]

theorem inB_iff {nf : Nat} {l : List Int} : l.all (inB nf) = true ↔ ∀ f ∈ l, 0 ≤ f ∧ f < (nf : Int) := by
  rw [List.all_eq_true]
  simp [inB]

theorem bitsL0 (l : List Int) (i : Nat) : (bitsL l 0).testBit i = true ↔ ∃ f ∈ l, f.toNat = i := by
  rw [bitsL_bit]
  simp

/-- A set closed under the dependencies, in terms of members. -/
theorem closed_of {nf : Nat} {ds : List Dep} (hd : ∀ d ∈ ds, okDep nf d) {x : Nat} (h : ∀ d ∈ ds, subB d.src (listX nf x) = true → (listX nf x).any (· == d.dst) = true) : Closed ds x := by
  intro d hdm hall
  have hok := hd d hdm
  have h1 : subB d.src (listX nf x) = true := by
    rw [subB_iff]
    intro f hf
    rw [List.all_eq_true] at hall
    exact mem_listX.2 ⟨(hok.1 f hf).1, (hok.1 f hf).2, hall f hf⟩
  have h2 := h d hdm h1
  rw [any_mem, decide_eq_true_eq] at h2
  exact (mem_listX.1 h2).2.2
theorem closed_to {nf : Nat} {ds : List Dep} (hd : ∀ d ∈ ds, okDep nf d) {x : Nat} (hc : Closed ds x) {d : Dep} (hdm : d ∈ ds) (h : subB d.src (listX nf x) = true) : (listX nf x).any (· == d.dst) = true := by
  have hok := hd d hdm
  rw [any_mem, decide_eq_true_eq]
  refine mem_listX.2 ⟨hok.2.1, hok.2.2, hc d hdm ?_⟩
  rw [List.all_eq_true]
  intro f hf
  exact (mem_listX.1 (subB_iff.1 h f hf)).2.2

section
variable {nf : Nat} {ds : List Dep} {l m : List Int}

theorem closOk_parts (h : closOk nf ds l = true) : nf ≤ 12 ∧ (∀ d ∈ ds, okDep nf d) ∧ ∀ f ∈ l, 0 ≤ f ∧ f < (nf : Int) := by
  unfold closOk at h
  rw [Bool.and_eq_true] at h
  exact ⟨(checkB_ok h.1).2.1, (checkB_ok h.1).2.2.2, inB_iff.1 h.2⟩
theorem clos_parts (h : closOk nf ds l = true) : bitsL l 0 < 4096 ∧ (∀ d ∈ ds, okDep 12 d) ∧ clos ds (bitsL l 0) < 4096 := by
  obtain ⟨h1, h2, h3⟩ := closOk_parts h
  have k1 : bitsL l 0 < 4096 := bitsL_lt (fun f hf => by have := h3 f hf; omega) (by omega)
  exact ⟨k1, fun d hd => okDep_12 h1 (h2 d hd), passN_lt (fun d hd => okDep_12 h1 (h2 d hd)) k1 _⟩
/-- The closure has bits of fields alone. -/
theorem clos_in (h : closOk nf ds l = true) {i : Nat} (hi : (clos ds (bitsL l 0)).testBit i = true) : i < nf := by
  obtain ⟨h1, h2, h3⟩ := closOk_parts h
  have hbit : ∀ j, (2 ^ nf - 1).testBit j = decide (j < nf) := fun j => Nat.testBit_two_pow_sub_one nf j
  have hc : Closed ds (2 ^ nf - 1) := by
    intro d hd _
    have := (h2 d hd).2
    rw [hbit]
    simp; omega
  have hs : Sub (bitsL l 0) (2 ^ nf - 1) := by
    intro j hj
    obtain ⟨f, hf, rfl⟩ := (bitsL0 l j).1 hj
    have := h3 f hf
    rw [hbit]
    simp; omega
  have := clos_least hc hs i hi
  rw [hbit] at this
  simpa using this

theorem clos_bad (h : closOk nf ds l = false ∨ closOk nf ds (l ++ m) = false) : closL nf ds (l ++ m) = [] := by
  apply closL_no
  rcases h with h | h
  · cases h2 : closOk nf ds (l ++ m)
    · rfl
    · unfold closOk at h h2
      rw [List.all_append] at h2
      cases h3 : checkB nf ds <;> cases h4 : l.all (inB nf) <;> simp_all
  · exact h

theorem clos_okL (h : closOk nf ds l = true) : closOk nf ds (closL nf ds l) = true := by
  rw [closL_yes h]
  unfold closOk at h ⊢
  rw [Bool.and_eq_true] at h ⊢
  exact ⟨h.1, listX_inB _ _⟩
theorem clos_again (h : closOk nf ds l = true) : closL nf ds (closL nf ds l) = closL nf ds l := by
  rw [closL_yes (clos_okL h), closL_yes h]
  obtain ⟨k1, k2, k3⟩ := clos_parts h
  have hb : bitsL (listX nf (clos ds (bitsL l 0))) 0 = clos ds (bitsL l 0) := by
    apply Nat.eq_of_testBit_eq
    intro i
    rw [Bool.eq_iff_iff, bitsL0]
    constructor
    · rintro ⟨f, hf, rfl⟩
      exact (mem_listX.1 hf).2.2
    · intro hi
      have := clos_in h hi
      exact ⟨(i : Int), mem_listX.2 ⟨by omega, by omega, by simpa using hi⟩, by simp⟩
  rw [hb, ← clos_of_fix k2 k3 (n := 0) ((pass_fix_iff _ _).2 (clos_closed k2 k1))]
  rfl
theorem clos_holds (h : closOk nf ds l = true) : subB l (closL nf ds l) = true := by
  rw [closL_yes h, subB_iff]
  intro f hf
  have h3 := (closOk_parts h).2.2 f hf
  exact mem_listX.2 ⟨h3.1, h3.2, clos_sub ds _ _ ((bitsL0 _ _).2 ⟨f, hf, rfl⟩)⟩
theorem clos_more (h : closOk nf ds l = true) (h2 : closOk nf ds (l ++ m) = true) : subB (closL nf ds l) (closL nf ds (l ++ m)) = true := by
  rw [closL_yes h, closL_yes h2, subB_iff]
  obtain ⟨k1, k2, k3⟩ := clos_parts h2
  intro f hf
  obtain ⟨a, b, c⟩ := mem_listX.1 hf
  refine mem_listX.2 ⟨a, b, clos_least (clos_closed k2 k1) ?_ _ c⟩
  intro i hi
  obtain ⟨g, hg, rfl⟩ := (bitsL0 _ _).1 hi
  exact clos_sub ds _ _ ((bitsL0 _ _).2 ⟨g, List.mem_append_left _ hg, rfl⟩)
theorem clos_dep (h : closOk nf ds l = true) {d : Dep} (hd : d ∈ ds) (hs : subB d.src (closL nf ds l) = true) : (closL nf ds l).any (· == d.dst) = true := by
  obtain ⟨k1, k2, k3⟩ := clos_parts h
  rw [closL_yes h] at hs ⊢
  exact closed_to (closOk_parts h).2.1 (clos_closed k2 k1) hd hs
theorem clos_min (h : closOk nf ds l = true) {x : Nat} (hc : ∀ d ∈ ds, subB d.src (listX nf x) = true → (listX nf x).any (· == d.dst) = true) (hs : subB l (listX nf x) = true) : subB (closL nf ds l) (listX nf x) = true := by
  have hcl := closed_of (closOk_parts h).2.1 hc
  rw [closL_yes h, subB_iff]
  intro f hf
  obtain ⟨a, b, c⟩ := mem_listX.1 hf
  refine mem_listX.2 ⟨a, b, clos_least hcl ?_ _ c⟩
  intro i hi
  obtain ⟨g, hg, rfl⟩ := (bitsL0 _ _).1 hi
  exact (mem_listX.1 (subB_iff.1 hs g hg)).2.2
theorem listX_sorted (n x : Nat) : (listX n x).Pairwise (· < ·) := by
  unfold listX
  rw [List.pairwise_map]
  exact (List.Pairwise.filter _ List.pairwise_lt_range).imp (fun h => by omega)
theorem clos_sorted (h : closOk nf ds l = true) : (closL nf ds l).Pairwise (· < ·) := by
  rw [closL_yes h]; exact listX_sorted _ _
theorem sorted_at {l : List Int} (h : l.Pairwise (· < ·)) {k : Nat} {a b : Int} (ha : l[k]? = some a) (hb : l[k + 1]? = some b) : a < b := by
  obtain ⟨h1, rfl⟩ := List.getElem?_eq_some_iff.1 ha
  obtain ⟨h2, rfl⟩ := List.getElem?_eq_some_iff.1 hb
  exact List.pairwise_iff_getElem.1 h k (k + 1) h1 h2 (by omega)
end

end Go.Proofs.Ytejjggchjoifoaa
