/- Plain: bases and scales of resolved units. -/
import Derived.Test.YtkkkephjljiplaaNmResP
namespace Go.Proofs.Ytkkkephjljiplaa
open Go.RowKit

/-- What a resolved unit says of itself. -/
def UnitOk (names : List ByteArray) (out : List QUnit) (i : Nat) (u : QUnit) : Prop :=
  (u.of_ = noStr ∧ u.base = (i : Int) ∧ u.scale = 1) ∨ (u.of_ ≠ noStr ∧ ∃ n b, idx names u.of_ = some n ∧ n < i ∧ out[n]? = some b ∧ u.base = b.base ∧ u.scale = scaleOf u b)
theorem unitsTo_ok {names : List ByteArray} {us : List QUnit} : ∀ {k : Nat} {out : List QUnit}, k ≤ us.length → unitsTo names us k = some out → ∀ i u, out[i]? = some u → (∃ u0, us[i]? = some u0 ∧ u.name = u0.name) ∧ UnitOk names out i u
  | 0, out, _, h => by rw [unitsTo, Option.some.injEq] at h; subst h; intro i u hi; simp at hi
  | k + 1, out, hk, h => by
    have hu : us[k]? = some us[k] := List.getElem?_eq_getElem hk
    cases ho : unitsTo names us k with
    | none => rw [unitsTo, ho] at h; cases h
    | some o =>
      rw [unitsTo_succ ho hu] at h
      have ih := unitsTo_ok (by omega) ho
      have hlen := unitsTo_len (by omega) ho
      have old : ∀ (x : QUnit) i u, o[i]? = some u → UnitOk names (o ++ [x]) i u := fun x i u hi => by
        rcases (ih i u hi).2 with h1 | ⟨h1, n, b, h2, h3, h4, h5⟩
        · exact .inl h1
        · exact .inr ⟨h1, n, b, h2, h3, by rw [List.getElem?_append_left (List.getElem?_eq_some_iff.1 h4).1]; exact h4, h5⟩
      have key : ∀ x : QUnit, out = o ++ [x] → x.name = us[k].name → UnitOk names (o ++ [x]) k x → ∀ i u, out[i]? = some u → (∃ u0, us[i]? = some u0 ∧ u.name = u0.name) ∧ UnitOk names out i u := fun x e hn hx i u hi => by
        subst e
        rcases Nat.lt_or_ge i o.length with hlt | hge
        · rw [List.getElem?_append_left hlt] at hi
          exact ⟨(ih i u hi).1, old x i u hi⟩
        · rw [List.getElem?_append_right hge] at hi
          have e : i = k := by
            have := (List.getElem?_eq_some_iff.1 hi).1
            simp at this
            omega
          subst e
          rw [hlen, Nat.sub_self] at hi
          simp only [List.getElem?_cons_zero, Option.some.injEq] at hi
          subst hi
          exact ⟨⟨us[i], hu, hn⟩, hx⟩
      unfold unitStep at h
      split at h
      · rename_i hz
        exact key _ (Option.some.inj h).symm rfl (.inl ⟨hz, by simp [hlen], rfl⟩)
      · rename_i hz
        split at h
        · cases h
        · rename_i n hn
          split at h
          · cases h
          · rename_i b hb
            have hnk := (List.getElem?_eq_some_iff.1 hb).1
            exact key _ (Option.some.inj h).symm rfl (.inr ⟨hz, n, b, hn, by omega, by rw [List.getElem?_append_left hnk]; exact hb, rfl, rfl⟩)

/-- The names of distinct definitions. -/
theorem once_of {l : List ByteArray} (h : twiceB l = false) {i j : Nat} {x : ByteArray} (hi : l[i]? = some x) (hj : l[j]? = some x) : i = j := by
  have hn : l.Nodup := by
    have := (colN_twice l l.length (Nat.le_refl _)).1 h
    rwa [List.take_length] at this
  have h1 := (List.getElem?_eq_some_iff.1 hi)
  have h2 := (List.getElem?_eq_some_iff.1 hj)
  obtain ⟨a, ha⟩ := h1
  obtain ⟨b, hb⟩ := h2
  exact (List.getElem_inj hn).1 (ha.trans hb.symm)
theorem idx_at {l : List ByteArray} {x : ByteArray} {n : Nat} (h : idx l x = some n) : l[n]? = some x := by
  unfold idx at h
  rw [List.findIdx?_eq_some_iff_getElem] at h
  obtain ⟨hl, hp, _⟩ := h
  rw [List.getElem?_eq_getElem hl]
  simpa using hp

/-- On the way from a unit to its base. -/
def Way (Si : Int) (good : Bool) (p S : Int) : Prop :=
  1 ≤ p ∧ p ≤ 1099511627776 ∧ (good = true → Si = if 1 ≤ S ∧ p * S ≤ 1099511627776 then p * S else 0) ∧ (good = false → Si = 0)
theorem way_start {S : Int} (h0 : 0 ≤ S) (h1 : S ≤ 1099511627776) : Way S true 1 S := by
  refine ⟨by omega, by omega, fun _ => ?_, fun h => by cases h⟩
  rw [Int.one_mul]
  split <;> omega
theorem way_step {Si p : Int} {good : Bool} {u b : QUnit} (h : Way Si good p u.scale) (hs : u.scale = scaleOf u b) (hb : 0 ≤ b.scale) :
    (good = true ∧ 2 ≤ u.factor ∧ u.factor ≤ 1000 ∧ u.factor * p ≤ 1099511627776 → Way Si true (u.factor * p) b.scale) ∧
    (¬ (good = true ∧ 2 ≤ u.factor ∧ u.factor ≤ 1000 ∧ u.factor * p ≤ 1099511627776) → Way Si false p b.scale) := by
  obtain ⟨hp1, hp2, hg, hn⟩ := h
  have e1 : 2 ≤ u.factor ∧ u.factor ≤ 1000 ∧ u.factor * b.scale ≤ 1099511627776 → u.scale = u.factor * b.scale := fun h => by rw [hs]; unfold scaleOf; rw [if_pos h]
  have e0 : ¬ (2 ≤ u.factor ∧ u.factor ≤ 1000 ∧ u.factor * b.scale ≤ 1099511627776) → u.scale = 0 := fun h => by rw [hs]; unfold scaleOf; rw [if_neg h]
  clear hs
  constructor
  · rintro ⟨rfl, h2, h3, h4⟩
    have hfp : 1 ≤ u.factor * p := by
      have := Int.mul_le_mul (show (1 : Int) ≤ u.factor by omega) hp1 (by omega) (by omega)
      simpa using this
    refine ⟨hfp, h4, fun _ => ?_, fun e => by cases e⟩
    rw [hg rfl]
    have hcomm : p * (u.factor * b.scale) = u.factor * p * b.scale := by rw [← Int.mul_assoc, Int.mul_comm p u.factor]
    by_cases hS : 1 ≤ b.scale
    · have h5 : b.scale ≤ u.factor * b.scale := by
        have := Int.mul_le_mul (show (1 : Int) ≤ u.factor by omega) (Int.le_refl b.scale) (by omega) (by omega)
        simpa using this
      by_cases h6 : u.factor * b.scale ≤ 1099511627776
      · rw [e1 ⟨h2, h3, h6⟩, hcomm]
        by_cases h7 : u.factor * p * b.scale ≤ 1099511627776
        · rw [if_pos ⟨by omega, h7⟩, if_pos ⟨hS, h7⟩]
        · rw [if_neg (fun h => h7 h.2), if_neg (fun h => h7 h.2)]
      · rw [e0 (fun h => h6 h.2.2), if_neg (fun h => by omega)]
        have h7 : u.factor * b.scale ≤ u.factor * p * b.scale := by
          rw [← hcomm]
          have := Int.mul_le_mul hp1 (Int.le_refl (u.factor * b.scale)) (by omega) (by omega)
          simpa using this
        rw [if_neg (fun h => by omega)]
    · have hz : b.scale = 0 := by omega
      rw [e1 ⟨h2, h3, by rw [hz]; omega⟩, hz, Int.mul_zero, if_neg (by omega), if_neg (by omega)]
  · intro hno
    refine ⟨hp1, hp2, (fun e => by cases e), fun _ => ?_⟩
    cases good with
    | false => exact hn rfl
    | true =>
      rw [hg rfl]
      by_cases hf : 2 ≤ u.factor ∧ u.factor ≤ 1000 ∧ u.factor * b.scale ≤ 1099511627776
      · rw [e1 hf]
        by_cases hS : 1 ≤ b.scale
        · have h4 : ¬ u.factor * p ≤ 1099511627776 := fun h4 => hno ⟨rfl, hf.1, hf.2.1, h4⟩
          have h5 : p * u.factor ≤ p * (u.factor * b.scale) := by
            have h6 : u.factor ≤ u.factor * b.scale := by
              have := Int.mul_le_mul (Int.le_refl u.factor) hS (by omega) (by omega)
              simpa using this
            exact Int.mul_le_mul_of_nonneg_left h6 (by omega)
          rw [Int.mul_comm p u.factor] at h5
          rw [if_neg (fun h => by omega)]
        · have hz : b.scale = 0 := by omega
          rw [hz, Int.mul_zero, if_neg (by omega)]
      · rw [e0 hf, if_neg (by omega)]
theorem way_end {Si p : Int} {good : Bool} (h : Way Si good p 1) : Si = if good = true then p else 0 := by
  obtain ⟨hp1, hp2, hg, hn⟩ := h
  cases good with
  | true => rw [hg rfl, Int.mul_one, if_pos ⟨by omega, hp2⟩]; rfl
  | false => rw [hn rfl]; rfl

/-- What Resolve answers. -/
theorem resolve_cases (s : QSource) : resolveP s = (111, noSource) ∨ resolveP s = (110, noSource) ∨ (sourceTwice s = false ∧ ∃ x, numP s = some x ∧ resolveP s = (0, x)) := by
  unfold resolveP
  cases ht : sourceTwice s with
  | true => exact .inl (by rw [if_pos rfl])
  | false =>
    rw [if_neg (by simp)]
    cases hn : numP s with
    | none => exact .inr (.inl rfl)
    | some x => exact .inr (.inr ⟨rfl, x, rfl, rfl⟩)
theorem numP_units {s x : QSource} (h : numP s = some x) : unitsP (unitNames s) s.units = some x.units := by
  unfold numP at h
  split at h
  · cases h
  · rename_i us hus
    split at h
    · cases h
    · split at h
      · cases h
      · split at h
        · cases h
        · split at h
          · cases h
          · rw [Option.some.injEq] at h
            subst h
            exact hus
theorem once_units {s : QSource} (h : sourceTwice s = false) : twiceB (unitNames s) = false := by
  unfold sourceTwice at h
  simp only [Bool.or_eq_false_iff] at h
  exact h.1.1.1.1.2

end Go.Proofs.Ytkkkephjljiplaa
