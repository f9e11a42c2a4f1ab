/- What the bound of an Upto statement gives for a source: the letters and the number of its names. Plain lemmas over readings. -/
import Derived.Test.YtkkkephjljiplaaNmOpen
namespace Go.Proofs.Ytkkkephjljiplaa
open Go.ChangeShapes Go.WideShapes Go.ChangeAt Go.RowKit Go.Deep

section
variable {H : Type}
theorem bulk_part {d : DataW H} {l : List (DataW H)} (h : d ∈ l) : Rows.uptoBulk d ≤ Rows.uptoBulkAll l := by
  induction l with
  | nil => cases h
  | cons x r ih =>
    simp only [Rows.uptoBulkAll]
    cases List.mem_cons.1 h with
    | inl e => subst e; omega
    | inr e => have := ih e; omega
theorem bulk_append (l r : List (DataW H)) : Rows.uptoBulkAll (l ++ r) = Rows.uptoBulkAll l + Rows.uptoBulkAll r := by
  induction l with
  | nil => simp [Rows.uptoBulkAll]
  | cons x l ih => simp only [List.cons_append, Rows.uptoBulkAll, ih]; omega
theorem bulk_sum {α : Type} (M : α → Nat) (D : Nat → DataW H) (l : List α) (h : ∀ i x, l[i]? = some x → M x ≤ Rows.uptoBulk (D i)) : ∀ k, k ≤ l.length → ((l.take k).map M).sum ≤ Rows.uptoBulkAll ((List.range k).map D)
  | 0, _ => by simp
  | k + 1, hk => by
    have ih := bulk_sum M D l h k (by omega)
    have hx : l[k]? = some l[k] := List.getElem?_eq_getElem hk
    rw [take_snoc hx, List.range_succ, List.map_append, List.map_append, List.sum_append, bulk_append]
    have := h k _ hx
    simp only [List.map_cons, List.map_nil, List.sum_cons, List.sum_nil, Rows.uptoBulkAll]
    omega
end

section
variable {H : Type} {enc : TypeId × Value → H} {P : Program} {w : World} {base : Nat} {hd : Bool}

/-- A slice that reads as a list is of at least the bulk of its elements. -/
theorem bulk_slice {α : Type} {sz : Nat} {R : World → List Value → α → Prop} {t e : TypeId} {fuel : Nat} {v : Value} {x : DataW H × List MemPlace} {l : List α} (M : α → Nat) (ht : P.underlying t = some (.slice e)) (hC : P.cellsOf e = sz) (_hz : 0 < sz)
    (h : DataW.trod enc P w base (fun _ => true) hd fuel t [v] = some x) (hs : SlR sz R w v l)
    (hR : ∀ (n : Nat) (cs : List Value) (a : α) (y : DataW H × List MemPlace), R w cs a → DataW.trod enc P w base (fun _ => true) hd n e cs = some y → M a ≤ Rows.uptoBulk y.1) :
    (l.map M).sum ≤ Rows.uptoBulk x.1 := by
  obtain ⟨A, cap', hv, hlc, hcm, hat⟩ := hs
  rcases open_slice ht h with ⟨hcs, _⟩ | ⟨a, len, cap, m, n, D, Pl, hcs, hb, hl, hm, hmm, hx, hi⟩
  · injection hcs with hcs
    rw [hv] at hcs
    injection hcs with _ hcs
    have : l = [] := List.eq_nil_of_length_eq_zero hcs
    subst this
    simp
  · injection hcs with hcs
    rw [hv] at hcs
    injection hcs with e1 e2 e3
    subst e2
    have hmc : m = cap := by rw [hmm]; simp
    subst hmc
    rw [hC] at hi
    subst hx
    have key := bulk_sum M D l (fun i y hy => by
      have hil := (List.getElem?_eq_some_iff.1 hy).1
      obtain ⟨b, off, cs, hA, hlt, hlen, hc, hr⟩ := hat i y hy
      obtain ⟨cs', k1, k2⟩ := hi i (by omega)
      obtain ⟨_, k3, k4⟩ := World.cells?_some k1
      have ea : a = ⟨b, off, none⟩ := by rw [e1] at hA; exact Option.some.inj hA
      subst ea
      have : cs' = cs := by
        apply List.ext_getElem?
        intro j
        rcases Nat.lt_or_ge j sz with hj | hj
        · have h4 := k4 j hj
          rw [addr_plus, addr_plus, Nat.add_assoc] at h4
          rw [← h4, hc j cs[j] (List.getElem?_eq_getElem (by omega)), List.getElem?_eq_getElem (by omega)]
        · rw [List.getElem?_eq_none (by omega), List.getElem?_eq_none (by omega)]
      subst this
      exact hR n cs' y (D i, Pl i) hr k2) l.length (Nat.le_refl _)
    rw [List.take_length] at key
    simp only [Rows.uptoBulk]
    omega

/-- The parts of a struct, with their bulk. -/
theorem bulk_struct {t : TypeId} {fs : Array Field} {fuel : Nat} {cs : List Value} {x : DataW H × List MemPlace} {sp : Nat → Bool} (ht : P.underlying t = some (.struct fs)) (ks : List Nat) (hks : fs.toList.map (fun f => P.cellsOf f.type) = ks)
    (h : DataW.trod enc P w base sp hd fuel t cs = some x) :
    ∃ (xs : List (DataW H × List MemPlace)) (n : Nat), Rows.uptoBulk x.1 = Rows.uptoBulkAll (xs.map (·.1)) + 1 ∧ xs.length = fs.size ∧ ∀ (i : Nat) (f : Field) (c : Nat), fs[i]? = some f → ks[i]? = some c → ∃ y, xs[i]? = some y ∧ DataW.trod enc P w base sp hd n f.type ((cs.drop f.offset).take c) = some y := by
  obtain ⟨xs, n, _, hx, hl, hxl, hf⟩ := DataW.trod_struct ht h
  refine ⟨xs, n, by rw [hx]; simp only [Rows.uptoBulk], hxl, fun i f c hi hc => ?_⟩
  have hcc : c = P.cellsOf f.type := by
    rw [← hks, List.getElem?_map] at hc
    have h2 : fs.toList[i]? = some f := by simpa using hi
    rw [h2, Option.map_some, Option.some.injEq] at hc
    exact hc.symm
  subst hcc
  have hlt : i < fs.size := (Array.getElem?_eq_some_iff.1 hi).1
  have h1 := hf i f hi
  rw [List.getElem?_eq_getElem (by omega)] at h1
  exact ⟨_, List.getElem?_eq_getElem (by omega), h1⟩

/-- A string's letters, and itself. -/
def strM (b : ByteArray) : Nat := b.size + 1
theorem bulk_str {n : Nat} {s : ByteArray} {y : DataW H × List MemPlace} (h : DataW.trod enc Try.prog w base (fun _ => true) hd n 9 [.string s] = some y) : Rows.uptoBulk y.1 = strM s := by
  obtain ⟨s', e, rfl, _⟩ := DataW.trod_string Try.underlying9 h
  injection e with e
  injection e with e
  subst e
  simp only [Rows.uptoBulk]
  rfl
def unitM (u : QUnit) : Nat := strM u.name
def fieldM (f : QField) : Nat := strM f.name
def schemaM (y : QSchema) : Nat := strM y.name + (y.fields.map fieldM).sum
def purposeM (p : QPurpose) : Nat := strM p.name
def sourceM (s : QSource) : Nat := (s.issuers.map strM).sum + (s.units.map unitM).sum + (s.schemas.map schemaM).sum + (s.purposes.map purposeM).sum

theorem bulk_unit {n : Nat} {cs : List Value} {u : QUnit} {y : DataW H × List MemPlace} (hr : qUnitR w cs u) (h : DataW.trod enc Try.prog w base (fun _ => true) hd n 47 cs = some y) : unitM u ≤ Rows.uptoBulk y.1 := by
  obtain ⟨xs, m, hb, _, hf⟩ := bulk_struct Try.underlying47 [1, 1, 1, 1, 1] (by kernel_rfl) h
  have hr' : cs = _ := hr
  subst hr'
  obtain ⟨y0, h0, k0⟩ := hf 0 _ 1 rfl rfl
  have e0 := bulk_str (s := u.name) k0
  have := bulk_part (List.mem_map_of_mem (f := (·.1)) (List.mem_of_getElem? h0))
  unfold unitM
  omega
theorem bulk_field {n : Nat} {cs : List Value} {u : QField} {y : DataW H × List MemPlace} (hr : qFieldR w cs u) (h : DataW.trod enc Try.prog w base (fun _ => true) hd n 45 cs = some y) : fieldM u ≤ Rows.uptoBulk y.1 := by
  obtain ⟨xs, m, hb, _, hf⟩ := bulk_struct Try.underlying45 [1, 6, 4] (by kernel_rfl) h
  obtain ⟨A1, n1, c1, rfl, _⟩ := hr
  obtain ⟨y0, h0, k0⟩ := hf 0 _ 1 rfl rfl
  have e0 := bulk_str (s := u.name) k0
  have := bulk_part (List.mem_map_of_mem (f := (·.1)) (List.mem_of_getElem? h0))
  unfold fieldM
  omega
theorem bulk_purpose {n : Nat} {cs : List Value} {u : QPurpose} {y : DataW H × List MemPlace} (hr : qPurposeR w cs u) (h : DataW.trod enc Try.prog w base (fun _ => true) hd n 74 cs = some y) : purposeM u ≤ Rows.uptoBulk y.1 := by
  obtain ⟨xs, m, hb, _, hf⟩ := bulk_struct Try.underlying74 [1, 1, 1] (by kernel_rfl) h
  obtain ⟨A1, n1, c1, rfl, _⟩ := hr
  obtain ⟨y0, h0, k0⟩ := hf 0 _ 1 rfl rfl
  have e0 := bulk_str (s := u.name) k0
  have := bulk_part (List.mem_map_of_mem (f := (·.1)) (List.mem_of_getElem? h0))
  unfold purposeM
  omega
theorem bulk_schema {n : Nat} {cs : List Value} {u : QSchema} {y : DataW H × List MemPlace} (hr : qSchemaR w cs u) (h : DataW.trod enc Try.prog w base (fun _ => true) hd n 40 cs = some y) : schemaM u ≤ Rows.uptoBulk y.1 := by
  obtain ⟨xs, m, hb, hxl, hf⟩ := bulk_struct Try.underlying40 [1, 1, 1, 1, 1, 1] (by kernel_rfl) h
  obtain ⟨A1, n1, c1, A2, n2, c2, rfl, h1, _⟩ := hr
  obtain ⟨y0, h0, k0⟩ := hf 0 _ 1 rfl rfl
  have e0 := bulk_str (s := u.name) k0
  obtain ⟨y4, h4, k4⟩ := hf 4 _ 1 rfl rfl
  have e4 := bulk_slice fieldM Try.underlying37 (by kernel_rfl) (by omega) (v := .slice A1 n1 c1) k4 h1.1 (fun _ _ _ _ hr h => bulk_field hr h)
  match xs, h0, h4, hb with
  | [], h0, _, _ => simp at h0
  | x0 :: r, h0, h4, hb =>
    simp only [List.getElem?_cons_zero, Option.some.injEq] at h0
    subst h0
    rw [List.getElem?_cons_succ] at h4
    have := bulk_part (List.mem_map_of_mem (f := (·.1)) (List.mem_of_getElem? h4))
    simp only [List.map_cons, Rows.uptoBulkAll] at hb
    unfold schemaM
    omega
theorem bulk_source {n : Nat} {cs : List Value} {u : QSource} {y : DataW H × List MemPlace} (hr : qSourceR w cs u) (h : DataW.trod enc Try.prog w base (fun _ => true) hd n 29 cs = some y) : sourceM u ≤ Rows.uptoBulk y.1 := by
  obtain ⟨xs, m, hb, hxl, hf⟩ := bulk_struct Try.underlying29 [1, 1, 1, 1, 1, 1] (by kernel_rfl) h
  obtain ⟨A1, n1, c1, A2, n2, c2, A3, n3, c3, A4, n4, c4, A5, n5, c5, A6, n6, c6, rfl, h1, h2, h3, h4, h5, h6⟩ := hr
  obtain ⟨y0, g0, k0⟩ := hf 0 _ 1 rfl rfl
  have e0 := bulk_slice strM Try.underlying22 (by kernel_rfl) (by omega) (v := .slice A1 n1 c1) k0 h1.1 (fun _ _ _ _ hr h => by
    have hr' : _ = _ := hr
    subst hr'
    rw [bulk_str h]; exact Nat.le_refl _)
  obtain ⟨y1, g1, k1⟩ := hf 1 _ 1 rfl rfl
  have e1 := bulk_slice unitM Try.underlying23 (by kernel_rfl) (by omega) (v := .slice A2 n2 c2) k1 h2.1 (fun _ _ _ _ hr h => bulk_unit hr h)
  obtain ⟨y2, g2, k2⟩ := hf 2 _ 1 rfl rfl
  have e2 := bulk_slice schemaM Try.underlying24 (by kernel_rfl) (by omega) (v := .slice A3 n3 c3) k2 h3.1 (fun _ _ _ _ hr h => bulk_schema hr h)
  obtain ⟨y5, g5, k5⟩ := hf 5 _ 1 rfl rfl
  have e5 := bulk_slice purposeM Try.underlying27 (by kernel_rfl) (by omega) (v := .slice A6 n6 c6) k5 h6.1 (fun _ _ _ _ hr h => bulk_purpose hr h)
  match xs, g0, g1, g2, g5, hb with
  | [], g0, _, _, _, _ => simp at g0
  | [_], _, g1, _, _, _ => simp at g1
  | [_, _], _, _, g2, _, _ => simp at g2
  | x0 :: x1 :: x2 :: r, g0, g1, g2, g5, hb =>
    simp only [List.getElem?_cons_zero, List.getElem?_cons_succ, Option.some.injEq] at g0 g1 g2 g5
    subst g0 g1 g2
    have := bulk_part (List.mem_map_of_mem (f := (·.1)) (List.mem_of_getElem? g5))
    simp only [List.map_cons, Rows.uptoBulkAll] at hb
    unfold sourceM
    omega
theorem bulk_arg {n1 c1 n2 c2 n3 c3 n4 c4 n5 c5 n6 c6 : Nat} {A1 A2 A3 A4 A5 A6 : Option Addr} {u : QSource} {d : DataW H} {ps : List MemPlace} (h : DataW.Trod enc Try.prog w base (fun _ => true) hd 29 (.agg #[.slice A1 n1 c1, .slice A2 n2 c2, .slice A3 n3 c3, .slice A4 n4 c4, .slice A5 n5 c5, .slice A6 n6 c6]) d ps)
    (hr : qSourceR w [.slice A1 n1 c1, .slice A2 n2 c2, .slice A3 n3 c3, .slice A4 n4 c4, .slice A5 n5 c5, .slice A6 n6 c6] u) : sourceM u ≤ Rows.uptoBulk d := by
  obtain ⟨fuel, hf⟩ := h
  exact bulk_source (y := (d, ps)) hr hf
end

end Go.Proofs.Ytkkkephjljiplaa
