/- Opening the laws' argument: a source read as plain data; and the row's last step. Written by genopen.py. -/
import Derived.Test.YtkkkephjljiplaaRows
import Derived.Test.YtkkkephjljiplaaNmRes
import Derived.ProofKit
import Derived.Deep.Slices
import Derived.Deep.Fields
import Derived.OpenShut
import Derived.SizedLaws
namespace Go.Proofs.Ytkkkephjljiplaa
open Go.ChangeShapes Go.WideShapes Go.ChangeAt Go.RowKit Go.Deep

section
variable {H : Type} {enc : TypeId × Value → H} {P : Program} {w : World} {base : Nat} {hd : Bool}

theorem addr_plus (b off k : Nat) : (Addr.mk b off none).add k = ⟨b, off + k, none⟩ := by
  unfold Addr.add
  split
  · subst_vars; rfl
  · rfl
/-- Each slice that is met in it takes no more than a process can have. -/
def WOk (P : Program) (t : TypeId) (d : DataW H) : Prop := ∀ n ∈ d.weights P t, n ≤ reachBytes
theorem mem_weightsAll {e : TypeId} : ∀ {l : List (DataW H)} {d : DataW H}, d ∈ l → ∀ n ∈ d.weights P e, n ∈ DataW.weightsAll P e l
  | x :: r, d, hm, n, hn => by
    simp only [DataW.weightsAll, List.mem_append]
    rcases List.mem_cons.1 hm with rfl | hm
    · exact .inl hn
    · exact .inr (mem_weightsAll hm n hn)
  | [], _, hm, _, _ => by cases hm

/-- A slice whose elements all read, reads as a list. -/
theorem slB_open {α : Type} {sz bytes : Nat} {R : World → List Value → α → Prop} {t e : TypeId} {fuel : Nat} {v : Value} {x : DataW H × List MemPlace} (ht : P.underlying t = some (.slice e)) (hC : P.cellsOf e = sz) (hz : 0 < sz) (hby : P.bytesOf e = bytes)
    (h : DataW.trod enc P w base (fun _ => true) hd fuel t [v] = some x) (hw : WOk P t x.1)
    (hR : ∀ (n : Nat) (cs : List Value) (y : DataW H × List MemPlace), cs.length = sz → DataW.trod enc P w base (fun _ => true) hd n e cs = some y → WOk P e y.1 → ∃ a, R w cs a) :
    ∃ A n c l, v = .slice A n c ∧ SlB sz bytes R w (.slice A n c) l := by
  rcases open_slice ht h with ⟨hcs, _⟩ | ⟨a, len, cap, m, n, D, Pl, hcs, hb, hl, hm, hmm, hx, hi⟩
  · injection hcs with hcs
    exact ⟨none, 0, 0, [], hcs, SlR.nil _ _ (Nat.zero_le _), by simp⟩
  · injection hcs with hcs
    have hmc : m = cap := by rw [hmm]; simp
    subst hmc
    rw [hC] at hi
    subst hx
    have hwt : ∀ n ∈ (DataW.slice ((List.range len).map D) ((List.range (m - len)).map fun j => D (len + j))).weights P t, n ≤ reachBytes := hw
    simp only [DataW.weights, ht] at hwt
    have hbound : len * bytes ≤ 140737488355328 := by
      have h1 := hwt _ List.mem_cons_self
      simp only [List.length_map, List.length_range, hby] at h1
      have h2 : len * bytes ≤ (len + (m - len)) * bytes := Nat.mul_le_mul_right _ (by omega)
      have h3 : reachBytes ≤ 140737488355328 := by decide
      omega
    have hex : ∀ i, i < len → ∃ (x : α) (cs : List Value), w.cells? base (a.add (i * sz)) sz = some cs ∧ R w cs x := by
      intro i hlt
      obtain ⟨cs, h1, h2⟩ := hi i (by omega)
      obtain ⟨y, hy⟩ := hR _ cs _ (World.cells?_some h1).2.1 h2 (fun n hn => hwt n (List.mem_cons_of_mem _ (List.mem_append_left _ (mem_weightsAll (List.mem_map.2 ⟨i, List.mem_range.2 hlt, rfl⟩) n hn))))
      exact ⟨y, cs, h1, hy⟩
    refine ⟨some a, len, m, List.ofFn (fun i : Fin len => Classical.choose (hex i.1 i.2)), hcs, ⟨some a, m, by simp, by simpa using hl, hm, fun i x hix => ?_⟩, by simpa using hbound⟩
    rw [List.getElem?_ofFn] at hix
    split at hix
    · rename_i hlt
      injection hix with hix
      obtain ⟨cs, h1, h2⟩ := Classical.choose_spec (hex i hlt)
      rw [hix] at h2
      have hsp : a.spot = none := by
        obtain ⟨_, cs0, h3, _⟩ := hex 0 (by omega)
        obtain ⟨_, k1, k2⟩ := World.cells?_some h3
        have k3 := k2 0 hz
        rw [List.getElem?_eq_getElem (by omega)] at k3
        have := World.cell?_spot k3
        simpa [Addr.add] using this
      obtain ⟨b, off, spot⟩ := a
      subst hsp
      obtain ⟨_, k1, k2⟩ := World.cells?_some h1
      have hcell : ∀ j u, cs[j]? = some u → w.cell? ⟨b, off + (i * sz + j), none⟩ = some u := by
        intro j u hu
        have hj : j < sz := by
          have := (List.getElem?_eq_some_iff.1 hu).1
          omega
        have := k2 j hj
        rw [addr_plus, addr_plus, hu] at this
        rw [← this, Nat.add_assoc]
      refine ⟨b, off, cs, rfl, ?_, k1, hcell, h2⟩
      have h0 := hcell 0 cs[0] (List.getElem?_eq_getElem (by omega))
      exact World.block_lt_of_cell? _ _ h0
    · exact absurd hix (by simp)

/-- The parts of a struct read. -/
theorem trod_parts {t : TypeId} {fs : Array Field} {fuel k : Nat} {cs : List Value} {x : DataW H × List MemPlace} {sp : Nat → Bool} (ht : P.underlying t = some (.struct fs)) (ks : List Nat) (hks : fs.toList.map (fun f => P.cellsOf f.type) = ks) (hC : P.cellsOf t = k)
    (h : DataW.trod enc P w base sp hd fuel t cs = some x) (hw : WOk P t x.1) :
    cs.length = k ∧ ∃ n, ∀ (i : Nat) (f : Field) (c : Nat), fs[i]? = some f → ks[i]? = some c → ∃ y, DataW.trod enc P w base sp hd n f.type ((cs.drop f.offset).take c) = some y ∧ WOk P f.type y.1 := by
  obtain ⟨xs, n, _, hx, hl, hxl, hf⟩ := DataW.trod_struct ht h
  refine ⟨hl.trans hC, n, fun i f c hi hc => ?_⟩
  have hcc : c = P.cellsOf f.type := by
    rw [← hks, List.getElem?_map] at hc
    have h2 : fs.toList[i]? = some f := by simpa using hi
    rw [h2, Option.map_some, Option.some.injEq] at hc
    exact hc.symm
  subst hcc
  have hlt : i < fs.size := (Array.getElem?_eq_some_iff.1 hi).1
  have h1 := hf i f hi
  rw [List.getElem?_eq_getElem (by omega)] at h1
  refine ⟨_, h1, fun m hm => hw m ?_⟩
  subst hx
  show m ∈ (DataW.agg (xs.map (·.1))).weights P t
  simp only [DataW.weights, ht]
  exact DataW.weights_mem_each (j := i) (t := f.type) (d := (xs[i]'(by omega)).1) (by rw [List.getElem?_map]; simp [hi]) (by rw [List.getElem?_map, List.getElem?_eq_getElem (by omega)]; rfl) m hm

theorem strs_open {fuel : Nat} {v : Value} {x : DataW H × List MemPlace} (h : DataW.trod enc Try.prog w base (fun _ => true) hd fuel 22 [v] = some x) (hw : WOk Try.prog 22 x.1) :
    ∃ A n c l, v = .slice A n c ∧ SlB 1 16 strR w (.slice A n c) l :=
  slB_open Try.underlying22 (by kernel_rfl) (by omega) (by kernel_rfl) h hw fun n cs y hl hy _ => by
    obtain ⟨s, rfl, _, _⟩ := DataW.trod_string Try.underlying9 hy
    exact ⟨s, rfl⟩
theorem nums_open {fuel : Nat} {v : Value} {x : DataW H × List MemPlace} (h : DataW.trod enc Try.prog w base (fun _ => true) hd fuel 48 [v] = some x) (hw : WOk Try.prog 48 x.1) :
    ∃ A n c l, v = .slice A n c ∧ SlB 1 8 iR w (.slice A n c) l :=
  slB_open Try.underlying48 (by kernel_rfl) (by omega) (by kernel_rfl) h hw fun n cs y hl hy _ => by
    obtain ⟨k, rfl, _, _⟩ := DataW.trod_int Try.underlying3 hy
    exact ⟨k, rfl⟩
theorem four_open {fuel : Nat} {c0 c1 c2 c3 : Value} {x : DataW H × List MemPlace} (h : DataW.trod enc Try.prog w base (fun _ => true) hd fuel 43 [c0, c1, c2, c3] = some x) :
    ∃ a b c d, c0 = .int .i64 a ∧ c1 = .int .i64 b ∧ c2 = .int .i64 c ∧ c3 = .int .i64 d := by
  obtain ⟨xs, m, _, _, _, hxl, hf⟩ := DataW.trod_array Try.underlying43 h
  have hone : Try.prog.cellsOf 3 = 1 := by kernel_rfl
  rw [hone] at hf
  have hg : ∀ i (hi : i < 4), ∃ y, DataW.trod enc Try.prog w base (fun _ => true) hd m 3 (([c0, c1, c2, c3].drop (i * 1)).take 1) = some y := fun i hi => ⟨_, (hf i hi).trans (List.getElem?_eq_getElem (by omega))⟩
  obtain ⟨y0, h0⟩ := hg 0 (by omega)
  obtain ⟨y1, h1⟩ := hg 1 (by omega)
  obtain ⟨y2, h2⟩ := hg 2 (by omega)
  obtain ⟨y3, h3⟩ := hg 3 (by omega)
  obtain ⟨a, e0, _, _⟩ := DataW.trod_int Try.underlying3 h0
  obtain ⟨b, e1, _, _⟩ := DataW.trod_int Try.underlying3 h1
  obtain ⟨c, e2, _, _⟩ := DataW.trod_int Try.underlying3 h2
  obtain ⟨d, e3, _, _⟩ := DataW.trod_int Try.underlying3 h3
  simp at e0 e1 e2 e3
  exact ⟨a, b, c, d, e0, e1, e2, e3⟩

theorem openUnit {fuel : Nat} {cs : List Value} {x : DataW H × List MemPlace} (h : DataW.trod enc Try.prog w base (fun _ => true) hd fuel 47 cs = some x) (hw : WOk Try.prog 47 x.1) : ∃ a, qUnitR w cs a := by
  obtain ⟨hl, n, hf⟩ := trod_parts Try.underlying47 (k := 5) [1, 1, 1, 1, 1] (by kernel_rfl) (by kernel_rfl) h hw
  match cs, hl with
  | [c0, c1, c2, c3, c4], _ =>
    obtain ⟨y0, h0, w0⟩ := hf 0 _ 1 rfl rfl
    obtain ⟨v0, e0, _, _⟩ := DataW.trod_string Try.underlying9 (show DataW.trod enc Try.prog w base (fun _ => true) hd n 9 [c0] = some y0 from h0)
    injection e0 with e0
    subst e0
    obtain ⟨y1, h1, w1⟩ := hf 1 _ 1 rfl rfl
    obtain ⟨v1, e1, _, _⟩ := DataW.trod_string Try.underlying9 (show DataW.trod enc Try.prog w base (fun _ => true) hd n 9 [c1] = some y1 from h1)
    injection e1 with e1
    subst e1
    obtain ⟨y2, h2, w2⟩ := hf 2 _ 1 rfl rfl
    obtain ⟨v2, e2, _, _⟩ := DataW.trod_int Try.underlying3 (show DataW.trod enc Try.prog w base (fun _ => true) hd n 3 [c2] = some y2 from h2)
    injection e2 with e2
    subst e2
    obtain ⟨y3, h3, w3⟩ := hf 3 _ 1 rfl rfl
    obtain ⟨v3, e3, _, _⟩ := DataW.trod_int Try.underlying3 (show DataW.trod enc Try.prog w base (fun _ => true) hd n 3 [c3] = some y3 from h3)
    injection e3 with e3
    subst e3
    obtain ⟨y4, h4, w4⟩ := hf 4 _ 1 rfl rfl
    obtain ⟨v4, e4, _, _⟩ := DataW.trod_int Try.underlying3 (show DataW.trod enc Try.prog w base (fun _ => true) hd n 3 [c4] = some y4 from h4)
    injection e4 with e4
    subst e4
    exact ⟨⟨v0, v1, v2, v3, v4⟩, rfl⟩
theorem openUnits {fuel : Nat} {v : Value} {x : DataW H × List MemPlace} (h : DataW.trod enc Try.prog w base (fun _ => true) hd fuel 23 [v] = some x) (hw : WOk Try.prog 23 x.1) :
    ∃ A n c l, v = .slice A n c ∧ SlB 5 56 qUnitR w (.slice A n c) l :=
  slB_open Try.underlying23 (by kernel_rfl) (by omega) (by kernel_rfl) h hw fun _ _ _ _ hy hv => openUnit hy hv

theorem openTerm {fuel : Nat} {cs : List Value} {x : DataW H × List MemPlace} (h : DataW.trod enc Try.prog w base (fun _ => true) hd fuel 59 cs = some x) (hw : WOk Try.prog 59 x.1) : ∃ a, qTermR w cs a := by
  obtain ⟨hl, n, hf⟩ := trod_parts Try.underlying59 (k := 5) [1, 1, 1, 1, 1] (by kernel_rfl) (by kernel_rfl) h hw
  match cs, hl with
  | [c0, c1, c2, c3, c4], _ =>
    obtain ⟨y0, h0, w0⟩ := hf 0 _ 1 rfl rfl
    obtain ⟨v0, e0, _, _⟩ := DataW.trod_string Try.underlying9 (show DataW.trod enc Try.prog w base (fun _ => true) hd n 9 [c0] = some y0 from h0)
    injection e0 with e0
    subst e0
    obtain ⟨y1, h1, w1⟩ := hf 1 _ 1 rfl rfl
    obtain ⟨v1, e1, _, _⟩ := DataW.trod_string Try.underlying9 (show DataW.trod enc Try.prog w base (fun _ => true) hd n 9 [c1] = some y1 from h1)
    injection e1 with e1
    subst e1
    obtain ⟨y2, h2, w2⟩ := hf 2 _ 1 rfl rfl
    obtain ⟨v2, e2, _, _⟩ := DataW.trod_int Try.underlying3 (show DataW.trod enc Try.prog w base (fun _ => true) hd n 3 [c2] = some y2 from h2)
    injection e2 with e2
    subst e2
    obtain ⟨y3, h3, w3⟩ := hf 3 _ 1 rfl rfl
    obtain ⟨v3, e3, _, _⟩ := DataW.trod_int Try.underlying3 (show DataW.trod enc Try.prog w base (fun _ => true) hd n 3 [c3] = some y3 from h3)
    injection e3 with e3
    subst e3
    obtain ⟨y4, h4, w4⟩ := hf 4 _ 1 rfl rfl
    obtain ⟨v4, e4, _, _⟩ := DataW.trod_int Try.underlying3 (show DataW.trod enc Try.prog w base (fun _ => true) hd n 3 [c4] = some y4 from h4)
    injection e4 with e4
    subst e4
    exact ⟨⟨v0, v1, v2, v3, v4⟩, rfl⟩

theorem openAtom {fuel : Nat} {cs : List Value} {x : DataW H × List MemPlace} (h : DataW.trod enc Try.prog w base (fun _ => true) hd fuel 64 cs = some x) (hw : WOk Try.prog 64 x.1) : ∃ a, qAtomR w cs a := by
  obtain ⟨hl, n, hf⟩ := trod_parts Try.underlying64 (k := 11) [1, 5, 5] (by kernel_rfl) (by kernel_rfl) h hw
  match cs, hl with
  | [c0, c1, c2, c3, c4, c5, c6, c7, c8, c9, c10], _ =>
    obtain ⟨y0, h0, w0⟩ := hf 0 _ 1 rfl rfl
    obtain ⟨v0, e0, _, _⟩ := DataW.trod_int Try.underlying3 (show DataW.trod enc Try.prog w base (fun _ => true) hd n 3 [c0] = some y0 from h0)
    injection e0 with e0
    subst e0
    obtain ⟨y1, h1, w1⟩ := hf 1 _ 5 rfl rfl
    obtain ⟨v1, q1⟩ := openTerm (show DataW.trod enc Try.prog w base (fun _ => true) hd n 59 [c1, c2, c3, c4, c5] = some y1 from h1) w1
    have q1 : [c1, c2, c3, c4, c5] = _ := q1
    simp only [List.cons.injEq, and_true] at q1
    obtain ⟨rfl, rfl, rfl, rfl, rfl⟩ := q1
    obtain ⟨y2, h2, w2⟩ := hf 2 _ 5 rfl rfl
    obtain ⟨v2, q2⟩ := openTerm (show DataW.trod enc Try.prog w base (fun _ => true) hd n 59 [c6, c7, c8, c9, c10] = some y2 from h2) w2
    have q2 : [c6, c7, c8, c9, c10] = _ := q2
    simp only [List.cons.injEq, and_true] at q2
    obtain ⟨rfl, rfl, rfl, rfl, rfl⟩ := q2
    exact ⟨⟨v0, v1, v2⟩, rfl⟩
theorem openAtoms {fuel : Nat} {v : Value} {x : DataW H × List MemPlace} (h : DataW.trod enc Try.prog w base (fun _ => true) hd fuel 53 [v] = some x) (hw : WOk Try.prog 53 x.1) :
    ∃ A n c l, v = .slice A n c ∧ SlB 11 120 qAtomR w (.slice A n c) l :=
  slB_open Try.underlying53 (by kernel_rfl) (by omega) (by kernel_rfl) h hw fun _ _ _ _ hy hv => openAtom hy hv

theorem openFrom {fuel : Nat} {cs : List Value} {x : DataW H × List MemPlace} (h : DataW.trod enc Try.prog w base (fun _ => true) hd fuel 61 cs = some x) (hw : WOk Try.prog 61 x.1) : ∃ a, qFromR w cs a := by
  obtain ⟨hl, n, hf⟩ := trod_parts Try.underlying61 (k := 8) [1, 1, 1, 5] (by kernel_rfl) (by kernel_rfl) h hw
  match cs, hl with
  | [c0, c1, c2, c3, c4, c5, c6, c7], _ =>
    obtain ⟨y0, h0, w0⟩ := hf 0 _ 1 rfl rfl
    obtain ⟨v0, e0, _, _⟩ := DataW.trod_string Try.underlying9 (show DataW.trod enc Try.prog w base (fun _ => true) hd n 9 [c0] = some y0 from h0)
    injection e0 with e0
    subst e0
    obtain ⟨y1, h1, w1⟩ := hf 1 _ 1 rfl rfl
    obtain ⟨v1, e1, _, _⟩ := DataW.trod_string Try.underlying9 (show DataW.trod enc Try.prog w base (fun _ => true) hd n 9 [c1] = some y1 from h1)
    injection e1 with e1
    subst e1
    obtain ⟨y2, h2, w2⟩ := hf 2 _ 1 rfl rfl
    obtain ⟨v2, e2, _, _⟩ := DataW.trod_int Try.underlying3 (show DataW.trod enc Try.prog w base (fun _ => true) hd n 3 [c2] = some y2 from h2)
    injection e2 with e2
    subst e2
    obtain ⟨y3, h3, w3⟩ := hf 3 _ 5 rfl rfl
    obtain ⟨v3, q3⟩ := openTerm (show DataW.trod enc Try.prog w base (fun _ => true) hd n 59 [c3, c4, c5, c6, c7] = some y3 from h3) w3
    have q3 : [c3, c4, c5, c6, c7] = _ := q3
    simp only [List.cons.injEq, and_true] at q3
    obtain ⟨rfl, rfl, rfl, rfl, rfl⟩ := q3
    exact ⟨⟨v0, v1, v2, v3⟩, rfl⟩
theorem openFroms {fuel : Nat} {v : Value} {x : DataW H × List MemPlace} (h : DataW.trod enc Try.prog w base (fun _ => true) hd fuel 52 [v] = some x) (hw : WOk Try.prog 52 x.1) :
    ∃ A n c l, v = .slice A n c ∧ SlB 8 96 qFromR w (.slice A n c) l :=
  slB_open Try.underlying52 (by kernel_rfl) (by omega) (by kernel_rfl) h hw fun _ _ _ _ hy hv => openFrom hy hv

theorem openSet {fuel : Nat} {cs : List Value} {x : DataW H × List MemPlace} (h : DataW.trod enc Try.prog w base (fun _ => true) hd fuel 66 cs = some x) (hw : WOk Try.prog 66 x.1) : ∃ a, qSetR w cs a := by
  obtain ⟨hl, n, hf⟩ := trod_parts Try.underlying66 (k := 7) [1, 1, 5] (by kernel_rfl) (by kernel_rfl) h hw
  match cs, hl with
  | [c0, c1, c2, c3, c4, c5, c6], _ =>
    obtain ⟨y0, h0, w0⟩ := hf 0 _ 1 rfl rfl
    obtain ⟨v0, e0, _, _⟩ := DataW.trod_string Try.underlying9 (show DataW.trod enc Try.prog w base (fun _ => true) hd n 9 [c0] = some y0 from h0)
    injection e0 with e0
    subst e0
    obtain ⟨y1, h1, w1⟩ := hf 1 _ 1 rfl rfl
    obtain ⟨v1, e1, _, _⟩ := DataW.trod_int Try.underlying3 (show DataW.trod enc Try.prog w base (fun _ => true) hd n 3 [c1] = some y1 from h1)
    injection e1 with e1
    subst e1
    obtain ⟨y2, h2, w2⟩ := hf 2 _ 5 rfl rfl
    obtain ⟨v2, q2⟩ := openTerm (show DataW.trod enc Try.prog w base (fun _ => true) hd n 59 [c2, c3, c4, c5, c6] = some y2 from h2) w2
    have q2 : [c2, c3, c4, c5, c6] = _ := q2
    simp only [List.cons.injEq, and_true] at q2
    obtain ⟨rfl, rfl, rfl, rfl, rfl⟩ := q2
    exact ⟨⟨v0, v1, v2⟩, rfl⟩
theorem openSets {fuel : Nat} {v : Value} {x : DataW H × List MemPlace} (h : DataW.trod enc Try.prog w base (fun _ => true) hd fuel 54 [v] = some x) (hw : WOk Try.prog 54 x.1) :
    ∃ A n c l, v = .slice A n c ∧ SlB 7 80 qSetR w (.slice A n c) l :=
  slB_open Try.underlying54 (by kernel_rfl) (by omega) (by kernel_rfl) h hw fun _ _ _ _ hy hv => openSet hy hv

theorem openMove {fuel : Nat} {cs : List Value} {x : DataW H × List MemPlace} (h : DataW.trod enc Try.prog w base (fun _ => true) hd fuel 71 cs = some x) (hw : WOk Try.prog 71 x.1) : ∃ a, qMoveR w cs a := by
  obtain ⟨hl, n, hf⟩ := trod_parts Try.underlying71 (k := 5) [1, 1, 1, 1, 1] (by kernel_rfl) (by kernel_rfl) h hw
  match cs, hl with
  | [c0, c1, c2, c3, c4], _ =>
    obtain ⟨y0, h0, w0⟩ := hf 0 _ 1 rfl rfl
    obtain ⟨v0, e0, _, _⟩ := DataW.trod_string Try.underlying9 (show DataW.trod enc Try.prog w base (fun _ => true) hd n 9 [c0] = some y0 from h0)
    injection e0 with e0
    subst e0
    obtain ⟨y1, h1, w1⟩ := hf 1 _ 1 rfl rfl
    obtain ⟨v1, e1, _, _⟩ := DataW.trod_string Try.underlying9 (show DataW.trod enc Try.prog w base (fun _ => true) hd n 9 [c1] = some y1 from h1)
    injection e1 with e1
    subst e1
    obtain ⟨y2, h2, w2⟩ := hf 2 _ 1 rfl rfl
    obtain ⟨v2, e2, _, _⟩ := DataW.trod_int Try.underlying3 (show DataW.trod enc Try.prog w base (fun _ => true) hd n 3 [c2] = some y2 from h2)
    injection e2 with e2
    subst e2
    obtain ⟨y3, h3, w3⟩ := hf 3 _ 1 rfl rfl
    obtain ⟨v3, e3, _, _⟩ := DataW.trod_int Try.underlying3 (show DataW.trod enc Try.prog w base (fun _ => true) hd n 3 [c3] = some y3 from h3)
    injection e3 with e3
    subst e3
    obtain ⟨y4, h4, w4⟩ := hf 4 _ 1 rfl rfl
    obtain ⟨v4, e4, _, _⟩ := DataW.trod_int Try.underlying3 (show DataW.trod enc Try.prog w base (fun _ => true) hd n 3 [c4] = some y4 from h4)
    injection e4 with e4
    subst e4
    exact ⟨⟨v0, v1, v2, v3, v4⟩, rfl⟩
theorem openMoves {fuel : Nat} {v : Value} {x : DataW H × List MemPlace} (h : DataW.trod enc Try.prog w base (fun _ => true) hd fuel 67 [v] = some x) (hw : WOk Try.prog 67 x.1) :
    ∃ A n c l, v = .slice A n c ∧ SlB 5 56 qMoveR w (.slice A n c) l :=
  slB_open Try.underlying67 (by kernel_rfl) (by omega) (by kernel_rfl) h hw fun _ _ _ _ hy hv => openMove hy hv

theorem openRef {fuel : Nat} {cs : List Value} {x : DataW H × List MemPlace} (h : DataW.trod enc Try.prog w base (fun _ => true) hd fuel 76 cs = some x) (hw : WOk Try.prog 76 x.1) : ∃ a, qRefR w cs a := by
  obtain ⟨hl, n, hf⟩ := trod_parts Try.underlying76 (k := 4) [1, 1, 1, 1] (by kernel_rfl) (by kernel_rfl) h hw
  match cs, hl with
  | [c0, c1, c2, c3], _ =>
    obtain ⟨y0, h0, w0⟩ := hf 0 _ 1 rfl rfl
    obtain ⟨v0, e0, _, _⟩ := DataW.trod_string Try.underlying9 (show DataW.trod enc Try.prog w base (fun _ => true) hd n 9 [c0] = some y0 from h0)
    injection e0 with e0
    subst e0
    obtain ⟨y1, h1, w1⟩ := hf 1 _ 1 rfl rfl
    obtain ⟨v1, e1, _, _⟩ := DataW.trod_string Try.underlying9 (show DataW.trod enc Try.prog w base (fun _ => true) hd n 9 [c1] = some y1 from h1)
    injection e1 with e1
    subst e1
    obtain ⟨y2, h2, w2⟩ := hf 2 _ 1 rfl rfl
    obtain ⟨v2, e2, _, _⟩ := DataW.trod_int Try.underlying3 (show DataW.trod enc Try.prog w base (fun _ => true) hd n 3 [c2] = some y2 from h2)
    injection e2 with e2
    subst e2
    obtain ⟨y3, h3, w3⟩ := hf 3 _ 1 rfl rfl
    obtain ⟨v3, e3, _, _⟩ := DataW.trod_int Try.underlying3 (show DataW.trod enc Try.prog w base (fun _ => true) hd n 3 [c3] = some y3 from h3)
    injection e3 with e3
    subst e3
    exact ⟨⟨v0, v1, v2, v3⟩, rfl⟩
theorem openRefs {fuel : Nat} {v : Value} {x : DataW H × List MemPlace} (h : DataW.trod enc Try.prog w base (fun _ => true) hd fuel 72 [v] = some x) (hw : WOk Try.prog 72 x.1) :
    ∃ A n c l, v = .slice A n c ∧ SlB 4 48 qRefR w (.slice A n c) l :=
  slB_open Try.underlying72 (by kernel_rfl) (by omega) (by kernel_rfl) h hw fun _ _ _ _ hy hv => openRef hy hv

theorem openType {fuel : Nat} {cs : List Value} {x : DataW H × List MemPlace} (h : DataW.trod enc Try.prog w base (fun _ => true) hd fuel 42 cs = some x) (hw : WOk Try.prog 42 x.1) : ∃ a, qTypeR w cs a := by
  obtain ⟨hl, n, hf⟩ := trod_parts Try.underlying42 (k := 6) [1, 1, 1, 1, 1, 1] (by kernel_rfl) (by kernel_rfl) h hw
  match cs, hl with
  | [c0, c1, c2, c3, c4, c5], _ =>
    obtain ⟨y0, h0, w0⟩ := hf 0 _ 1 rfl rfl
    obtain ⟨v0, e0, _, _⟩ := DataW.trod_int Try.underlying3 (show DataW.trod enc Try.prog w base (fun _ => true) hd n 3 [c0] = some y0 from h0)
    injection e0 with e0
    subst e0
    obtain ⟨y1, h1, w1⟩ := hf 1 _ 1 rfl rfl
    obtain ⟨v1, e1, _, _⟩ := DataW.trod_int Try.underlying3 (show DataW.trod enc Try.prog w base (fun _ => true) hd n 3 [c1] = some y1 from h1)
    injection e1 with e1
    subst e1
    obtain ⟨y2, h2, w2⟩ := hf 2 _ 1 rfl rfl
    obtain ⟨v2, e2, _, _⟩ := DataW.trod_int Try.underlying3 (show DataW.trod enc Try.prog w base (fun _ => true) hd n 3 [c2] = some y2 from h2)
    injection e2 with e2
    subst e2
    obtain ⟨y3, h3, w3⟩ := hf 3 _ 1 rfl rfl
    obtain ⟨v3, e3, _, _⟩ := DataW.trod_string Try.underlying9 (show DataW.trod enc Try.prog w base (fun _ => true) hd n 9 [c3] = some y3 from h3)
    injection e3 with e3
    subst e3
    obtain ⟨y4, h4, w4⟩ := hf 4 _ 1 rfl rfl
    obtain ⟨v4, e4, _, _⟩ := DataW.trod_int Try.underlying3 (show DataW.trod enc Try.prog w base (fun _ => true) hd n 3 [c4] = some y4 from h4)
    injection e4 with e4
    subst e4
    obtain ⟨y5, h5, w5⟩ := hf 5 _ 1 rfl rfl
    obtain ⟨B5, b5, d5, v5, e5, s5⟩ := strs_open (show DataW.trod enc Try.prog w base (fun _ => true) hd n 22 [c5] = some y5 from h5) w5
    subst e5
    exact ⟨⟨v0, v1, v2, v3, v4, v5⟩, B5, b5, d5, rfl, s5⟩

theorem openField {fuel : Nat} {cs : List Value} {x : DataW H × List MemPlace} (h : DataW.trod enc Try.prog w base (fun _ => true) hd fuel 45 cs = some x) (hw : WOk Try.prog 45 x.1) : ∃ a, qFieldR w cs a := by
  obtain ⟨hl, n, hf⟩ := trod_parts Try.underlying45 (k := 11) [1, 6, 4] (by kernel_rfl) (by kernel_rfl) h hw
  match cs, hl with
  | [c0, c1, c2, c3, c4, c5, c6, c7, c8, c9, c10], _ =>
    obtain ⟨y0, h0, w0⟩ := hf 0 _ 1 rfl rfl
    obtain ⟨v0, e0, _, _⟩ := DataW.trod_string Try.underlying9 (show DataW.trod enc Try.prog w base (fun _ => true) hd n 9 [c0] = some y0 from h0)
    injection e0 with e0
    subst e0
    obtain ⟨y1, h1, w1⟩ := hf 1 _ 6 rfl rfl
    obtain ⟨v1, q1⟩ := openType (show DataW.trod enc Try.prog w base (fun _ => true) hd n 42 [c1, c2, c3, c4, c5, c6] = some y1 from h1) w1
    obtain ⟨B1, b1, d1, q1, s1⟩ := q1
    simp only [List.cons.injEq, and_true] at q1
    obtain ⟨rfl, rfl, rfl, rfl, rfl, rfl⟩ := q1
    obtain ⟨y2, h2, w2⟩ := hf 2 _ 4 rfl rfl
    obtain ⟨v2a, v2b, v2c, v2d, e2a, e2b, e2c, e2d⟩ := four_open (show DataW.trod enc Try.prog w base (fun _ => true) hd n 43 [c7, c8, c9, c10] = some y2 from h2)
    subst e2a e2b e2c e2d
    exact ⟨⟨v0, v1, v2a, v2b, v2c, v2d⟩, B1, b1, d1, rfl, s1⟩
theorem openFields {fuel : Nat} {v : Value} {x : DataW H × List MemPlace} (h : DataW.trod enc Try.prog w base (fun _ => true) hd fuel 37 [v] = some x) (hw : WOk Try.prog 37 x.1) :
    ∃ A n c l, v = .slice A n c ∧ SlB 11 120 qFieldR w (.slice A n c) l :=
  slB_open Try.underlying37 (by kernel_rfl) (by omega) (by kernel_rfl) h hw fun _ _ _ _ hy hv => openField hy hv

theorem openDep {fuel : Nat} {cs : List Value} {x : DataW H × List MemPlace} (h : DataW.trod enc Try.prog w base (fun _ => true) hd fuel 50 cs = some x) (hw : WOk Try.prog 50 x.1) : ∃ a, qDepR w cs a := by
  obtain ⟨hl, n, hf⟩ := trod_parts Try.underlying50 (k := 4) [1, 1, 1, 1] (by kernel_rfl) (by kernel_rfl) h hw
  match cs, hl with
  | [c0, c1, c2, c3], _ =>
    obtain ⟨y0, h0, w0⟩ := hf 0 _ 1 rfl rfl
    obtain ⟨B0, b0, d0, v0, e0, s0⟩ := strs_open (show DataW.trod enc Try.prog w base (fun _ => true) hd n 22 [c0] = some y0 from h0) w0
    subst e0
    obtain ⟨y1, h1, w1⟩ := hf 1 _ 1 rfl rfl
    obtain ⟨v1, e1, _, _⟩ := DataW.trod_string Try.underlying9 (show DataW.trod enc Try.prog w base (fun _ => true) hd n 9 [c1] = some y1 from h1)
    injection e1 with e1
    subst e1
    obtain ⟨y2, h2, w2⟩ := hf 2 _ 1 rfl rfl
    obtain ⟨B2, b2, d2, v2, e2, s2⟩ := nums_open (show DataW.trod enc Try.prog w base (fun _ => true) hd n 48 [c2] = some y2 from h2) w2
    subst e2
    obtain ⟨y3, h3, w3⟩ := hf 3 _ 1 rfl rfl
    obtain ⟨v3, e3, _, _⟩ := DataW.trod_int Try.underlying3 (show DataW.trod enc Try.prog w base (fun _ => true) hd n 3 [c3] = some y3 from h3)
    injection e3 with e3
    subst e3
    exact ⟨⟨v0, v1, v2, v3⟩, B0, b0, d0, B2, b2, d2, rfl, s0, s2⟩
theorem openDeps {fuel : Nat} {v : Value} {x : DataW H × List MemPlace} (h : DataW.trod enc Try.prog w base (fun _ => true) hd fuel 38 [v] = some x) (hw : WOk Try.prog 38 x.1) :
    ∃ A n c l, v = .slice A n c ∧ SlB 4 72 qDepR w (.slice A n c) l :=
  slB_open Try.underlying38 (by kernel_rfl) (by omega) (by kernel_rfl) h hw fun _ _ _ _ hy hv => openDep hy hv

theorem openSchema {fuel : Nat} {cs : List Value} {x : DataW H × List MemPlace} (h : DataW.trod enc Try.prog w base (fun _ => true) hd fuel 40 cs = some x) (hw : WOk Try.prog 40 x.1) : ∃ a, qSchemaR w cs a := by
  obtain ⟨hl, n, hf⟩ := trod_parts Try.underlying40 (k := 6) [1, 1, 1, 1, 1, 1] (by kernel_rfl) (by kernel_rfl) h hw
  match cs, hl with
  | [c0, c1, c2, c3, c4, c5], _ =>
    obtain ⟨y0, h0, w0⟩ := hf 0 _ 1 rfl rfl
    obtain ⟨v0, e0, _, _⟩ := DataW.trod_string Try.underlying9 (show DataW.trod enc Try.prog w base (fun _ => true) hd n 9 [c0] = some y0 from h0)
    injection e0 with e0
    subst e0
    obtain ⟨y1, h1, w1⟩ := hf 1 _ 1 rfl rfl
    obtain ⟨v1, e1, _, _⟩ := DataW.trod_string Try.underlying9 (show DataW.trod enc Try.prog w base (fun _ => true) hd n 9 [c1] = some y1 from h1)
    injection e1 with e1
    subst e1
    obtain ⟨y2, h2, w2⟩ := hf 2 _ 1 rfl rfl
    obtain ⟨v2, e2, _, _⟩ := DataW.trod_int Try.underlying3 (show DataW.trod enc Try.prog w base (fun _ => true) hd n 3 [c2] = some y2 from h2)
    injection e2 with e2
    subst e2
    obtain ⟨y3, h3, w3⟩ := hf 3 _ 1 rfl rfl
    obtain ⟨v3, e3, _, _⟩ := DataW.trod_int Try.underlying3 (show DataW.trod enc Try.prog w base (fun _ => true) hd n 3 [c3] = some y3 from h3)
    injection e3 with e3
    subst e3
    obtain ⟨y4, h4, w4⟩ := hf 4 _ 1 rfl rfl
    obtain ⟨B4, b4, d4, v4, e4, s4⟩ := openFields (show DataW.trod enc Try.prog w base (fun _ => true) hd n 37 [c4] = some y4 from h4) w4
    subst e4
    obtain ⟨y5, h5, w5⟩ := hf 5 _ 1 rfl rfl
    obtain ⟨B5, b5, d5, v5, e5, s5⟩ := openDeps (show DataW.trod enc Try.prog w base (fun _ => true) hd n 38 [c5] = some y5 from h5) w5
    subst e5
    exact ⟨⟨v0, v1, v2, v3, v4, v5⟩, B4, b4, d4, B5, b5, d5, rfl, s4, s5⟩
theorem openSchemas {fuel : Nat} {v : Value} {x : DataW H × List MemPlace} (h : DataW.trod enc Try.prog w base (fun _ => true) hd fuel 24 [v] = some x) (hw : WOk Try.prog 24 x.1) :
    ∃ A n c l, v = .slice A n c ∧ SlB 6 96 qSchemaR w (.slice A n c) l :=
  slB_open Try.underlying24 (by kernel_rfl) (by omega) (by kernel_rfl) h hw fun _ _ _ _ hy hv => openSchema hy hv

theorem openRule {fuel : Nat} {cs : List Value} {x : DataW H × List MemPlace} (h : DataW.trod enc Try.prog w base (fun _ => true) hd fuel 56 cs = some x) (hw : WOk Try.prog 56 x.1) : ∃ a, qRuleR w cs a := by
  obtain ⟨hl, n, hf⟩ := trod_parts Try.underlying56 (k := 5) [1, 1, 1, 1, 1] (by kernel_rfl) (by kernel_rfl) h hw
  match cs, hl with
  | [c0, c1, c2, c3, c4], _ =>
    obtain ⟨y0, h0, w0⟩ := hf 0 _ 1 rfl rfl
    obtain ⟨v0, e0, _, _⟩ := DataW.trod_string Try.underlying9 (show DataW.trod enc Try.prog w base (fun _ => true) hd n 9 [c0] = some y0 from h0)
    injection e0 with e0
    subst e0
    obtain ⟨y1, h1, w1⟩ := hf 1 _ 1 rfl rfl
    obtain ⟨v1, e1, _, _⟩ := DataW.trod_int Try.underlying3 (show DataW.trod enc Try.prog w base (fun _ => true) hd n 3 [c1] = some y1 from h1)
    injection e1 with e1
    subst e1
    obtain ⟨y2, h2, w2⟩ := hf 2 _ 1 rfl rfl
    obtain ⟨B2, b2, d2, v2, e2, s2⟩ := openFroms (show DataW.trod enc Try.prog w base (fun _ => true) hd n 52 [c2] = some y2 from h2) w2
    subst e2
    obtain ⟨y3, h3, w3⟩ := hf 3 _ 1 rfl rfl
    obtain ⟨B3, b3, d3, v3, e3, s3⟩ := openAtoms (show DataW.trod enc Try.prog w base (fun _ => true) hd n 53 [c3] = some y3 from h3) w3
    subst e3
    obtain ⟨y4, h4, w4⟩ := hf 4 _ 1 rfl rfl
    obtain ⟨B4, b4, d4, v4, e4, s4⟩ := openSets (show DataW.trod enc Try.prog w base (fun _ => true) hd n 54 [c4] = some y4 from h4) w4
    subst e4
    exact ⟨⟨v0, v1, v2, v3, v4⟩, B2, b2, d2, B3, b3, d3, B4, b4, d4, rfl, s2, s3, s4⟩
theorem openRules {fuel : Nat} {v : Value} {x : DataW H × List MemPlace} (h : DataW.trod enc Try.prog w base (fun _ => true) hd fuel 25 [v] = some x) (hw : WOk Try.prog 25 x.1) :
    ∃ A n c l, v = .slice A n c ∧ SlB 5 96 qRuleR w (.slice A n c) l :=
  slB_open Try.underlying25 (by kernel_rfl) (by omega) (by kernel_rfl) h hw fun _ _ _ _ hy hv => openRule hy hv

theorem openConvert {fuel : Nat} {cs : List Value} {x : DataW H × List MemPlace} (h : DataW.trod enc Try.prog w base (fun _ => true) hd fuel 69 cs = some x) (hw : WOk Try.prog 69 x.1) : ∃ a, qConvertR w cs a := by
  obtain ⟨hl, n, hf⟩ := trod_parts Try.underlying69 (k := 5) [1, 1, 1, 1, 1] (by kernel_rfl) (by kernel_rfl) h hw
  match cs, hl with
  | [c0, c1, c2, c3, c4], _ =>
    obtain ⟨y0, h0, w0⟩ := hf 0 _ 1 rfl rfl
    obtain ⟨v0, e0, _, _⟩ := DataW.trod_string Try.underlying9 (show DataW.trod enc Try.prog w base (fun _ => true) hd n 9 [c0] = some y0 from h0)
    injection e0 with e0
    subst e0
    obtain ⟨y1, h1, w1⟩ := hf 1 _ 1 rfl rfl
    obtain ⟨v1, e1, _, _⟩ := DataW.trod_string Try.underlying9 (show DataW.trod enc Try.prog w base (fun _ => true) hd n 9 [c1] = some y1 from h1)
    injection e1 with e1
    subst e1
    obtain ⟨y2, h2, w2⟩ := hf 2 _ 1 rfl rfl
    obtain ⟨v2, e2, _, _⟩ := DataW.trod_int Try.underlying3 (show DataW.trod enc Try.prog w base (fun _ => true) hd n 3 [c2] = some y2 from h2)
    injection e2 with e2
    subst e2
    obtain ⟨y3, h3, w3⟩ := hf 3 _ 1 rfl rfl
    obtain ⟨v3, e3, _, _⟩ := DataW.trod_int Try.underlying3 (show DataW.trod enc Try.prog w base (fun _ => true) hd n 3 [c3] = some y3 from h3)
    injection e3 with e3
    subst e3
    obtain ⟨y4, h4, w4⟩ := hf 4 _ 1 rfl rfl
    obtain ⟨B4, b4, d4, v4, e4, s4⟩ := openMoves (show DataW.trod enc Try.prog w base (fun _ => true) hd n 67 [c4] = some y4 from h4) w4
    subst e4
    exact ⟨⟨v0, v1, v2, v3, v4⟩, B4, b4, d4, rfl, s4⟩
theorem openConverts {fuel : Nat} {v : Value} {x : DataW H × List MemPlace} (h : DataW.trod enc Try.prog w base (fun _ => true) hd fuel 26 [v] = some x) (hw : WOk Try.prog 26 x.1) :
    ∃ A n c l, v = .slice A n c ∧ SlB 5 72 qConvertR w (.slice A n c) l :=
  slB_open Try.underlying26 (by kernel_rfl) (by omega) (by kernel_rfl) h hw fun _ _ _ _ hy hv => openConvert hy hv

theorem openPurpose {fuel : Nat} {cs : List Value} {x : DataW H × List MemPlace} (h : DataW.trod enc Try.prog w base (fun _ => true) hd fuel 74 cs = some x) (hw : WOk Try.prog 74 x.1) : ∃ a, qPurposeR w cs a := by
  obtain ⟨hl, n, hf⟩ := trod_parts Try.underlying74 (k := 3) [1, 1, 1] (by kernel_rfl) (by kernel_rfl) h hw
  match cs, hl with
  | [c0, c1, c2], _ =>
    obtain ⟨y0, h0, w0⟩ := hf 0 _ 1 rfl rfl
    obtain ⟨v0, e0, _, _⟩ := DataW.trod_string Try.underlying9 (show DataW.trod enc Try.prog w base (fun _ => true) hd n 9 [c0] = some y0 from h0)
    injection e0 with e0
    subst e0
    obtain ⟨y1, h1, w1⟩ := hf 1 _ 1 rfl rfl
    obtain ⟨B1, b1, d1, v1, e1, s1⟩ := openRefs (show DataW.trod enc Try.prog w base (fun _ => true) hd n 72 [c1] = some y1 from h1) w1
    subst e1
    obtain ⟨y2, h2, w2⟩ := hf 2 _ 1 rfl rfl
    obtain ⟨v2, e2, _, _⟩ := DataW.trod_int Try.underlying3 (show DataW.trod enc Try.prog w base (fun _ => true) hd n 3 [c2] = some y2 from h2)
    injection e2 with e2
    subst e2
    exact ⟨⟨v0, v1, v2⟩, B1, b1, d1, rfl, s1⟩
theorem openPurposes {fuel : Nat} {v : Value} {x : DataW H × List MemPlace} (h : DataW.trod enc Try.prog w base (fun _ => true) hd fuel 27 [v] = some x) (hw : WOk Try.prog 27 x.1) :
    ∃ A n c l, v = .slice A n c ∧ SlB 3 48 qPurposeR w (.slice A n c) l :=
  slB_open Try.underlying27 (by kernel_rfl) (by omega) (by kernel_rfl) h hw fun _ _ _ _ hy hv => openPurpose hy hv

theorem openSource {fuel : Nat} {cs : List Value} {x : DataW H × List MemPlace} (h : DataW.trod enc Try.prog w base (fun _ => true) hd fuel 29 cs = some x) (hw : WOk Try.prog 29 x.1) : ∃ a, qSourceR w cs a := by
  obtain ⟨hl, n, hf⟩ := trod_parts Try.underlying29 (k := 6) [1, 1, 1, 1, 1, 1] (by kernel_rfl) (by kernel_rfl) h hw
  match cs, hl with
  | [c0, c1, c2, c3, c4, c5], _ =>
    obtain ⟨y0, h0, w0⟩ := hf 0 _ 1 rfl rfl
    obtain ⟨B0, b0, d0, v0, e0, s0⟩ := strs_open (show DataW.trod enc Try.prog w base (fun _ => true) hd n 22 [c0] = some y0 from h0) w0
    subst e0
    obtain ⟨y1, h1, w1⟩ := hf 1 _ 1 rfl rfl
    obtain ⟨B1, b1, d1, v1, e1, s1⟩ := openUnits (show DataW.trod enc Try.prog w base (fun _ => true) hd n 23 [c1] = some y1 from h1) w1
    subst e1
    obtain ⟨y2, h2, w2⟩ := hf 2 _ 1 rfl rfl
    obtain ⟨B2, b2, d2, v2, e2, s2⟩ := openSchemas (show DataW.trod enc Try.prog w base (fun _ => true) hd n 24 [c2] = some y2 from h2) w2
    subst e2
    obtain ⟨y3, h3, w3⟩ := hf 3 _ 1 rfl rfl
    obtain ⟨B3, b3, d3, v3, e3, s3⟩ := openRules (show DataW.trod enc Try.prog w base (fun _ => true) hd n 25 [c3] = some y3 from h3) w3
    subst e3
    obtain ⟨y4, h4, w4⟩ := hf 4 _ 1 rfl rfl
    obtain ⟨B4, b4, d4, v4, e4, s4⟩ := openConverts (show DataW.trod enc Try.prog w base (fun _ => true) hd n 26 [c4] = some y4 from h4) w4
    subst e4
    obtain ⟨y5, h5, w5⟩ := hf 5 _ 1 rfl rfl
    obtain ⟨B5, b5, d5, v5, e5, s5⟩ := openPurposes (show DataW.trod enc Try.prog w base (fun _ => true) hd n 27 [c5] = some y5 from h5) w5
    subst e5
    exact ⟨⟨v0, v1, v2, v3, v4, v5⟩, B0, b0, d0, B1, b1, d1, B2, b2, d2, B3, b3, d3, B4, b4, d4, B5, b5, d5, rfl, s0, s1, s2, s3, s4, s5⟩

set_option maxRecDepth 100000 in
/-- An argument that is a source. -/
theorem arg_source {b0 : Nat} {v : Value} {d : DataW H} {ps : List MemPlace} (hv : Value.okWide Try.prog w .any b0 29 v) (h : DataW.Trod enc Try.prog w base (fun _ => true) hd 29 v d ps) (hw : WOk Try.prog 29 d) :
    ∃ A1 n1 c1 A2 n2 c2 A3 n3 c3 A4 n4 c4 A5 n5 c5 A6 n6 c6, ∃ s : QSource, v = .agg #[.slice A1 n1 c1, .slice A2 n2 c2, .slice A3 n3 c3, .slice A4 n4 c4, .slice A5 n5 c5, .slice A6 n6 c6] ∧ SlB 1 16 strR w (.slice A1 n1 c1) s.issuers ∧ SlB 5 56 qUnitR w (.slice A2 n2 c2) s.units ∧ SlB 6 96 qSchemaR w (.slice A3 n3 c3) s.schemas ∧ SlB 5 96 qRuleR w (.slice A4 n4 c4) s.rules ∧ SlB 5 72 qConvertR w (.slice A5 n5 c5) s.converts ∧ SlB 3 48 qPurposeR w (.slice A6 n6 c6) s.purposes := by
  obtain ⟨cs, hcs, _⟩ := okWide_struct Try.underlying29 hv
  clear hv
  subst hcs
  obtain ⟨fuel, hf⟩ := h
  obtain ⟨l⟩ := cs
  obtain ⟨s, A1, n1, c1, A2, n2, c2, A3, n3, c3, A4, n4, c4, A5, n5, c5, A6, n6, c6, he, h1, h2, h3, h4, h5, h6⟩ := openSource (cs := l) (x := (d, ps)) hf hw
  have h4' : l = _ := he
  subst h4'
  exact ⟨A1, n1, c1, A2, n2, c2, A3, n3, c3, A4, n4, c4, A5, n5, c5, A6, n6, c6, s, rfl, h1, h2, h3, h4, h5, h6⟩

/-- What reads, reads the same where nothing old has changed. -/
theorem trodAll_stays (hl : laidOutB P = true) {W W' : World} {sp : Nat → Bool} (hb : Below W.heap.size W W') : ∀ {ts : List TypeId} {vs : List Value} {ds : List (DataW H)} {ps : List MemPlace},
    ts.all (fun t => P.readableRec t && decide (t < P.types.size)) = true → DataW.TrodAll enc P W 0 (fun _ => true) true ts vs ds ps → (∀ x ∈ ps, x.block < W.heap.size) → (∀ x ∈ ps, sp x.block = true) →
    DataW.TrodAll enc P W' 0 sp true ts vs ds ps
  | [], _, _, _, _, h, _, _ => by
    obtain ⟨rfl, rfl, rfl⟩ := trodAll_nil h
    exact trodAll_mk0
  | t :: ts, _, _, _, ht, h, hlt, hsp => by
    obtain ⟨v, vs, d, ds, p, q, rfl, rfl, rfl, h1, h2⟩ := trodAll_cons h
    simp only [List.all_cons, Bool.and_eq_true, decide_eq_true_eq] at ht
    exact trodAll_cons_mk (WideElems.Trod_stays hl ht.1.1 ht.1.2 h1 (fun x hx => hb.same (hlt x (List.mem_append_left _ hx))) (fun x hx => hsp x (List.mem_append_left _ hx)))
      (trodAll_stays hl hb ht.2 h2 (fun x hx => hlt x (List.mem_append_right _ hx)) (fun x hx => hsp x (List.mem_append_right _ hx)))

/-- The row's last step: the law returned true, and nothing old has changed. -/
theorem law_post (hl : laidOutB P = true) {f : Func} {s : ChangeSpec} {tb : TypeId} {apart fresh handsOn : Bool} {W W' : World} {args : Array Value} {ds gs : List (DataW H)} {before : List MemPlace}
    (hW : DataW.Whole enc P f.params.toList s.vars apart W args.toList ds gs before) (hsv : s.vars = []) (hr : f.resultTypes = #[tb]) (htb : P.underlying tb = some .bool)
    (hts : f.params.toList.all (fun t => P.readableRec t && decide (t < P.types.size)) = true)
    (hres : (s.fn H (ds ++ gs)).results = [.lit (.bool true)]) (hargs : (s.fn H (ds ++ gs)).args = ds) (hvars : (s.fn H (ds ++ gs)).vars = [])
    (hb : Below W.heap.size W W') : s.post enc P f apart fresh handsOn false W args (.bool true) W' := by
  have hlt : ∀ x ∈ before, x.block < W.heap.size := fun x hx => hW.lt x hx
  have hW' := hW
  obtain ⟨p, q, hA, hV, rfl, hfz, hnd⟩ := hW
  rw [hsv] at hV
  obtain ⟨rfl, rfl⟩ := trodVars_none hV
  refine ⟨ds, [], p ++ [], [], p, [], hW', ?_, ?_, ?_, World.keptBut_mono (fun x hx => ⟨hx, ?_⟩) (hb.frame (· ∈ p ++ [])), fun h => ?_⟩
  · rw [hres, hr]
    exact trodAll_mk1 (shut_bool htb true)
  · rw [hargs]
    exact trodAll_stays hl hb hts hA (fun x hx => hlt x (List.mem_append_left _ hx)) (fun x hx => by simpa using hlt x (List.mem_append_left _ hx))
  · rw [hvars, hsv]
    exact rfl
  · exact Or.inr (Or.inl (by simpa using hx))
  · cases h
end

end Go.Proofs.Ytkkkephjljiplaa

