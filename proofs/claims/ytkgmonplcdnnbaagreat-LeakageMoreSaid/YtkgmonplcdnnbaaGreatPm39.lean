/- Opening the laws' arguments: tables and claims read as plain data, with the bounds of their slices and of the numbers of dependencies. Written by genopen2.py. -/
import Derived.Test.YtkgmonplcdnnbaaGreatPm38
import Derived.SizedLaws
namespace Go.Proofs.YtkgmonplcdnnbaaGreat
open Go.ChangeShapes Go.WideShapes Go.ChangeAt Go.RowKit Go.Deep
section
variable {H : Type} {enc : TypeId × Value → H} {P : Program} {w : World} {base : Nat} {hd : Bool}
def WOk (P : Program) (t : TypeId) (d : DataW H) : Prop := ∀ n ∈ d.weights P t, n ≤ reachBytes
theorem mem_weightsAll {e : TypeId} : ∀ {l : List (DataW H)} {d : DataW H}, d ∈ l → ∀ n ∈ d.weights P e, n ∈ DataW.weightsAll P e l
 |
  x :: r, d, hm, n, hn => by
  simp only [DataW.weightsAll, List.mem_append]
  rcases List.mem_cons.1 hm with rfl | hm
  · exact .inl hn
  · exact .inr (mem_weightsAll hm n hn)
 | [], _, hm, _, _ => by cases hm
theorem slB_open {α : Type} {sz bytes : Nat} {R : World → List Value → α → Prop} {t e : TypeId} {fuel : Nat} {v : Value} {x : DataW H × List MemPlace} (ht : P.underlying t = some (.slice e)) (hC : P.cellsOf e = sz) (hz : 0 < sz) (hby : P.bytesOf e = bytes)
 (h : DataW.trod enc P w base (fun _ => true) hd fuel t [v] = some x) (hw : WOk P t x.1)
 (hR : ∀ (n : Nat) (cs : List Value) (y : DataW H × List MemPlace), cs.length = sz → DataW.trod enc P w base (fun _ => true) hd n e cs = some y → WOk P e y.1 → ∃ a, R w cs a) :
 ∃ A n c l, v = .slice A n c ∧ SlB sz bytes R w (.slice A n c) l := by
 rcases open_slice ht h with ⟨hcs, _⟩ | ⟨a, len, cap, m, n, D, Pl, hcs, hb, hl, hm, hmm, hx, hi⟩
 ·
  injection hcs with hcs
  exact ⟨none, 0, 0, [], hcs, SlR.nil _ _ (Nat.zero_le _), by simp⟩
 ·
  injection hcs with hcs
  have hmc : m = cap := by rw [hmm]; simp
  subst hmc
  rw [hC] at hi
  subst hx
  have hwt : ∀ n ∈ (DataW.slice ((List.range len).map D) ((List.range (m - len)).map fun j => D (len + j))).weights P t, n ≤ reachBytes := hw
  simp only [DataW.weights, ht] at hwt
  have hbound : len * bytes ≤ 140737488355328 := by
   have h1 := hwt _ List.mem_cons_self
   simp only [List.length_map, List.length_range, hby] at h1
   have h2 : len * bytes ≤ (len + (m - len)) * bytes := Nat.mul_le_mul_right _ (by omega)
   have h3 : reachBytes ≤ 140737488355328 := by decide
   omega
  have hex : ∀ i, i < len → ∃ (x : α) (cs : List Value), w.cells? base (a.add (i * sz)) sz = some cs ∧ R w cs x := by
   intro i hlt
   obtain ⟨cs, h1, h2⟩ := hi i (by omega)
   obtain ⟨y, hy⟩ := hR _ cs _ (World.cells?_some h1).2.1 h2 (fun n hn => hwt n (List.mem_cons_of_mem _ (List.mem_append_left _ (mem_weightsAll (List.mem_map.2 ⟨i, List.mem_range.2 hlt, rfl⟩) n hn))))
   exact ⟨y, cs, h1, hy⟩
  refine ⟨some a, len, m, List.ofFn (fun i : Fin len => Classical.choose (hex i.1 i.2)), hcs, ⟨some a, m, by simp, by simpa using hl, hm, fun i x hix => ?_⟩, by simpa using hbound⟩
  rw [List.getElem?_ofFn] at hix
  split at hix
  ·
   rename_i hlt
   injection hix with hix
   obtain ⟨cs, h1, h2⟩ := Classical.choose_spec (hex i hlt)
   rw [hix] at h2
   have hsp : a.spot = none := by
    obtain ⟨_, cs0, h3, _⟩ := hex 0 (by omega)
    obtain ⟨_, k1, k2⟩ := World.cells?_some h3
    have k3 := k2 0 hz
    rw [List.getElem?_eq_getElem (by omega)] at k3
    have := World.cell?_spot k3
    simpa [Addr.add] using this
   obtain ⟨b, off, spot⟩ := a
   subst hsp
   obtain ⟨_, k1, k2⟩ := World.cells?_some h1
   have hcell : ∀ j u, cs[j]? = some u → w.cell? ⟨b, off + (i * sz + j), none⟩ = some u := by
    intro j u hu
    have hj : j < sz := by
     have := (List.getElem?_eq_some_iff.1 hu).1
     omega
    have := k2 j hj
    rw [addr_plus, addr_plus, hu] at this
    rw [← this, Nat.add_assoc]
   refine ⟨b, off, cs, rfl, ?_, k1, hcell, h2⟩
   have h0 := hcell 0 cs[0] (List.getElem?_eq_getElem (by omega))
   exact World.block_lt_of_cell? _ _ h0
  · exact absurd hix (by simp)
theorem trod_parts {t : TypeId} {fs : Array Field} {fuel k : Nat} {cs : List Value} {x : DataW H × List MemPlace} {sp : Nat → Bool} (ht : P.underlying t = some (.struct fs)) (ks : List Nat) (hks : fs.toList.map (fun f => P.cellsOf f.type) = ks) (hC : P.cellsOf t = k)
 (h : DataW.trod enc P w base sp hd fuel t cs = some x) (hw : WOk P t x.1) :
 cs.length = k ∧ ∃ n, ∀ (i : Nat) (f : Field) (c : Nat), fs[i]? = some f → ks[i]? = some c → ∃ y, DataW.trod enc P w base sp hd n f.type ((cs.drop f.offset).take c) = some y ∧ WOk P f.type y.1 := by
 obtain ⟨xs, n, _, hx, hl, hxl, hf⟩ := DataW.trod_struct ht h
 refine ⟨hl.trans hC, n, fun i f c hi hc => ?_⟩
 have hcc : c = P.cellsOf f.type := by
  rw [← hks, List.getElem?_map] at hc
  have h2 : fs.toList[i]? = some f := by simpa using hi
  rw [h2, Option.map_some, Option.some.injEq] at hc
  exact hc.symm
 subst hcc
 have hlt : i < fs.size := (Array.getElem?_eq_some_iff.1 hi).1
 have h1 := hf i f hi
 rw [List.getElem?_eq_getElem (by omega)] at h1
 refine ⟨_, h1, fun m hm => hw m ?_⟩
 subst hx
 show m ∈ (DataW.agg (xs.map (·.1))).weights P t
 simp only [DataW.weights, ht]
 exact DataW.weights_mem_each (j := i) (t := f.type) (d := (xs[i]'(by omega)).1) (by rw [List.getElem?_map]; simp [hi]) (by rw [List.getElem?_map, List.getElem?_eq_getElem (by omega)]; rfl) m hm
theorem SlR.split {α : Type} {sz : Nat} {R : World → List Value → α → Prop} {Q : α → Prop} {w : World} {v : Value} {l : List α} (h : SlR sz (fun w cs x => R w cs x ∧ Q x) w v l) : SlR sz R w v l ∧ ∀ x ∈ l, Q x := by
 obtain ⟨A, cap, e, h1, h2, h3⟩ := h
 refine ⟨⟨A, cap, e, h1, h2, fun i y hi => ?_⟩, fun x hx => ?_⟩
 ·
  obtain ⟨b, off, cs, e1, e2, e3, e4, e5, _⟩ := h3 i y hi
  exact ⟨b, off, cs, e1, e2, e3, e4, e5⟩
 ·
  obtain ⟨i, hi⟩ := List.getElem?_of_mem hx
  obtain ⟨b, off, cs, e1, e2, e3, e4, _, e5⟩ := h3 i x hi
  exact e5
theorem SlB.split {α : Type} {sz by_ : Nat} {R : World → List Value → α → Prop} {Q : α → Prop} {w : World} {v : Value} {l : List α} (h : SlB sz by_ (fun w cs x => R w cs x ∧ Q x) w v l) : SlB sz by_ R w v l ∧ ∀ x ∈ l, Q x :=
 ⟨⟨h.1.split.1, h.2⟩, h.1.split.2⟩
theorem strs_open {fuel : Nat} {v : Value} {x : DataW H × List MemPlace} (h : DataW.trod enc Tryz.prog w base (fun _ => true) hd fuel 22 [v] = some x) (hw : WOk Tryz.prog 22 x.1) :
 ∃ A n c l, v = .slice A n c ∧ SlB 1 16 strR w (.slice A n c) l :=
 slB_open Tryz.underlying22 (by kernel_rfl) (by omega) (by kernel_rfl) h hw fun n cs y hl hy _ => by
  obtain ⟨s, rfl, _, _⟩ := DataW.trod_string Tryz.underlying9 hy
  exact ⟨s, rfl⟩
theorem nums_open {fuel : Nat} {v : Value} {x : DataW H × List MemPlace} (h : DataW.trod enc Tryz.prog w base (fun _ => true) hd fuel 30 [v] = some x) (hw : WOk Tryz.prog 30 x.1) :
 ∃ A n c l, v = .slice A n c ∧ SlB 1 8 iR w (.slice A n c) l ∧ ∀ x ∈ l, isI64 x := by
 obtain ⟨A, n, c, l, e, hs⟩ := slB_open (sz := 1) (bytes := 8) (R := fun w cs x => iR w cs x ∧ isI64 x) Tryz.underlying30 (by kernel_rfl) (by omega) (by kernel_rfl) h hw fun n cs y hl hy _ => by
  obtain ⟨k, rfl, _, hk⟩ := DataW.trod_int Tryz.underlying3 hy
  exact ⟨k, rfl, by simpa [isI64, Lit.wf, IntKind.min, IntKind.max, IntKind.signed, IntKind.bits] using hk⟩
 exact ⟨A, n, c, l, e, hs.split⟩
theorem four_open {fuel : Nat} {c0 c1 c2 c3 : Value} {x : DataW H × List MemPlace} (h : DataW.trod enc Tryz.prog w base (fun _ => true) hd fuel 56 [c0, c1, c2, c3] = some x) :
 ∃ a b c d, c0 = .int .i64 a ∧ c1 = .int .i64 b ∧ c2 = .int .i64 c ∧ c3 = .int .i64 d := by
 obtain ⟨xs, m, _, _, _, hxl, hf⟩ := DataW.trod_array Tryz.underlying56 h
 have hone : Tryz.prog.cellsOf 3 = 1 := by kernel_rfl
 rw [hone] at hf
 have hg : ∀ i (hi : i < 4), ∃ y, DataW.trod enc Tryz.prog w base (fun _ => true) hd m 3 (([c0, c1, c2, c3].drop (i * 1)).take 1) = some y := fun i hi => ⟨_, (hf i hi).trans (List.getElem?_eq_getElem (by omega))⟩
 obtain ⟨y0, h0⟩ := hg 0 (by omega)
 obtain ⟨y1, h1⟩ := hg 1 (by omega)
 obtain ⟨y2, h2⟩ := hg 2 (by omega)
 obtain ⟨y3, h3⟩ := hg 3 (by omega)
 obtain ⟨a, e0, _, _⟩ := DataW.trod_int Tryz.underlying3 h0
 obtain ⟨b, e1, _, _⟩ := DataW.trod_int Tryz.underlying3 h1
 obtain ⟨c, e2, _, _⟩ := DataW.trod_int Tryz.underlying3 h2
 obtain ⟨d, e3, _, _⟩ := DataW.trod_int Tryz.underlying3 h3
 simp at e0 e1 e2 e3
 exact ⟨a, b, c, d, e0, e1, e2, e3⟩
theorem openUnit {fuel : Nat} {cs : List Value} {x : DataW H × List MemPlace} (h : DataW.trod enc Tryz.prog w base (fun _ => true) hd fuel 116 cs = some x) (hw : WOk Tryz.prog 116 x.1) : ∃ a, qUnitR w cs a := by
 obtain ⟨hl, n, hf⟩ := trod_parts Tryz.underlying116 (k := 5) [1, 1, 1, 1, 1] (by kernel_rfl) (by kernel_rfl) h hw
 match cs, hl with
 |
  [c0, c1, c2, c3, c4], _ =>
  obtain ⟨y0, h0, w0⟩ := hf 0 _ 1 rfl rfl
  obtain ⟨v0, e0, _, _⟩ := DataW.trod_string Tryz.underlying9 (show DataW.trod enc Tryz.prog w base (fun _ => true) hd n 9 [c0] = some y0 from h0)
  injection e0 with e0
  subst e0
  obtain ⟨y1, h1, w1⟩ := hf 1 _ 1 rfl rfl
  obtain ⟨v1, e1, _, _⟩ := DataW.trod_string Tryz.underlying9 (show DataW.trod enc Tryz.prog w base (fun _ => true) hd n 9 [c1] = some y1 from h1)
  injection e1 with e1
  subst e1
  obtain ⟨y2, h2, w2⟩ := hf 2 _ 1 rfl rfl
  obtain ⟨v2, e2, _, _⟩ := DataW.trod_int Tryz.underlying3 (show DataW.trod enc Tryz.prog w base (fun _ => true) hd n 3 [c2] = some y2 from h2)
  injection e2 with e2
  subst e2
  obtain ⟨y3, h3, w3⟩ := hf 3 _ 1 rfl rfl
  obtain ⟨v3, e3, _, _⟩ := DataW.trod_int Tryz.underlying3 (show DataW.trod enc Tryz.prog w base (fun _ => true) hd n 3 [c3] = some y3 from h3)
  injection e3 with e3
  subst e3
  obtain ⟨y4, h4, w4⟩ := hf 4 _ 1 rfl rfl
  obtain ⟨v4, e4, _, _⟩ := DataW.trod_int Tryz.underlying3 (show DataW.trod enc Tryz.prog w base (fun _ => true) hd n 3 [c4] = some y4 from h4)
  injection e4 with e4
  subst e4
  exact ⟨⟨v0, v1, v2, v3, v4⟩, rfl⟩
theorem openUnits {fuel : Nat} {v : Value} {x : DataW H × List MemPlace} (h : DataW.trod enc Tryz.prog w base (fun _ => true) hd fuel 23 [v] = some x) (hw : WOk Tryz.prog 23 x.1) :
 ∃ A n c l, v = .slice A n c ∧ SlB 5 56 qUnitR w (.slice A n c) l :=
 slB_open Tryz.underlying23 (by kernel_rfl) (by omega) (by kernel_rfl) h hw fun _ _ _ _ hy hv => openUnit hy hv
theorem openTerm {fuel : Nat} {cs : List Value} {x : DataW H × List MemPlace} (h : DataW.trod enc Tryz.prog w base (fun _ => true) hd fuel 190 cs = some x) (hw : WOk Tryz.prog 190 x.1) : ∃ a, qTermR w cs a := by
 obtain ⟨hl, n, hf⟩ := trod_parts Tryz.underlying190 (k := 5) [1, 1, 1, 1, 1] (by kernel_rfl) (by kernel_rfl) h hw
 match cs, hl with
 |
  [c0, c1, c2, c3, c4], _ =>
  obtain ⟨y0, h0, w0⟩ := hf 0 _ 1 rfl rfl
  obtain ⟨v0, e0, _, _⟩ := DataW.trod_string Tryz.underlying9 (show DataW.trod enc Tryz.prog w base (fun _ => true) hd n 9 [c0] = some y0 from h0)
  injection e0 with e0
  subst e0
  obtain ⟨y1, h1, w1⟩ := hf 1 _ 1 rfl rfl
  obtain ⟨v1, e1, _, _⟩ := DataW.trod_string Tryz.underlying9 (show DataW.trod enc Tryz.prog w base (fun _ => true) hd n 9 [c1] = some y1 from h1)
  injection e1 with e1
  subst e1
  obtain ⟨y2, h2, w2⟩ := hf 2 _ 1 rfl rfl
  obtain ⟨v2, e2, _, _⟩ := DataW.trod_int Tryz.underlying3 (show DataW.trod enc Tryz.prog w base (fun _ => true) hd n 3 [c2] = some y2 from h2)
  injection e2 with e2
  subst e2
  obtain ⟨y3, h3, w3⟩ := hf 3 _ 1 rfl rfl
  obtain ⟨v3, e3, _, _⟩ := DataW.trod_int Tryz.underlying3 (show DataW.trod enc Tryz.prog w base (fun _ => true) hd n 3 [c3] = some y3 from h3)
  injection e3 with e3
  subst e3
  obtain ⟨y4, h4, w4⟩ := hf 4 _ 1 rfl rfl
  obtain ⟨v4, e4, _, _⟩ := DataW.trod_int Tryz.underlying3 (show DataW.trod enc Tryz.prog w base (fun _ => true) hd n 3 [c4] = some y4 from h4)
  injection e4 with e4
  subst e4
  exact ⟨⟨v0, v1, v2, v3, v4⟩, rfl⟩
theorem openAtom {fuel : Nat} {cs : List Value} {x : DataW H × List MemPlace} (h : DataW.trod enc Tryz.prog w base (fun _ => true) hd fuel 192 cs = some x) (hw : WOk Tryz.prog 192 x.1) : ∃ a, qAtomR w cs a := by
 obtain ⟨hl, n, hf⟩ := trod_parts Tryz.underlying192 (k := 11) [1, 5, 5] (by kernel_rfl) (by kernel_rfl) h hw
 match cs, hl with
 |
  [c0, c1, c2, c3, c4, c5, c6, c7, c8, c9, c10], _ =>
  obtain ⟨y0, h0, w0⟩ := hf 0 _ 1 rfl rfl
  obtain ⟨v0, e0, _, _⟩ := DataW.trod_int Tryz.underlying3 (show DataW.trod enc Tryz.prog w base (fun _ => true) hd n 3 [c0] = some y0 from h0)
  injection e0 with e0
  subst e0
  obtain ⟨y1, h1, w1⟩ := hf 1 _ 5 rfl rfl
  obtain ⟨v1, q1⟩ := openTerm (show DataW.trod enc Tryz.prog w base (fun _ => true) hd n 190 [c1, c2, c3, c4, c5] = some y1 from h1) w1
  have q1 : [c1, c2, c3, c4, c5] = _ := q1
  simp only [List.cons.injEq, and_true] at q1
  obtain ⟨rfl, rfl, rfl, rfl, rfl⟩ := q1
  obtain ⟨y2, h2, w2⟩ := hf 2 _ 5 rfl rfl
  obtain ⟨v2, q2⟩ := openTerm (show DataW.trod enc Tryz.prog w base (fun _ => true) hd n 190 [c6, c7, c8, c9, c10] = some y2 from h2) w2
  have q2 : [c6, c7, c8, c9, c10] = _ := q2
  simp only [List.cons.injEq, and_true] at q2
  obtain ⟨rfl, rfl, rfl, rfl, rfl⟩ := q2
  exact ⟨⟨v0, v1, v2⟩, rfl⟩
theorem openAtoms {fuel : Nat} {v : Value} {x : DataW H × List MemPlace} (h : DataW.trod enc Tryz.prog w base (fun _ => true) hd fuel 80 [v] = some x) (hw : WOk Tryz.prog 80 x.1) :
 ∃ A n c l, v = .slice A n c ∧ SlB 11 120 qAtomR w (.slice A n c) l :=
 slB_open Tryz.underlying80 (by kernel_rfl) (by omega) (by kernel_rfl) h hw fun _ _ _ _ hy hv => openAtom hy hv
theorem openFrom {fuel : Nat} {cs : List Value} {x : DataW H × List MemPlace} (h : DataW.trod enc Tryz.prog w base (fun _ => true) hd fuel 205 cs = some x) (hw : WOk Tryz.prog 205 x.1) : ∃ a, qFromR w cs a := by
 obtain ⟨hl, n, hf⟩ := trod_parts Tryz.underlying205 (k := 8) [1, 1, 1, 5] (by kernel_rfl) (by kernel_rfl) h hw
 match cs, hl with
 |
  [c0, c1, c2, c3, c4, c5, c6, c7], _ =>
  obtain ⟨y0, h0, w0⟩ := hf 0 _ 1 rfl rfl
  obtain ⟨v0, e0, _, _⟩ := DataW.trod_string Tryz.underlying9 (show DataW.trod enc Tryz.prog w base (fun _ => true) hd n 9 [c0] = some y0 from h0)
  injection e0 with e0
  subst e0
  obtain ⟨y1, h1, w1⟩ := hf 1 _ 1 rfl rfl
  obtain ⟨v1, e1, _, _⟩ := DataW.trod_string Tryz.underlying9 (show DataW.trod enc Tryz.prog w base (fun _ => true) hd n 9 [c1] = some y1 from h1)
  injection e1 with e1
  subst e1
  obtain ⟨y2, h2, w2⟩ := hf 2 _ 1 rfl rfl
  obtain ⟨v2, e2, _, _⟩ := DataW.trod_int Tryz.underlying3 (show DataW.trod enc Tryz.prog w base (fun _ => true) hd n 3 [c2] = some y2 from h2)
  injection e2 with e2
  subst e2
  obtain ⟨y3, h3, w3⟩ := hf 3 _ 5 rfl rfl
  obtain ⟨v3, q3⟩ := openTerm (show DataW.trod enc Tryz.prog w base (fun _ => true) hd n 190 [c3, c4, c5, c6, c7] = some y3 from h3) w3
  have q3 : [c3, c4, c5, c6, c7] = _ := q3
  simp only [List.cons.injEq, and_true] at q3
  obtain ⟨rfl, rfl, rfl, rfl, rfl⟩ := q3
  exact ⟨⟨v0, v1, v2, v3⟩, rfl⟩
theorem openFroms {fuel : Nat} {v : Value} {x : DataW H × List MemPlace} (h : DataW.trod enc Tryz.prog w base (fun _ => true) hd fuel 79 [v] = some x) (hw : WOk Tryz.prog 79 x.1) :
 ∃ A n c l, v = .slice A n c ∧ SlB 8 96 qFromR w (.slice A n c) l :=
 slB_open Tryz.underlying79 (by kernel_rfl) (by omega) (by kernel_rfl) h hw fun _ _ _ _ hy hv => openFrom hy hv
theorem openSet {fuel : Nat} {cs : List Value} {x : DataW H × List MemPlace} (h : DataW.trod enc Tryz.prog w base (fun _ => true) hd fuel 195 cs = some x) (hw : WOk Tryz.prog 195 x.1) : ∃ a, qSetR w cs a := by
 obtain ⟨hl, n, hf⟩ := trod_parts Tryz.underlying195 (k := 7) [1, 1, 5] (by kernel_rfl) (by kernel_rfl) h hw
 match cs, hl with
 |
  [c0, c1, c2, c3, c4, c5, c6], _ =>
  obtain ⟨y0, h0, w0⟩ := hf 0 _ 1 rfl rfl
  obtain ⟨v0, e0, _, _⟩ := DataW.trod_string Tryz.underlying9 (show DataW.trod enc Tryz.prog w base (fun _ => true) hd n 9 [c0] = some y0 from h0)
  injection e0 with e0
  subst e0
  obtain ⟨y1, h1, w1⟩ := hf 1 _ 1 rfl rfl
  obtain ⟨v1, e1, _, _⟩ := DataW.trod_int Tryz.underlying3 (show DataW.trod enc Tryz.prog w base (fun _ => true) hd n 3 [c1] = some y1 from h1)
  injection e1 with e1
  subst e1
  obtain ⟨y2, h2, w2⟩ := hf 2 _ 5 rfl rfl
  obtain ⟨v2, q2⟩ := openTerm (show DataW.trod enc Tryz.prog w base (fun _ => true) hd n 190 [c2, c3, c4, c5, c6] = some y2 from h2) w2
  have q2 : [c2, c3, c4, c5, c6] = _ := q2
  simp only [List.cons.injEq, and_true] at q2
  obtain ⟨rfl, rfl, rfl, rfl, rfl⟩ := q2
  exact ⟨⟨v0, v1, v2⟩, rfl⟩
theorem openSets {fuel : Nat} {v : Value} {x : DataW H × List MemPlace} (h : DataW.trod enc Tryz.prog w base (fun _ => true) hd fuel 81 [v] = some x) (hw : WOk Tryz.prog 81 x.1) :
 ∃ A n c l, v = .slice A n c ∧ SlB 7 80 qSetR w (.slice A n c) l :=
 slB_open Tryz.underlying81 (by kernel_rfl) (by omega) (by kernel_rfl) h hw fun _ _ _ _ hy hv => openSet hy hv
theorem openMove {fuel : Nat} {cs : List Value} {x : DataW H × List MemPlace} (h : DataW.trod enc Tryz.prog w base (fun _ => true) hd fuel 202 cs = some x) (hw : WOk Tryz.prog 202 x.1) : ∃ a, qMoveR w cs a := by
 obtain ⟨hl, n, hf⟩ := trod_parts Tryz.underlying202 (k := 5) [1, 1, 1, 1, 1] (by kernel_rfl) (by kernel_rfl) h hw
 match cs, hl with
 |
  [c0, c1, c2, c3, c4], _ =>
  obtain ⟨y0, h0, w0⟩ := hf 0 _ 1 rfl rfl
  obtain ⟨v0, e0, _, _⟩ := DataW.trod_string Tryz.underlying9 (show DataW.trod enc Tryz.prog w base (fun _ => true) hd n 9 [c0] = some y0 from h0)
  injection e0 with e0
  subst e0
  obtain ⟨y1, h1, w1⟩ := hf 1 _ 1 rfl rfl
  obtain ⟨v1, e1, _, _⟩ := DataW.trod_string Tryz.underlying9 (show DataW.trod enc Tryz.prog w base (fun _ => true) hd n 9 [c1] = some y1 from h1)
  injection e1 with e1
  subst e1
  obtain ⟨y2, h2, w2⟩ := hf 2 _ 1 rfl rfl
  obtain ⟨v2, e2, _, _⟩ := DataW.trod_int Tryz.underlying3 (show DataW.trod enc Tryz.prog w base (fun _ => true) hd n 3 [c2] = some y2 from h2)
  injection e2 with e2
  subst e2
  obtain ⟨y3, h3, w3⟩ := hf 3 _ 1 rfl rfl
  obtain ⟨v3, e3, _, _⟩ := DataW.trod_int Tryz.underlying3 (show DataW.trod enc Tryz.prog w base (fun _ => true) hd n 3 [c3] = some y3 from h3)
  injection e3 with e3
  subst e3
  obtain ⟨y4, h4, w4⟩ := hf 4 _ 1 rfl rfl
  obtain ⟨v4, e4, _, _⟩ := DataW.trod_int Tryz.underlying3 (show DataW.trod enc Tryz.prog w base (fun _ => true) hd n 3 [c4] = some y4 from h4)
  injection e4 with e4
  subst e4
  exact ⟨⟨v0, v1, v2, v3, v4⟩, rfl⟩
theorem openMoves {fuel : Nat} {v : Value} {x : DataW H × List MemPlace} (h : DataW.trod enc Tryz.prog w base (fun _ => true) hd fuel 84 [v] = some x) (hw : WOk Tryz.prog 84 x.1) :
 ∃ A n c l, v = .slice A n c ∧ SlB 5 56 qMoveR w (.slice A n c) l :=
 slB_open Tryz.underlying84 (by kernel_rfl) (by omega) (by kernel_rfl) h hw fun _ _ _ _ hy hv => openMove hy hv
theorem openRef {fuel : Nat} {cs : List Value} {x : DataW H × List MemPlace} (h : DataW.trod enc Tryz.prog w base (fun _ => true) hd fuel 160 cs = some x) (hw : WOk Tryz.prog 160 x.1) : ∃ a, qRefR w cs a := by
 obtain ⟨hl, n, hf⟩ := trod_parts Tryz.underlying160 (k := 4) [1, 1, 1, 1] (by kernel_rfl) (by kernel_rfl) h hw
 match cs, hl with
 |
  [c0, c1, c2, c3], _ =>
  obtain ⟨y0, h0, w0⟩ := hf 0 _ 1 rfl rfl
  obtain ⟨v0, e0, _, _⟩ := DataW.trod_string Tryz.underlying9 (show DataW.trod enc Tryz.prog w base (fun _ => true) hd n 9 [c0] = some y0 from h0)
  injection e0 with e0
  subst e0
  obtain ⟨y1, h1, w1⟩ := hf 1 _ 1 rfl rfl
  obtain ⟨v1, e1, _, _⟩ := DataW.trod_string Tryz.underlying9 (show DataW.trod enc Tryz.prog w base (fun _ => true) hd n 9 [c1] = some y1 from h1)
  injection e1 with e1
  subst e1
  obtain ⟨y2, h2, w2⟩ := hf 2 _ 1 rfl rfl
  obtain ⟨v2, e2, _, _⟩ := DataW.trod_int Tryz.underlying3 (show DataW.trod enc Tryz.prog w base (fun _ => true) hd n 3 [c2] = some y2 from h2)
  injection e2 with e2
  subst e2
  obtain ⟨y3, h3, w3⟩ := hf 3 _ 1 rfl rfl
  obtain ⟨v3, e3, _, _⟩ := DataW.trod_int Tryz.underlying3 (show DataW.trod enc Tryz.prog w base (fun _ => true) hd n 3 [c3] = some y3 from h3)
  injection e3 with e3
  subst e3
  exact ⟨⟨v0, v1, v2, v3⟩, rfl⟩
theorem openRefs {fuel : Nat} {v : Value} {x : DataW H × List MemPlace} (h : DataW.trod enc Tryz.prog w base (fun _ => true) hd fuel 87 [v] = some x) (hw : WOk Tryz.prog 87 x.1) :
 ∃ A n c l, v = .slice A n c ∧ SlB 4 48 qRefR w (.slice A n c) l :=
 slB_open Tryz.underlying87 (by kernel_rfl) (by omega) (by kernel_rfl) h hw fun _ _ _ _ hy hv => openRef hy hv
theorem openType {fuel : Nat} {cs : List Value} {x : DataW H × List MemPlace} (h : DataW.trod enc Tryz.prog w base (fun _ => true) hd fuel 55 cs = some x) (hw : WOk Tryz.prog 55 x.1) : ∃ a, qTypeR w cs a := by
 obtain ⟨hl, n, hf⟩ := trod_parts Tryz.underlying55 (k := 6) [1, 1, 1, 1, 1, 1] (by kernel_rfl) (by kernel_rfl) h hw
 match cs, hl with
 |
  [c0, c1, c2, c3, c4, c5], _ =>
  obtain ⟨y0, h0, w0⟩ := hf 0 _ 1 rfl rfl
  obtain ⟨v0, e0, _, _⟩ := DataW.trod_int Tryz.underlying3 (show DataW.trod enc Tryz.prog w base (fun _ => true) hd n 3 [c0] = some y0 from h0)
  injection e0 with e0
  subst e0
  obtain ⟨y1, h1, w1⟩ := hf 1 _ 1 rfl rfl
  obtain ⟨v1, e1, _, _⟩ := DataW.trod_int Tryz.underlying3 (show DataW.trod enc Tryz.prog w base (fun _ => true) hd n 3 [c1] = some y1 from h1)
  injection e1 with e1
  subst e1
  obtain ⟨y2, h2, w2⟩ := hf 2 _ 1 rfl rfl
  obtain ⟨v2, e2, _, _⟩ := DataW.trod_int Tryz.underlying3 (show DataW.trod enc Tryz.prog w base (fun _ => true) hd n 3 [c2] = some y2 from h2)
  injection e2 with e2
  subst e2
  obtain ⟨y3, h3, w3⟩ := hf 3 _ 1 rfl rfl
  obtain ⟨v3, e3, _, _⟩ := DataW.trod_string Tryz.underlying9 (show DataW.trod enc Tryz.prog w base (fun _ => true) hd n 9 [c3] = some y3 from h3)
  injection e3 with e3
  subst e3
  obtain ⟨y4, h4, w4⟩ := hf 4 _ 1 rfl rfl
  obtain ⟨v4, e4, _, _⟩ := DataW.trod_int Tryz.underlying3 (show DataW.trod enc Tryz.prog w base (fun _ => true) hd n 3 [c4] = some y4 from h4)
  injection e4 with e4
  subst e4
  obtain ⟨y5, h5, w5⟩ := hf 5 _ 1 rfl rfl
  obtain ⟨B5, b5, d5, v5, e5, s5⟩ := strs_open (show DataW.trod enc Tryz.prog w base (fun _ => true) hd n 22 [c5] = some y5 from h5) w5
  subst e5
  exact ⟨⟨v0, v1, v2, v3, v4, v5⟩, B5, b5, d5, rfl, s5⟩
theorem openField {fuel : Nat} {cs : List Value} {x : DataW H × List MemPlace} (h : DataW.trod enc Tryz.prog w base (fun _ => true) hd fuel 58 cs = some x) (hw : WOk Tryz.prog 58 x.1) : ∃ a, qFieldR w cs a := by
 obtain ⟨hl, n, hf⟩ := trod_parts Tryz.underlying58 (k := 11) [1, 6, 4] (by kernel_rfl) (by kernel_rfl) h hw
 match cs, hl with
 |
  [c0, c1, c2, c3, c4, c5, c6, c7, c8, c9, c10], _ =>
  obtain ⟨y0, h0, w0⟩ := hf 0 _ 1 rfl rfl
  obtain ⟨v0, e0, _, _⟩ := DataW.trod_string Tryz.underlying9 (show DataW.trod enc Tryz.prog w base (fun _ => true) hd n 9 [c0] = some y0 from h0)
  injection e0 with e0
  subst e0
  obtain ⟨y1, h1, w1⟩ := hf 1 _ 6 rfl rfl
  obtain ⟨v1, q1⟩ := openType (show DataW.trod enc Tryz.prog w base (fun _ => true) hd n 55 [c1, c2, c3, c4, c5, c6] = some y1 from h1) w1
  obtain ⟨B1, b1, d1, q1, s1⟩ := q1
  simp only [List.cons.injEq, and_true] at q1
  obtain ⟨rfl, rfl, rfl, rfl, rfl, rfl⟩ := q1
  obtain ⟨y2, h2, w2⟩ := hf 2 _ 4 rfl rfl
  obtain ⟨v2a, v2b, v2c, v2d, e2a, e2b, e2c, e2d⟩ := four_open (show DataW.trod enc Tryz.prog w base (fun _ => true) hd n 56 [c7, c8, c9, c10] = some y2 from h2)
  subst e2a e2b e2c e2d
  exact ⟨⟨v0, v1, v2a, v2b, v2c, v2d⟩, B1, b1, d1, rfl, s1⟩
theorem openFields {fuel : Nat} {v : Value} {x : DataW H × List MemPlace} (h : DataW.trod enc Tryz.prog w base (fun _ => true) hd fuel 49 [v] = some x) (hw : WOk Tryz.prog 49 x.1) :
 ∃ A n c l, v = .slice A n c ∧ SlB 11 120 qFieldR w (.slice A n c) l :=
 slB_open Tryz.underlying49 (by kernel_rfl) (by omega) (by kernel_rfl) h hw fun _ _ _ _ hy hv => openField hy hv
theorem openDep {fuel : Nat} {cs : List Value} {x : DataW H × List MemPlace} (h : DataW.trod enc Tryz.prog w base (fun _ => true) hd fuel 75 cs = some x) (hw : WOk Tryz.prog 75 x.1) : ∃ a, qDepR w cs a ∧ depI64 a := by
 obtain ⟨hl, n, hf⟩ := trod_parts Tryz.underlying75 (k := 4) [1, 1, 1, 1] (by kernel_rfl) (by kernel_rfl) h hw
 match cs, hl with
 |
  [c0, c1, c2, c3], _ =>
  obtain ⟨y0, h0, w0⟩ := hf 0 _ 1 rfl rfl
  obtain ⟨B0, b0, d0, v0, e0, s0⟩ := strs_open (show DataW.trod enc Tryz.prog w base (fun _ => true) hd n 22 [c0] = some y0 from h0) w0
  subst e0
  obtain ⟨y1, h1, w1⟩ := hf 1 _ 1 rfl rfl
  obtain ⟨v1, e1, _, _⟩ := DataW.trod_string Tryz.underlying9 (show DataW.trod enc Tryz.prog w base (fun _ => true) hd n 9 [c1] = some y1 from h1)
  injection e1 with e1
  subst e1
  obtain ⟨y2, h2, w2⟩ := hf 2 _ 1 rfl rfl
  obtain ⟨B2, b2, d2, v2, e2, s2, t2⟩ := nums_open (show DataW.trod enc Tryz.prog w base (fun _ => true) hd n 30 [c2] = some y2 from h2) w2
  subst e2
  obtain ⟨y3, h3, w3⟩ := hf 3 _ 1 rfl rfl
  obtain ⟨v3, e3, _, k3⟩ := DataW.trod_int Tryz.underlying3 (show DataW.trod enc Tryz.prog w base (fun _ => true) hd n 3 [c3] = some y3 from h3)
  injection e3 with e3
  subst e3
  have k3 : isI64 v3 := by simpa [isI64, Lit.wf, IntKind.min, IntKind.max, IntKind.signed, IntKind.bits] using k3
  exact ⟨⟨v0, v1, v2, v3⟩, ⟨B0, b0, d0, B2, b2, d2, rfl, s0, s2⟩, ⟨t2, k3⟩⟩
theorem openDeps {fuel : Nat} {v : Value} {x : DataW H × List MemPlace} (h : DataW.trod enc Tryz.prog w base (fun _ => true) hd fuel 50 [v] = some x) (hw : WOk Tryz.prog 50 x.1) :
 ∃ A n c l, v = .slice A n c ∧ SlB 4 72 qDepR w (.slice A n c) l ∧ ∀ x ∈ l, depI64 x := by
 obtain ⟨A, n, c, l, e, hs⟩ := slB_open (sz := 4) (bytes := 72) (R := fun w cs x => qDepR w cs x ∧ depI64 x) Tryz.underlying50 (by kernel_rfl) (by omega) (by kernel_rfl) h hw fun _ _ _ _ hy hv => openDep hy hv
 exact ⟨A, n, c, l, e, hs.split⟩
theorem openSchema {fuel : Nat} {cs : List Value} {x : DataW H × List MemPlace} (h : DataW.trod enc Tryz.prog w base (fun _ => true) hd fuel 52 cs = some x) (hw : WOk Tryz.prog 52 x.1) : ∃ a, qSchemaR w cs a ∧ ∀ d ∈ a.deps, depI64 d := by
 obtain ⟨hl, n, hf⟩ := trod_parts Tryz.underlying52 (k := 6) [1, 1, 1, 1, 1, 1] (by kernel_rfl) (by kernel_rfl) h hw
 match cs, hl with
 |
  [c0, c1, c2, c3, c4, c5], _ =>
  obtain ⟨y0, h0, w0⟩ := hf 0 _ 1 rfl rfl
  obtain ⟨v0, e0, _, _⟩ := DataW.trod_string Tryz.underlying9 (show DataW.trod enc Tryz.prog w base (fun _ => true) hd n 9 [c0] = some y0 from h0)
  injection e0 with e0
  subst e0
  obtain ⟨y1, h1, w1⟩ := hf 1 _ 1 rfl rfl
  obtain ⟨v1, e1, _, _⟩ := DataW.trod_string Tryz.underlying9 (show DataW.trod enc Tryz.prog w base (fun _ => true) hd n 9 [c1] = some y1 from h1)
  injection e1 with e1
  subst e1
  obtain ⟨y2, h2, w2⟩ := hf 2 _ 1 rfl rfl
  obtain ⟨v2, e2, _, _⟩ := DataW.trod_int Tryz.underlying3 (show DataW.trod enc Tryz.prog w base (fun _ => true) hd n 3 [c2] = some y2 from h2)
  injection e2 with e2
  subst e2
  obtain ⟨y3, h3, w3⟩ := hf 3 _ 1 rfl rfl
  obtain ⟨v3, e3, _, _⟩ := DataW.trod_int Tryz.underlying3 (show DataW.trod enc Tryz.prog w base (fun _ => true) hd n 3 [c3] = some y3 from h3)
  injection e3 with e3
  subst e3
  obtain ⟨y4, h4, w4⟩ := hf 4 _ 1 rfl rfl
  obtain ⟨B4, b4, d4, v4, e4, s4⟩ := openFields (show DataW.trod enc Tryz.prog w base (fun _ => true) hd n 49 [c4] = some y4 from h4) w4
  subst e4
  obtain ⟨y5, h5, w5⟩ := hf 5 _ 1 rfl rfl
  obtain ⟨B5, b5, d5, v5, e5, s5, t5⟩ := openDeps (show DataW.trod enc Tryz.prog w base (fun _ => true) hd n 50 [c5] = some y5 from h5) w5
  subst e5
  exact ⟨⟨v0, v1, v2, v3, v4, v5⟩, ⟨B4, b4, d4, B5, b5, d5, rfl, s4, s5⟩, t5⟩
theorem openSchemas {fuel : Nat} {v : Value} {x : DataW H × List MemPlace} (h : DataW.trod enc Tryz.prog w base (fun _ => true) hd fuel 24 [v] = some x) (hw : WOk Tryz.prog 24 x.1) :
 ∃ A n c l, v = .slice A n c ∧ SlB 6 96 qSchemaR w (.slice A n c) l ∧ ∀ x ∈ l, ∀ d ∈ x.deps, depI64 d := by
 obtain ⟨A, n, c, l, e, hs⟩ := slB_open (sz := 6) (bytes := 96) (R := fun w cs x => qSchemaR w cs x ∧ ∀ d ∈ x.deps, depI64 d) Tryz.underlying24 (by kernel_rfl) (by omega) (by kernel_rfl) h hw fun _ _ _ _ hy hv => openSchema hy hv
 exact ⟨A, n, c, l, e, hs.split⟩
theorem openRule {fuel : Nat} {cs : List Value} {x : DataW H × List MemPlace} (h : DataW.trod enc Tryz.prog w base (fun _ => true) hd fuel 83 cs = some x) (hw : WOk Tryz.prog 83 x.1) : ∃ a, qRuleR w cs a := by
 obtain ⟨hl, n, hf⟩ := trod_parts Tryz.underlying83 (k := 5) [1, 1, 1, 1, 1] (by kernel_rfl) (by kernel_rfl) h hw
 match cs, hl with
 |
  [c0, c1, c2, c3, c4], _ =>
  obtain ⟨y0, h0, w0⟩ := hf 0 _ 1 rfl rfl
  obtain ⟨v0, e0, _, _⟩ := DataW.trod_string Tryz.underlying9 (show DataW.trod enc Tryz.prog w base (fun _ => true) hd n 9 [c0] = some y0 from h0)
  injection e0 with e0
  subst e0
  obtain ⟨y1, h1, w1⟩ := hf 1 _ 1 rfl rfl
  obtain ⟨v1, e1, _, _⟩ := DataW.trod_int Tryz.underlying3 (show DataW.trod enc Tryz.prog w base (fun _ => true) hd n 3 [c1] = some y1 from h1)
  injection e1 with e1
  subst e1
  obtain ⟨y2, h2, w2⟩ := hf 2 _ 1 rfl rfl
  obtain ⟨B2, b2, d2, v2, e2, s2⟩ := openFroms (show DataW.trod enc Tryz.prog w base (fun _ => true) hd n 79 [c2] = some y2 from h2) w2
  subst e2
  obtain ⟨y3, h3, w3⟩ := hf 3 _ 1 rfl rfl
  obtain ⟨B3, b3, d3, v3, e3, s3⟩ := openAtoms (show DataW.trod enc Tryz.prog w base (fun _ => true) hd n 80 [c3] = some y3 from h3) w3
  subst e3
  obtain ⟨y4, h4, w4⟩ := hf 4 _ 1 rfl rfl
  obtain ⟨B4, b4, d4, v4, e4, s4⟩ := openSets (show DataW.trod enc Tryz.prog w base (fun _ => true) hd n 81 [c4] = some y4 from h4) w4
  subst e4
  exact ⟨⟨v0, v1, v2, v3, v4⟩, B2, b2, d2, B3, b3, d3, B4, b4, d4, rfl, s2, s3, s4⟩
theorem openRules {fuel : Nat} {v : Value} {x : DataW H × List MemPlace} (h : DataW.trod enc Tryz.prog w base (fun _ => true) hd fuel 25 [v] = some x) (hw : WOk Tryz.prog 25 x.1) :
 ∃ A n c l, v = .slice A n c ∧ SlB 5 96 qRuleR w (.slice A n c) l :=
 slB_open Tryz.underlying25 (by kernel_rfl) (by omega) (by kernel_rfl) h hw fun _ _ _ _ hy hv => openRule hy hv
theorem openConvert {fuel : Nat} {cs : List Value} {x : DataW H × List MemPlace} (h : DataW.trod enc Tryz.prog w base (fun _ => true) hd fuel 86 cs = some x) (hw : WOk Tryz.prog 86 x.1) : ∃ a, qConvertR w cs a := by
 obtain ⟨hl, n, hf⟩ := trod_parts Tryz.underlying86 (k := 5) [1, 1, 1, 1, 1] (by kernel_rfl) (by kernel_rfl) h hw
 match cs, hl with
 |
  [c0, c1, c2, c3, c4], _ =>
  obtain ⟨y0, h0, w0⟩ := hf 0 _ 1 rfl rfl
  obtain ⟨v0, e0, _, _⟩ := DataW.trod_string Tryz.underlying9 (show DataW.trod enc Tryz.prog w base (fun _ => true) hd n 9 [c0] = some y0 from h0)
  injection e0 with e0
  subst e0
  obtain ⟨y1, h1, w1⟩ := hf 1 _ 1 rfl rfl
  obtain ⟨v1, e1, _, _⟩ := DataW.trod_string Tryz.underlying9 (show DataW.trod enc Tryz.prog w base (fun _ => true) hd n 9 [c1] = some y1 from h1)
  injection e1 with e1
  subst e1
  obtain ⟨y2, h2, w2⟩ := hf 2 _ 1 rfl rfl
  obtain ⟨v2, e2, _, _⟩ := DataW.trod_int Tryz.underlying3 (show DataW.trod enc Tryz.prog w base (fun _ => true) hd n 3 [c2] = some y2 from h2)
  injection e2 with e2
  subst e2
  obtain ⟨y3, h3, w3⟩ := hf 3 _ 1 rfl rfl
  obtain ⟨v3, e3, _, _⟩ := DataW.trod_int Tryz.underlying3 (show DataW.trod enc Tryz.prog w base (fun _ => true) hd n 3 [c3] = some y3 from h3)
  injection e3 with e3
  subst e3
  obtain ⟨y4, h4, w4⟩ := hf 4 _ 1 rfl rfl
  obtain ⟨B4, b4, d4, v4, e4, s4⟩ := openMoves (show DataW.trod enc Tryz.prog w base (fun _ => true) hd n 84 [c4] = some y4 from h4) w4
  subst e4
  exact ⟨⟨v0, v1, v2, v3, v4⟩, B4, b4, d4, rfl, s4⟩
theorem openConverts {fuel : Nat} {v : Value} {x : DataW H × List MemPlace} (h : DataW.trod enc Tryz.prog w base (fun _ => true) hd fuel 26 [v] = some x) (hw : WOk Tryz.prog 26 x.1) :
 ∃ A n c l, v = .slice A n c ∧ SlB 5 72 qConvertR w (.slice A n c) l :=
 slB_open Tryz.underlying26 (by kernel_rfl) (by omega) (by kernel_rfl) h hw fun _ _ _ _ hy hv => openConvert hy hv
theorem openPurpose {fuel : Nat} {cs : List Value} {x : DataW H × List MemPlace} (h : DataW.trod enc Tryz.prog w base (fun _ => true) hd fuel 89 cs = some x) (hw : WOk Tryz.prog 89 x.1) : ∃ a, qPurposeR w cs a := by
 obtain ⟨hl, n, hf⟩ := trod_parts Tryz.underlying89 (k := 3) [1, 1, 1] (by kernel_rfl) (by kernel_rfl) h hw
 match cs, hl with
 |
  [c0, c1, c2], _ =>
  obtain ⟨y0, h0, w0⟩ := hf 0 _ 1 rfl rfl
  obtain ⟨v0, e0, _, _⟩ := DataW.trod_string Tryz.underlying9 (show DataW.trod enc Tryz.prog w base (fun _ => true) hd n 9 [c0] = some y0 from h0)
  injection e0 with e0
  subst e0
  obtain ⟨y1, h1, w1⟩ := hf 1 _ 1 rfl rfl
  obtain ⟨B1, b1, d1, v1, e1, s1⟩ := openRefs (show DataW.trod enc Tryz.prog w base (fun _ => true) hd n 87 [c1] = some y1 from h1) w1
  subst e1
  obtain ⟨y2, h2, w2⟩ := hf 2 _ 1 rfl rfl
  obtain ⟨v2, e2, _, _⟩ := DataW.trod_int Tryz.underlying3 (show DataW.trod enc Tryz.prog w base (fun _ => true) hd n 3 [c2] = some y2 from h2)
  injection e2 with e2
  subst e2
  exact ⟨⟨v0, v1, v2⟩, B1, b1, d1, rfl, s1⟩
theorem openPurposes {fuel : Nat} {v : Value} {x : DataW H × List MemPlace} (h : DataW.trod enc Tryz.prog w base (fun _ => true) hd fuel 27 [v] = some x) (hw : WOk Tryz.prog 27 x.1) :
 ∃ A n c l, v = .slice A n c ∧ SlB 3 48 qPurposeR w (.slice A n c) l :=
 slB_open Tryz.underlying27 (by kernel_rfl) (by omega) (by kernel_rfl) h hw fun _ _ _ _ hy hv => openPurpose hy hv
theorem openSource {fuel : Nat} {cs : List Value} {x : DataW H × List MemPlace} (h : DataW.trod enc Tryz.prog w base (fun _ => true) hd fuel 29 cs = some x) (hw : WOk Tryz.prog 29 x.1) : ∃ a, qSourceR w cs a ∧ ∀ y ∈ a.schemas, ∀ d ∈ y.deps, depI64 d := by
 obtain ⟨hl, n, hf⟩ := trod_parts Tryz.underlying29 (k := 6) [1, 1, 1, 1, 1, 1] (by kernel_rfl) (by kernel_rfl) h hw
 match cs, hl with
 |
  [c0, c1, c2, c3, c4, c5], _ =>
  obtain ⟨y0, h0, w0⟩ := hf 0 _ 1 rfl rfl
  obtain ⟨B0, b0, d0, v0, e0, s0⟩ := strs_open (show DataW.trod enc Tryz.prog w base (fun _ => true) hd n 22 [c0] = some y0 from h0) w0
  subst e0
  obtain ⟨y1, h1, w1⟩ := hf 1 _ 1 rfl rfl
  obtain ⟨B1, b1, d1, v1, e1, s1⟩ := openUnits (show DataW.trod enc Tryz.prog w base (fun _ => true) hd n 23 [c1] = some y1 from h1) w1
  subst e1
  obtain ⟨y2, h2, w2⟩ := hf 2 _ 1 rfl rfl
  obtain ⟨B2, b2, d2, v2, e2, s2, t2⟩ := openSchemas (show DataW.trod enc Tryz.prog w base (fun _ => true) hd n 24 [c2] = some y2 from h2) w2
  subst e2
  obtain ⟨y3, h3, w3⟩ := hf 3 _ 1 rfl rfl
  obtain ⟨B3, b3, d3, v3, e3, s3⟩ := openRules (show DataW.trod enc Tryz.prog w base (fun _ => true) hd n 25 [c3] = some y3 from h3) w3
  subst e3
  obtain ⟨y4, h4, w4⟩ := hf 4 _ 1 rfl rfl
  obtain ⟨B4, b4, d4, v4, e4, s4⟩ := openConverts (show DataW.trod enc Tryz.prog w base (fun _ => true) hd n 26 [c4] = some y4 from h4) w4
  subst e4
  obtain ⟨y5, h5, w5⟩ := hf 5 _ 1 rfl rfl
  obtain ⟨B5, b5, d5, v5, e5, s5⟩ := openPurposes (show DataW.trod enc Tryz.prog w base (fun _ => true) hd n 27 [c5] = some y5 from h5) w5
  subst e5
  exact ⟨⟨v0, v1, v2, v3, v4, v5⟩, ⟨B0, b0, d0, B1, b1, d1, B2, b2, d2, B3, b3, d3, B4, b4, d4, B5, b5, d5, rfl, s0, s1, s2, s3, s4, s5⟩, t2⟩
set_option maxRecDepth 100000 in
theorem arg_tables {b0 : Nat} {v : Value} {d : DataW H} {ps : List MemPlace} (hv : Value.okWide Tryz.prog w .any b0 32 v) (h : DataW.Trod enc Tryz.prog w base (fun _ => true) hd 32 v d ps) (hw : WOk Tryz.prog 32 d) :
 ∃ A1 n1 c1 A2 n2 c2 A3 n3 c3 A4 n4 c4 A5 n5 c5 A6 n6 c6 A7 n7 c7, ∃ (s : QSource) (l : List Int), v = .agg #[.slice A1 n1 c1, .slice A2 n2 c2, .slice A3 n3 c3, .slice A4 n4 c4, .slice A5 n5 c5, .slice A6 n6 c6, .slice A7 n7 c7] ∧ SlB 1 16 strR w (.slice A1 n1 c1) s.issuers ∧ SlB 5 56 qUnitR w (.slice A2 n2 c2) s.units ∧ SlB 6 96 qSchemaR w (.slice A3 n3 c3) s.schemas ∧ SlB 5 96 qRuleR w (.slice A4 n4 c4) s.rules ∧ SlB 5 72 qConvertR w (.slice A5 n5 c5) s.converts ∧ SlB 3 48 qPurposeR w (.slice A6 n6 c6) s.purposes ∧ SlR 1 iR w (.slice A7 n7 c7) l ∧ ∀ x ∈ s.schemas, ∀ d ∈ x.deps, depI64 d := by
 obtain ⟨cs, hcs, _⟩ := okWide_struct Tryz.underlying32 hv
 clear hv
 subst hcs
 obtain ⟨fuel, hf⟩ := h
 obtain ⟨cl⟩ := cs
 obtain ⟨hl, n, hp⟩ := trod_parts Tryz.underlying32 (k := 7) [6, 1] (by kernel_rfl) (by kernel_rfl) hf hw
 match cl, hl with
 |
  [u1, u2, u3, u4, u5, u6, u7], _ =>
  obtain ⟨y0, h0, w0⟩ := hp 0 _ 6 rfl rfl
  obtain ⟨s, ⟨A1, n1, c1, A2, n2, c2, A3, n3, c3, A4, n4, c4, A5, n5, c5, A6, n6, c6, he, h1, h2, h3, h4, h5, h6⟩, hI⟩ := openSource (show DataW.trod enc Tryz.prog w base (fun _ => true) hd n 29 [u1, u2, u3, u4, u5, u6] = some y0 from h0) w0
  simp only [List.cons.injEq, and_true] at he
  obtain ⟨rfl, rfl, rfl, rfl, rfl, rfl⟩ := he
  obtain ⟨y1, h1', w1⟩ := hp 1 _ 1 rfl rfl
  obtain ⟨A7, n7, c7, l, rfl, h7, _⟩ := nums_open (show DataW.trod enc Tryz.prog w base (fun _ => true) hd n 30 [u7] = some y1 from h1') w1
  exact ⟨A1, n1, c1, A2, n2, c2, A3, n3, c3, A4, n4, c4, A5, n5, c5, A6, n6, c6, A7, n7, c7, s, l, rfl, h1, h2, h3, h4, h5, h6, h7.1, hI⟩
theorem ints_of_split {w : World} {v : Value} {l : List Int} {b : Nat} (h : SlB 1 b iR w v l ∧ ∀ x ∈ l, isI64 x) : SlR 1 intR w v l := ints_of_i h.1.1 h.2
theorem openClaims {fuel : Nat} {cs : List Value} {x : DataW H × List MemPlace} (h : DataW.trod enc Tryz.prog w base (fun _ => true) hd fuel 42 cs = some x) (hw : WOk Tryz.prog 42 x.1) : ∃ a, qClaimsR w cs a := by
 obtain ⟨hl, n, hf⟩ := trod_parts Tryz.underlying42 (k := 3) [1, 1, 1] (by kernel_rfl) (by kernel_rfl) h hw
 match cs, hl with
 |
  [c0, c1, c2], _ =>
  obtain ⟨y0, h0, w0⟩ := hf 0 _ 1 rfl rfl
  obtain ⟨v0, e0, _, k0⟩ := DataW.trod_int Tryz.underlying3 (show DataW.trod enc Tryz.prog w base (fun _ => true) hd n 3 [c0] = some y0 from h0)
  injection e0 with e0
  subst e0
  obtain ⟨y1, h1, w1⟩ := hf 1 _ 1 rfl rfl
  obtain ⟨B1, b1, d1, v1, e1, s1⟩ := nums_open (show DataW.trod enc Tryz.prog w base (fun _ => true) hd n 30 [c1] = some y1 from h1) w1
  subst e1
  obtain ⟨y2, h2, w2⟩ := hf 2 _ 1 rfl rfl
  obtain ⟨B2, b2, d2, v2, e2, s2⟩ := nums_open (show DataW.trod enc Tryz.prog w base (fun _ => true) hd n 30 [c2] = some y2 from h2) w2
  subst e2
  exact ⟨⟨v0, v1, v2⟩, B1, b1, d1, B2, b2, d2, rfl, ints_of_split s1, ints_of_split s2⟩
set_option maxRecDepth 100000 in
theorem arg_claims {b0 : Nat} {v : Value} {d : DataW H} {ps : List MemPlace} (hv : Value.okWide Tryz.prog w .any b0 42 v) (h : DataW.Trod enc Tryz.prog w base (fun _ => true) hd 42 v d ps) (hw : WOk Tryz.prog 42 d) :
 ∃ B m d C k e, ∃ x : QClaims, v = .agg #[.int .i64 x.schema, .slice B m d, .slice C k e] ∧ SlR 1 intR w (.slice B m d) x.fields ∧ SlR 1 intR w (.slice C k e) x.values := by
 obtain ⟨cs, hcs, _⟩ := okWide_struct Tryz.underlying42 hv
 clear hv
 subst hcs
 obtain ⟨fuel, hf⟩ := h
 obtain ⟨cl⟩ := cs
 obtain ⟨x, B, m, d', C, k, e, he, h1, h2⟩ := openClaims (cs := cl) (x := (d, ps)) hf hw
 subst he
 exact ⟨B, m, d', C, k, e, x, rfl, h1, h2⟩
end
end Go.Proofs.YtkgmonplcdnnbaaGreat
