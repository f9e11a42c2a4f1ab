/- Opening the laws' arguments: schemas, dependencies, instances and lists of numbers read as plain lists; and the row's last step. -/
import Derived.Test.YtejjggchjoifoaaRows
import Derived.Test.YtejjggchjoifoaaDepPairs
import Derived.ProofKit
import Derived.Deep.Slices
import Derived.Deep.Fields
import Derived.OpenShut
namespace Go.Proofs.Ytejjggchjoifoaa
open Go.ChangeShapes Go.WideShapes Go.ChangeAt Go.RowKit Go.Deep

section
variable {H : Type} {enc : TypeId × Value → H} {P : Program} {w : World} {base : Nat} {hd : Bool}

theorem addr_plus (b off k : Nat) : (Addr.mk b off none).add k = ⟨b, off + k, none⟩ := by
  unfold Addr.add
  split
  · subst_vars; rfl
  · rfl

/-- A slice whose elements all read, reads as a list. -/
theorem slR_open {α : Type} {sz : Nat} {R : World → List Value → α → Prop} {t e : TypeId} {fuel : Nat} {v : Value} {x : DataW H × List MemPlace} (ht : P.underlying t = some (.slice e)) (hC : P.cellsOf e = sz) (hz : 0 < sz)
    (h : DataW.trod enc P w base (fun _ => true) hd fuel t [v] = some x)
    (hR : ∀ (n : Nat) (cs : List Value) (y : DataW H × List MemPlace), cs.length = sz → DataW.trod enc P w base (fun _ => true) hd n e cs = some y → ∃ a, R w cs a) :
    ∃ A n c l, v = .slice A n c ∧ SlR sz R w (.slice A n c) l := by
  rcases open_slice ht h with ⟨hcs, _⟩ | ⟨a, len, cap, m, n, D, Pl, hcs, hb, hl, hm, hmm, hx, hi⟩
  · injection hcs with hcs
    exact ⟨none, 0, 0, [], hcs, SlR.nil _ _ (Nat.zero_le _)⟩
  · injection hcs with hcs
    have hmc : m = cap := by rw [hmm]; simp
    subst hmc
    rw [hC] at hi
    have hex : ∀ i, i < len → ∃ (x : α) (cs : List Value), w.cells? base (a.add (i * sz)) sz = some cs ∧ R w cs x := by
      intro i hlt
      obtain ⟨cs, h1, h2⟩ := hi i (by omega)
      obtain ⟨y, hy⟩ := hR _ cs _ (World.cells?_some h1).2.1 h2
      exact ⟨y, cs, h1, hy⟩
    refine ⟨some a, len, m, List.ofFn (fun i : Fin len => Classical.choose (hex i.1 i.2)), hcs, some a, m, by simp, by simpa using hl, hm, fun i x hix => ?_⟩
    rw [List.getElem?_ofFn] at hix
    split at hix
    · rename_i hlt
      injection hix with hix
      obtain ⟨cs, h1, h2⟩ := Classical.choose_spec (hex i hlt)
      rw [hix] at h2
      have hsp : a.spot = none := by
        obtain ⟨_, cs0, h3, _⟩ := hex 0 (by omega)
        obtain ⟨_, k1, k2⟩ := World.cells?_some h3
        have k3 := k2 0 hz
        rw [List.getElem?_eq_getElem (by omega)] at k3
        have := World.cell?_spot k3
        simpa [Addr.add] using this
      obtain ⟨b, off, spot⟩ := a
      subst hsp
      obtain ⟨_, k1, k2⟩ := World.cells?_some h1
      have hcell : ∀ j u, cs[j]? = some u → w.cell? ⟨b, off + (i * sz + j), none⟩ = some u := by
        intro j u hu
        have hj : j < sz := by
          have := (List.getElem?_eq_some_iff.1 hu).1
          omega
        have := k2 j hj
        rw [addr_plus, addr_plus, hu] at this
        rw [← this, Nat.add_assoc]
      refine ⟨b, off, cs, rfl, ?_, k1, hcell, h2⟩
      have h0 := hcell 0 cs[0] (List.getElem?_eq_getElem (by omega))
      exact World.block_lt_of_cell? _ _ h0
    · exact absurd hix (by simp)

/-- A struct of one-cell fields: each field reads. -/
theorem trod_fields {t : TypeId} {fs : Array Field} {fuel : Nat} {cs : List Value} {x : DataW H × List MemPlace} {sp : Nat → Bool} (ht : P.underlying t = some (.struct fs)) (hone : oneCellFields P fs = true) (hC : P.cellsOf t = fs.size)
    (h : DataW.trod enc P w base sp hd fuel t cs = some x) :
    cs.length = fs.size ∧ ∃ n, ∀ (i : Nat) (f : Field) (c : Value), fs[i]? = some f → cs[i]? = some c → ∃ y, DataW.trod enc P w base sp hd n f.type [c] = some y := by
  obtain ⟨xs, n, _, _, hl, hxl, hf⟩ := DataW.trod_struct ht h
  refine ⟨hl.trans hC, n, fun i f c hi hc => ?_⟩
  obtain ⟨ho, hk⟩ := hone_of hone i f hi
  have hlt : i < fs.size := (Array.getElem?_eq_some_iff.1 hi).1
  have h1 := hf i f hi
  rw [ho, hk, List.getElem?_eq_getElem (by omega)] at h1
  have h2 : (cs.drop i).take 1 = [c] := by
    have hlc := (List.getElem?_eq_some_iff.1 hc)
    obtain ⟨h3, h4⟩ := hlc
    rw [List.drop_eq_getElem_cons h3, h4]
    rfl
  rw [h2] at h1
  exact ⟨_, h1⟩

theorem ints_open {fuel : Nat} {v : Value} {x : DataW H × List MemPlace} (h : DataW.trod enc Try.prog w base (fun _ => true) hd fuel 26 [v] = some x) :
    ∃ A n c l, v = .slice A n c ∧ SlR 1 intR w (.slice A n c) l :=
  slR_open Try.underlying26 (by kernel_rfl) (by omega) h fun n cs y hl hy => by
    obtain ⟨k, rfl, _, hk⟩ := DataW.trod_int Try.underlying3 hy
    exact ⟨k, rfl, by simpa [Lit.wf, IntKind.min, IntKind.max, IntKind.signed, IntKind.bits] using hk⟩

theorem dep_open {fuel : Nat} {cs : List Value} {x : DataW H × List MemPlace} (h : DataW.trod enc Try.prog w base (fun _ => true) hd fuel 29 cs = some x) : ∃ d, depR w cs d := by
  obtain ⟨hl, n, hf⟩ := trod_fields Try.underlying29 (by kernel_rfl) (by kernel_rfl) h
  match cs, hl with
  | [c0, c1, c2, c3], _ =>
    obtain ⟨y0, h0⟩ := hf 0 _ c0 rfl rfl
    obtain ⟨y1, h1⟩ := hf 1 _ c1 rfl rfl
    obtain ⟨y2, h2⟩ := hf 2 _ c2 rfl rfl
    obtain ⟨y3, h3⟩ := hf 3 _ c3 rfl rfl
    obtain ⟨k, e3, _, hk⟩ := DataW.trod_int Try.underlying3 h3
    obtain ⟨s, e1, _, _⟩ := DataW.trod_string Try.underlying9 h1
    obtain ⟨A, m, c, l, rfl, hs⟩ := ints_open h2
    injection e3 with e3
    injection e1 with e1
    subst e3 e1
    have hk' : -9223372036854775808 ≤ k ∧ k ≤ 9223372036854775807 := by simpa [Lit.wf, IntKind.min, IntKind.max, IntKind.signed, IntKind.bits] using hk
    rcases open_slice Try.underlying27 h0 with ⟨e0, _⟩ | ⟨a, len, cap, _, _, _, _, e0, _⟩
    all_goals
      injection e0 with e0
      subst e0
      exact ⟨⟨l, k⟩, _, _, _, s, A, m, c, rfl, hs, hk'⟩

theorem deps_open {fuel : Nat} {v : Value} {x : DataW H × List MemPlace} (h : DataW.trod enc Try.prog w base (fun _ => true) hd fuel 23 [v] = some x) :
    ∃ A n c l, v = .slice A n c ∧ SlR 4 depR w (.slice A n c) l :=
  slR_open Try.underlying23 (by kernel_rfl) (by omega) h fun _ _ _ _ hy => dep_open hy

theorem inst_open {fuel : Nat} {cs : List Value} {x : DataW H × List MemPlace} (h : DataW.trod enc Try.prog w base (fun _ => true) hd fuel 49 cs = some x) : ∃ d, instR w cs d := by
  obtain ⟨hl, n, hf⟩ := trod_fields Try.underlying49 (by kernel_rfl) (by kernel_rfl) h
  match cs, hl with
  | [c0, c1, c2, c3], _ =>
    obtain ⟨y0, h0⟩ := hf 0 _ c0 rfl rfl
    obtain ⟨y1, h1⟩ := hf 1 _ c1 rfl rfl
    obtain ⟨y2, h2⟩ := hf 2 _ c2 rfl rfl
    obtain ⟨y3, h3⟩ := hf 3 _ c3 rfl rfl
    obtain ⟨k0, e0, _, _⟩ := DataW.trod_int Try.underlying3 h0
    obtain ⟨k1, e1, _, _⟩ := DataW.trod_int Try.underlying3 h1
    obtain ⟨k2, e2, _, _⟩ := DataW.trod_int Try.underlying3 h2
    obtain ⟨A, m, c, l, rfl, hs⟩ := ints_open h3
    injection e0 with e0
    injection e1 with e1
    injection e2 with e2
    subst e0 e1 e2
    exact ⟨l, k0, k1, k2, A, m, c, rfl, hs⟩

theorem insts_open {fuel : Nat} {v : Value} {x : DataW H × List MemPlace} (h : DataW.trod enc Try.prog w base (fun _ => true) hd fuel 40 [v] = some x) :
    ∃ A n c l, v = .slice A n c ∧ SlR 4 instR w (.slice A n c) l :=
  slR_open Try.underlying40 (by kernel_rfl) (by omega) h fun _ _ _ _ hy => inst_open hy

/-- An argument that is a list of numbers. -/
theorem arg_ints {b0 : Nat} {v : Value} {d : DataW H} {ps : List MemPlace} (hv : Value.okWide Try.prog w .any b0 26 v) (h : DataW.Trod enc Try.prog w base (fun _ => true) hd 26 v d ps) :
    ∃ A n c l, v = .slice A n c ∧ SlR 1 intR w (.slice A n c) l := by
  obtain ⟨A, n, c, rfl⟩ := okWide_slice Try.underlying26 hv
  obtain ⟨fuel, hf⟩ := h
  exact ints_open hf
theorem arg_insts {b0 : Nat} {v : Value} {d : DataW H} {ps : List MemPlace} (hv : Value.okWide Try.prog w .any b0 40 v) (h : DataW.Trod enc Try.prog w base (fun _ => true) hd 40 v d ps) :
    ∃ A n c l, v = .slice A n c ∧ SlR 4 instR w (.slice A n c) l := by
  obtain ⟨A, n, c, rfl⟩ := okWide_slice Try.underlying40 hv
  obtain ⟨fuel, hf⟩ := h
  exact insts_open hf
theorem arg_dep {b0 : Nat} {v : Value} {d : DataW H} {ps : List MemPlace} (hv : Value.okWide Try.prog w .any b0 29 v) (h : DataW.Trod enc Try.prog w base (fun _ => true) hd 29 v d ps) :
    ∃ nA nn nc s A n c x, v = .agg #[.slice nA nn nc, .string s, .slice A n c, .int .i64 (Dep.dst x)] ∧ SlR 1 intR w (.slice A n c) x.src ∧ -9223372036854775808 ≤ x.dst ∧ x.dst ≤ 9223372036854775807 := by
  obtain ⟨cs, rfl, _⟩ := okWide_struct Try.underlying29 hv
  obtain ⟨fuel, hf⟩ := h
  obtain ⟨x, nA, nn, nc, s, A, n, c, h1, h2, h3⟩ := dep_open hf
  obtain ⟨l⟩ := cs
  have h4 : l = _ := h1
  subst h4
  exact ⟨nA, nn, nc, s, A, n, c, x, rfl, h2, h3⟩
theorem arg_schema {b0 : Nat} {v : Value} {d : DataW H} {ps : List MemPlace} (hv : Value.okWide Try.prog w .any b0 25 v) (h : DataW.Trod enc Try.prog w base (fun _ => true) hd 25 v d ps) :
    ∃ s1 s2 i1 i2 fA nf fc dA nd dc ds, v = .agg #[.string s1, .string s2, .int .i64 i1, .int .i64 i2, .slice fA nf fc, .slice dA nd dc] ∧ nf ≤ 9223372036854775807 ∧ SlR 4 depR w (.slice dA nd dc) ds := by
  obtain ⟨cs, rfl, _⟩ := okWide_struct Try.underlying25 hv
  obtain ⟨fuel, hf⟩ := h
  obtain ⟨l⟩ := cs
  obtain ⟨hl, n, hf⟩ := trod_fields Try.underlying25 (by kernel_rfl) (by kernel_rfl) hf
  match l, hl with
  | [c0, c1, c2, c3, c4, c5], _ =>
    obtain ⟨y0, h0⟩ := hf 0 _ c0 rfl rfl
    obtain ⟨y1, h1⟩ := hf 1 _ c1 rfl rfl
    obtain ⟨y2, h2⟩ := hf 2 _ c2 rfl rfl
    obtain ⟨y3, h3⟩ := hf 3 _ c3 rfl rfl
    obtain ⟨y4, h4⟩ := hf 4 _ c4 rfl rfl
    obtain ⟨y5, h5⟩ := hf 5 _ c5 rfl rfl
    obtain ⟨s1, e0, _, _⟩ := DataW.trod_string Try.underlying9 h0
    obtain ⟨s2, e1, _, _⟩ := DataW.trod_string Try.underlying9 h1
    obtain ⟨i1, e2, _, _⟩ := DataW.trod_int Try.underlying3 h2
    obtain ⟨i2, e3, _, _⟩ := DataW.trod_int Try.underlying3 h3
    obtain ⟨dA, nd, dc, ds, rfl, hs⟩ := deps_open h5
    injection e0 with e0
    injection e1 with e1
    injection e2 with e2
    injection e3 with e3
    subst e0 e1 e2 e3
    rcases open_slice Try.underlying22 h4 with ⟨e4, _⟩ | ⟨a, len, cap, _, _, _, _, e4, _, hlc, hcm, _⟩
    · injection e4 with e4
      subst e4
      exact ⟨s1, s2, i1, i2, _, _, _, dA, nd, dc, ds, rfl, by omega, hs⟩
    · injection e4 with e4
      subst e4
      unfold maxLen at hcm
      exact ⟨s1, s2, i1, i2, _, _, _, dA, nd, dc, ds, rfl, by omega, hs⟩

/-- What reads, reads the same where nothing old has changed. -/
theorem trodAll_stays (hl : laidOutB P = true) {W W' : World} {sp : Nat → Bool} (hb : Below W.heap.size W W') : ∀ {ts : List TypeId} {vs : List Value} {ds : List (DataW H)} {ps : List MemPlace},
    ts.all (fun t => P.readableRec t && decide (t < P.types.size)) = true → DataW.TrodAll enc P W 0 (fun _ => true) true ts vs ds ps → (∀ x ∈ ps, x.block < W.heap.size) → (∀ x ∈ ps, sp x.block = true) →
    DataW.TrodAll enc P W' 0 sp true ts vs ds ps
  | [], _, _, _, _, h, _, _ => by
    obtain ⟨rfl, rfl, rfl⟩ := trodAll_nil h
    exact trodAll_mk0
  | t :: ts, _, _, _, ht, h, hlt, hsp => by
    obtain ⟨v, vs, d, ds, p, q, rfl, rfl, rfl, h1, h2⟩ := trodAll_cons h
    simp only [List.all_cons, Bool.and_eq_true, decide_eq_true_eq] at ht
    exact trodAll_cons_mk (WideElems.Trod_stays hl ht.1.1 ht.1.2 h1 (fun x hx => hb.same (hlt x (List.mem_append_left _ hx))) (fun x hx => hsp x (List.mem_append_left _ hx)))
      (trodAll_stays hl hb ht.2 h2 (fun x hx => hlt x (List.mem_append_right _ hx)) (fun x hx => hsp x (List.mem_append_right _ hx)))

/-- The row's last step: the law returned true, and nothing old has changed. -/
theorem law_post (hl : laidOutB P = true) {f : Func} {s : ChangeSpec} {tb : TypeId} {apart fresh handsOn : Bool} {W W' : World} {args : Array Value} {ds gs : List (DataW H)} {before : List MemPlace}
    (hW : DataW.Whole enc P f.params.toList s.vars apart W args.toList ds gs before) (hsv : s.vars = []) (hr : f.resultTypes = #[tb]) (htb : P.underlying tb = some .bool)
    (hts : f.params.toList.all (fun t => P.readableRec t && decide (t < P.types.size)) = true)
    (hres : (s.fn H (ds ++ gs)).results = [.lit (.bool true)]) (hargs : (s.fn H (ds ++ gs)).args = ds) (hvars : (s.fn H (ds ++ gs)).vars = [])
    (hb : Below W.heap.size W W') : s.post enc P f apart fresh handsOn false W args (.bool true) W' := by
  have hlt : ∀ x ∈ before, x.block < W.heap.size := fun x hx => hW.lt x hx
  have hW' := hW
  obtain ⟨p, q, hA, hV, rfl, hfz, hnd⟩ := hW
  rw [hsv] at hV
  obtain ⟨rfl, rfl⟩ := trodVars_none hV
  refine ⟨ds, [], p ++ [], [], p, [], hW', ?_, ?_, ?_, World.keptBut_mono (fun x hx => ⟨hx, ?_⟩) (hb.frame (· ∈ p ++ [])), fun h => ?_⟩
  · rw [hres, hr]
    exact trodAll_mk1 (shut_bool htb true)
  · rw [hargs]
    exact trodAll_stays hl hb hts hA (fun x hx => hlt x (List.mem_append_left _ hx)) (fun x hx => by simpa using hlt x (List.mem_append_left _ hx))
  · rw [hvars, hsv]
    exact rfl
  · exact Or.inr (Or.inl (by simpa using hx))
  · cases h
end

end Go.Proofs.Ytejjggchjoifoaa
