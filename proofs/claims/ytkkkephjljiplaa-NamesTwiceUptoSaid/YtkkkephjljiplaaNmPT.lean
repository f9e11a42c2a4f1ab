/- testamurlaw11.NamesTwice returns true for every input of bulk at most 1048576 (the Upto form), and the input reads as it did: a source with a second definition of one name is refused. -/
import Derived.Test.YtkkkephjljiplaaNmLawT
import Derived.Test.YtkkkephjljiplaaNmBulk
import Derived.Deep.CondSized
namespace Go.Proofs.Ytkkkephjljiplaa
open Go.ChangeShapes Go.WideShapes Go.ChangeAt Go.RowKit

theorem Try.own : ownKnob Try.prog.godebug = none := by kernel_rfl
theorem Try.laidOut : laidOutB Try.prog = true := by kernel_rfl

theorem len_le_sum {α : Type} (M : α → Nat) (h : ∀ x, 1 ≤ M x) : ∀ l : List α, l.length ≤ (l.map M).sum
  | [] => by simp
  | x :: r => by
    have := len_le_sum M h r
    have := h x
    simp only [List.length_cons, List.map_cons, List.sum_cons]
    omega
theorem bulk_len {α H : Type} {enc : TypeId × Value → H} {w : World} {base : Nat} {hd : Bool} {sz : Nat} {R : World → List Value → α → Prop} {t e : TypeId} {fuel : Nat} {v : Value} {x : DataW H × List MemPlace} {l : List α} {fs : Array Field} (ht : Try.prog.underlying t = some (.slice e)) (he : Try.prog.underlying e = some (.struct fs)) (ks : List Nat) (hks : fs.toList.map (fun f => Try.prog.cellsOf f.type) = ks) (hC : Try.prog.cellsOf e = sz) (hz : 0 < sz) (h : DataW.trod enc Try.prog w base (fun _ => true) hd fuel t [v] = some x) (hs : SlR sz R w v l) : l.length ≤ Rows.uptoBulk x.1 := by
  have h1 := bulk_slice (fun _ : α => 1) ht hC hz h hs (fun n cs a y _ hy => by
    obtain ⟨xs, m, hb, _⟩ := bulk_struct he ks hks hy
    omega)
  have h2 := len_le_sum (fun _ : α => 1) (fun _ => Nat.le_refl _) l
  omega
theorem bulk_rule {H : Type} {enc : TypeId × Value → H} {w : World} {base : Nat} {hd : Bool} {n : Nat} {cs : List Value} {u : QRule} {y : DataW H × List MemPlace} (hr : qRuleR w cs u) (h : DataW.trod enc Try.prog w base (fun _ => true) hd n 56 cs = some y) : u.froms.length ≤ Rows.uptoBulk y.1 := by
  obtain ⟨xs, m, hb, hxl, hf⟩ := bulk_struct Try.underlying56 [1, 1, 1, 1, 1] (by kernel_rfl) h
  obtain ⟨A1, n1, c1, A2, n2, c2, A3, n3, c3, rfl, h1, h2, h3⟩ := hr
  obtain ⟨y2, g2, k2⟩ := hf 2 _ 1 rfl rfl
  have e2 := bulk_len Try.underlying52 Try.underlying61 [1, 1, 1, 5] (by kernel_rfl) (by kernel_rfl) (by omega) (v := .slice A1 n1 c1) k2 h1.1
  have b2 := bulk_part (List.mem_map_of_mem (f := (·.1)) (List.mem_of_getElem? g2))
  omega
theorem le_sum {α : Type} (M : α → Nat) {l : List α} {x : α} (h : x ∈ l) : M x ≤ (l.map M).sum := by
  induction l with
  | nil => cases h
  | cons y r ih =>
    rw [List.map_cons, List.sum_cons]
    rcases List.mem_cons.1 h with rfl | h
    · omega
    · have := ih h; omega
theorem bulk_rest {H : Type} {enc : TypeId × Value → H} {w : World} {base : Nat} {hd : Bool} {n : Nat} {cs : List Value} {u : QSource} {y : DataW H × List MemPlace} (hr : qSourceR w cs u) (h : DataW.trod enc Try.prog w base (fun _ => true) hd n 29 cs = some y) : u.rules.length ≤ Rows.uptoBulk y.1 ∧ u.converts.length ≤ Rows.uptoBulk y.1 ∧ (u.rules.map (fun r => r.froms.length)).sum ≤ Rows.uptoBulk y.1 := by
  obtain ⟨xs, m, hb, hxl, hf⟩ := bulk_struct Try.underlying29 [1, 1, 1, 1, 1, 1] (by kernel_rfl) h
  obtain ⟨A1, n1, c1, A2, n2, c2, A3, n3, c3, A4, n4, c4, A5, n5, c5, A6, n6, c6, rfl, h1, h2, h3, h4, h5, h6⟩ := hr
  obtain ⟨y3, g3, k3⟩ := hf 3 _ 1 rfl rfl
  have e3 := bulk_len Try.underlying25 Try.underlying56 [1, 1, 1, 1, 1] (by kernel_rfl) (by kernel_rfl) (by omega) (v := .slice A4 n4 c4) k3 h4.1
  have e5 := bulk_slice (fun r : QRule => r.froms.length) Try.underlying25 (by kernel_rfl) (by omega) (v := .slice A4 n4 c4) k3 h4.1 (fun _ _ _ _ hr h => bulk_rule hr h)
  obtain ⟨y4, g4, k4⟩ := hf 4 _ 1 rfl rfl
  have e4 := bulk_len Try.underlying26 Try.underlying69 [1, 1, 1, 1, 1] (by kernel_rfl) (by kernel_rfl) (by omega) (v := .slice A5 n5 c5) k4 h5.1
  have b3 := bulk_part (List.mem_map_of_mem (f := (·.1)) (List.mem_of_getElem? g3))
  have b4 := bulk_part (List.mem_map_of_mem (f := (·.1)) (List.mem_of_getElem? g4))
  omega
theorem rest_arg {H : Type} {enc : TypeId × Value → H} {w : World} {base : Nat} {hd : Bool} {vs : List Value} {u : QSource} {d : DataW H} {ps : List MemPlace} (h : DataW.Trod enc Try.prog w base (fun _ => true) hd 29 (.agg vs.toArray) d ps)
    (hr : qSourceR w vs u) : u.rules.length ≤ Rows.uptoBulk d ∧ u.converts.length ≤ Rows.uptoBulk d ∧ (u.rules.map (fun r => r.froms.length)).sum ≤ Rows.uptoBulk d := by
  obtain ⟨fuel, hf⟩ := h
  exact bulk_rest (y := (d, ps)) hr hf
theorem lens_le (s : QSource) : s.issuers.length ≤ sourceM s ∧ s.units.length ≤ sourceM s ∧ s.schemas.length ≤ sourceM s ∧ s.purposes.length ≤ sourceM s := by
  have h1 := len_le_sum strM (fun f => by unfold strM; omega) s.issuers
  have h2 := len_le_sum unitM (fun f => by unfold unitM strM; omega) s.units
  have h3 := len_le_sum schemaM (fun f => by unfold schemaM strM; omega) s.schemas
  have h4 := len_le_sum purposeM (fun f => by unfold purposeM strM; omega) s.purposes
  unfold sourceM
  omega

set_option maxRecDepth 100000 in
theorem twice_contract (H : Type) (enc : TypeId × Value → H) (W : World) (base : Nat) (args : Array Value) (ds gs : List (DataW H)) (before : List MemPlace)
    (hval0 : ∀ (j : Nat) t v, Try.f7.params[j]? = some t → args[j]? = some v → Value.okWide Try.prog W .any base t v)
    (hW : DataW.Whole enc Try.prog Try.f7.params.toList Rows.namesTwiceSpec.vars false W args.toList ds gs before) (hk : Rows.uptoSmall H (ds ++ gs) = true)
    (hsz : (DataW.weightsEach Try.prog (Try.f7.params.toList ++ Rows.namesTwiceSpec.plain.varTypes Try.prog) (ds ++ gs)).all (· ≤ reachBytes) = true) :
    Calls Try.prog 7 args W fun e W' => ∃ v, e = .returned v ∧ Rows.namesTwiceSpec.post enc Try.prog Try.f7 false true false false W args v W' := by
  have hval : ∀ (j : Nat) t v, Try.f7.params[j]? = some t → args[j]? = some v → Value.okWide Try.prog W .any base t v := hval0
  have hW' := hW
  obtain ⟨p, q, hA0, hV, rfl, hfz, hnd⟩ := hW
  have hA : DataW.TrodAll enc Try.prog W 0 (fun _ => true) true Try.f7.params.toList args.toList ds p := hA0
  rw [Try.params7] at hA hval
  obtain ⟨v0, v1, d0, d1, p0, p1, rfl, rfl, rfl, h0, h1⟩ := trodAll_two hA
  obtain ⟨rfl, rfl⟩ := trodVars_none hV
  have hw0 : WOk Try.prog 29 d0 := fun n hn => by
    have := List.all_eq_true.1 hsz n (DataW.weights_mem_each (j := 0) (t := 29) (d := d0) (by rw [Try.params7]; rfl) rfl n hn)
    simpa using this
  obtain ⟨A1, n1, c1, A2, n2, c2, A3, n3, c3, A4, n4, c4, A5, n5, c5, A6, n6, c6, s, rfl, k1, k2, k3, k4, k5, k6⟩ := arg_source (hval 0 _ v0 rfl rfl) h0 hw0
  obtain ⟨sc, rfl, _, _, hsc⟩ := open_int Try.underlying5 (hval 1 _ v1 rfl rfl) h1
  have hb := bulk_arg h0 (src_whole k1 k2 k3 k4 k5 k6)
  have hr := rest_arg (vs := [.slice A1 n1 c1, .slice A2 n2 c2, .slice A3 n3 c3, .slice A4 n4 c4, .slice A5 n5 c5, .slice A6 n6 c6]) h0 (src_whole k1 k2 k3 k4 k5 k6)
  have hl := lens_le s
  have h4 : Rows.uptoBulkAll ([d0, d1] ++ ([] : List (DataW H))) ≤ 1048576 := of_decide_eq_true hk
  simp only [List.append_nil, Rows.uptoBulkAll] at h4
  have hbf : ∀ y ∈ s.schemas, y.fields.length ≤ 1048576 := fun y hy => by
    have g1 := le_sum schemaM hy
    have g2 : schemaM y = strM y.name + (y.fields.map fieldM).sum := rfl
    have g3 := len_le_sum fieldM (fun f => by unfold fieldM strM; omega) y.fields
    have g4 : (s.schemas.map schemaM).sum ≤ sourceM s := by unfold sourceM; omega
    omega
  have hbr : ∀ r ∈ s.rules, r.froms.length ≤ 1048576 := fun r hr' => by
    have g1 := le_sum (fun r : QRule => r.froms.length) hr'
    have g2 := hr.2.2
    have g3 : (fun r : QRule => r.froms.length) r = r.froms.length := rfl
    omega
  have hu8 : 0 ≤ sc ∧ sc ≤ 255 := by
    have h5 : (decide (IntKind.u8.min ≤ sc) && decide (sc ≤ IntKind.u8.max)) = true := hsc
    rw [Bool.and_eq_true] at h5
    exact ⟨of_decide_eq_true h5.1, of_decide_eq_true h5.2⟩
  refine (twice_any_law A1 A2 A3 A4 A5 A6 n1 c1 n2 c2 n3 c3 n4 c4 n5 c5 n6 c6 s sc hu8.1 hu8.2 W k1 k2 k3 k4 k5 k6 (by omega) hbf hbr).mono ?_
  rintro e W' ⟨rfl, hbl⟩
  exact ⟨_, rfl, law_post Try.laidOut hW' rfl (by kernel_rfl) Try.underlying4 (by kernel_rfl) rfl rfl rfl hbl⟩

set_option maxRecDepth 100000 in
theorem namesTwice_lifted (os : Os) (started : os.Started) (H : Type) (enc : TypeId × Value → H) (F : Stop.Interp) :
    ReturnsInHanded {} Try.checked os 7 .any ((Rows.OpenSpec.upto Rows.namesTwiceSpec).pre6 enc Try.prog Try.f7 Rows.namesTwiceUptoRow.domain false) (((Rows.OpenSpec.upto Rows.namesTwiceSpec).at F).post enc Try.prog Try.f7 false true false false) := by
  refine returnsInHanded_of_cond_sized (C := Try.checked) (s := Rows.OpenSpec.upto Rows.namesTwiceSpec) (k := Rows.uptoSmall) rfl Try.own started (by kernel_rfl) Try.func7
    (OpenSpec.witness (enc := enc) (C := Try.checked) (s := Rows.OpenSpec.upto Rows.namesTwiceSpec) (k := Rows.uptoSmall) rfl false ⟨#[], #[.agg #[.slice none 0 0, .slice none 0 0, .slice none 0 0, .slice none 0 0, .slice none 0 0, .slice none 0 0], .int .u8 0], []⟩ 8 (by kernel_rfl) (by kernel_rfl) (by kernel_rfl)
      (x := ([.agg [.nil, .nil, .nil, .nil, .nil, .nil], .lit (.int .u8 0)], [], [])) (by kernel_rfl) rfl (by kernel_rfl)) ?_
  intro W base args ds gs before hval hW _ hk hsz _
  exact twice_contract H enc W base args ds gs before hval hW hk hsz

theorem namesTwiceUpto_holds : Rows.NamesTwiceUptoSaid :=
  OpenClaim.holds_of_cond 7 Try.f7 rfl rfl rfl rfl rfl rfl rfl ⟨rfl, rfl, rfl, rfl, rfl⟩ rfl rfl rfl rfl rfl (by kernel_rfl) Try.func7 (by kernel_rfl)
    (of_decide_eq_true (by kernel_rfl)) (by unfold Func.isWrapper; first | (rw [if_pos (by decide +kernel)]; kernel_rfl) | (rw [if_neg (by decide +kernel)]; exact ⟨rfl, rfl⟩))
    (fun os started H enc _ F => namesTwice_lifted os started H enc F)

end Go.Proofs.Ytkkkephjljiplaa
