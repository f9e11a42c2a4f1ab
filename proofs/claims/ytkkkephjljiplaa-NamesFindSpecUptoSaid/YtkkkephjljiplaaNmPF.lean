/- testamurlaw11.NamesFindSpec returns true for every input of bulk at most 1048576 (the Upto form), and the input reads as it did: Schema, Field and Purpose agree with the reference. -/
import Derived.Test.YtkkkephjljiplaaNmLawF
import Derived.Test.YtkkkephjljiplaaNmBulk
import Derived.Deep.CondSized
namespace Go.Proofs.Ytkkkephjljiplaa
open Go.ChangeShapes Go.WideShapes Go.ChangeAt Go.RowKit
open Go.ChangeMaps (open_string)

theorem Try.own : ownKnob Try.prog.godebug = none := by kernel_rfl
theorem Try.laidOut : laidOutB Try.prog = true := by kernel_rfl

theorem len_le_sum {α : Type} (M : α → Nat) (h : ∀ x, 1 ≤ M x) : ∀ l : List α, l.length ≤ (l.map M).sum
  | [] => by simp
  | x :: r => by
    have := len_le_sum M h r
    have := h x
    simp only [List.length_cons, List.map_cons, List.sum_cons]
    omega
theorem flat_le : ∀ l : List QSchema, (l.flatMap (fun y => y.name :: fieldNames y)).length ≤ (l.map schemaM).sum
  | [] => by simp
  | y :: r => by
    have h1 := flat_le r
    have h2 := len_le_sum fieldM (fun f => by unfold fieldM strM; omega) y.fields
    have h3 : (fieldNames y).length = y.fields.length := by unfold fieldNames; simp
    have h4 : schemaM y = strM y.name + (y.fields.map fieldM).sum := rfl
    have h5 : 1 ≤ strM y.name := by unfold strM; omega
    simp only [List.flatMap_cons, List.length_append, List.length_cons, List.map_cons, List.sum_cons]
    omega
theorem find_le (s : QSource) (nm : ByteArray) : (findNames s nm).length ≤ sourceM s + 2 := by
  have h1 := flat_le s.schemas
  have h2 := len_le_sum purposeM (fun f => by unfold purposeM strM; omega) s.purposes
  have h3 : (purposeNames s).length = s.purposes.length := by unfold purposeNames; simp
  unfold findNames namesTo sourceM
  rw [List.take_length]
  simp only [List.length_append, List.length_cons, List.length_nil]
  omega

set_option maxRecDepth 100000 in
theorem findSpec_contract (H : Type) (enc : TypeId × Value → H) (W : World) (base : Nat) (args : Array Value) (ds gs : List (DataW H)) (before : List MemPlace)
    (hval0 : ∀ (j : Nat) t v, Try.f9.params[j]? = some t → args[j]? = some v → Value.okWide Try.prog W .any base t v)
    (hW : DataW.Whole enc Try.prog Try.f9.params.toList Rows.namesFindSpecSpec.vars false W args.toList ds gs before) (hk : Rows.uptoSmall H (ds ++ gs) = true)
    (hsz : (DataW.weightsEach Try.prog (Try.f9.params.toList ++ Rows.namesFindSpecSpec.plain.varTypes Try.prog) (ds ++ gs)).all (· ≤ reachBytes) = true) :
    Calls Try.prog 9 args W fun e W' => ∃ v, e = .returned v ∧ Rows.namesFindSpecSpec.post enc Try.prog Try.f9 false true false false W args v W' := by
  have hval : ∀ (j : Nat) t v, Try.f9.params[j]? = some t → args[j]? = some v → Value.okWide Try.prog W .any base t v := hval0
  have hW' := hW
  obtain ⟨p, q, hA0, hV, rfl, hfz, hnd⟩ := hW
  have hA : DataW.TrodAll enc Try.prog W 0 (fun _ => true) true Try.f9.params.toList args.toList ds p := hA0
  rw [Try.params9] at hA hval
  obtain ⟨v0, v1, v2, d0, d1, d2, p0, p1, p2, rfl, rfl, rfl, h0, h1, h2⟩ := trodAll_three hA
  obtain ⟨rfl, rfl⟩ := trodVars_none hV
  have hw0 : WOk Try.prog 29 d0 := fun n hn => by
    have := List.all_eq_true.1 hsz n (DataW.weights_mem_each (j := 0) (t := 29) (d := d0) (by rw [Try.params9]; rfl) rfl n hn)
    simpa using this
  obtain ⟨A1, n1, c1, A2, n2, c2, A3, n3, c3, A4, n4, c4, A5, n5, c5, A6, n6, c6, s, rfl, k1, k2, k3, k4, k5, k6⟩ := arg_source (hval 0 _ v0 rfl rfl) h0 hw0
  obtain ⟨sc, rfl, _, _, _⟩ := open_int Try.underlying3 (hval 1 _ v1 rfl rfl) h1
  obtain ⟨nm, rfl, _, _, _⟩ := open_string Try.underlying9 (hval 2 _ v2 rfl rfl) h2
  have hb := bulk_arg h0 (src_whole k1 k2 k3 k4 k5 k6)
  have hcnt : (findNames s nm).length ≤ 1048578 := by
    have h3 := find_le s nm
    have h4 : Rows.uptoBulkAll ([d0, d1, d2] ++ ([] : List (DataW H))) ≤ 1048576 := of_decide_eq_true hk
    simp only [List.append_nil, Rows.uptoBulkAll] at h4
    omega
  refine (find_any A1 A2 A3 A4 A5 A6 n1 c1 n2 c2 n3 c3 n4 c4 n5 c5 n6 c6 s sc nm W k1 k2 k3 k4 k5 k6 hcnt).mono ?_
  rintro e W' ⟨rfl, hbl⟩
  exact ⟨_, rfl, law_post Try.laidOut hW' rfl (by kernel_rfl) Try.underlying4 (by kernel_rfl) rfl rfl rfl hbl⟩

set_option maxRecDepth 100000 in
theorem namesFindSpec_lifted (os : Os) (started : os.Started) (H : Type) (enc : TypeId × Value → H) (F : Stop.Interp) :
    ReturnsInHanded {} Try.checked os 9 .any ((Rows.OpenSpec.upto Rows.namesFindSpecSpec).pre6 enc Try.prog Try.f9 Rows.namesFindSpecUptoRow.domain false) (((Rows.OpenSpec.upto Rows.namesFindSpecSpec).at F).post enc Try.prog Try.f9 false true false false) := by
  refine returnsInHanded_of_cond_sized (C := Try.checked) (s := Rows.OpenSpec.upto Rows.namesFindSpecSpec) (k := Rows.uptoSmall) rfl Try.own started (by kernel_rfl) Try.func9
    (OpenSpec.witness (enc := enc) (C := Try.checked) (s := Rows.OpenSpec.upto Rows.namesFindSpecSpec) (k := Rows.uptoSmall) rfl false ⟨#[], #[.agg #[.slice none 0 0, .slice none 0 0, .slice none 0 0, .slice none 0 0, .slice none 0 0, .slice none 0 0], .int .i64 0, .string .empty], []⟩ 8 (by kernel_rfl) (by kernel_rfl) (by kernel_rfl)
      (x := ([.agg [.nil, .nil, .nil, .nil, .nil, .nil], .lit (.int .i64 0), .lit (.string [])], [], [])) (by kernel_rfl) rfl (by kernel_rfl)) ?_
  intro W base args ds gs before hval hW _ hk hsz _
  exact findSpec_contract H enc W base args ds gs before hval hW hk hsz

theorem namesFindSpecUpto_holds : Rows.NamesFindSpecUptoSaid :=
  OpenClaim.holds_of_cond 9 Try.f9 rfl rfl rfl rfl rfl rfl rfl ⟨rfl, rfl, rfl, rfl, rfl⟩ rfl rfl rfl rfl rfl (by kernel_rfl) Try.func9 (by kernel_rfl)
    (of_decide_eq_true (by kernel_rfl)) (by unfold Func.isWrapper; first | (rw [if_pos (by decide +kernel)]; kernel_rfl) | (rw [if_neg (by decide +kernel)]; exact ⟨rfl, rfl⟩))
    (fun os started H enc _ F => namesFindSpec_lifted os started H enc F)

end Go.Proofs.Ytkkkephjljiplaa
