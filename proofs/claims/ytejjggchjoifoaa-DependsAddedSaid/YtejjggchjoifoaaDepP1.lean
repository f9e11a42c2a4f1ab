/- testamurlaw13.DependsSpec returns true for every input, and the input reads as it did: Check, Closure and Implied of the package depends match the specification. No condition. -/
import Derived.Test.YtejjggchjoifoaaDepLaw1
import Derived.Test.YtejjggchjoifoaaDepOpen
namespace Go.Proofs.Ytejjggchjoifoaa
open Go.ChangeShapes Go.WideShapes Go.ChangeAt Go.RowKit

theorem Try.own : ownKnob Try.prog.godebug = none := by kernel_rfl
theorem Try.laidOut : laidOutB Try.prog = true := by kernel_rfl

set_option maxRecDepth 100000 in
theorem dependsSpec_lifted (os : Os) (started : os.Started) (H : Type) (enc : TypeId × Value → H) :
    ReturnsInHanded {} Try.checked os 3 .any (Rows.dependsSpecSpec.pre6 enc Try.prog Try.f3 Rows.dependsSpecRow.domain false) (Rows.dependsSpecSpec.post enc Try.prog Try.f3 false true false false) := by
  refine returnsInHanded_of_change (C := Try.checked) Try.own started (by kernel_rfl) Try.func3
    (ChangeSpec.witness6 (enc := enc) (C := Try.checked) false ⟨#[], #[.agg #[.string ⟨#[]⟩, .string ⟨#[]⟩, .int .i64 0, .int .i64 0, .slice none 0 0, .slice none 0 0], .slice none 0 0, .agg #[.slice none 0 0, .string ⟨#[]⟩, .slice none 0 0, .int .i64 0]], []⟩ 8 (by kernel_rfl) (by kernel_rfl) (by kernel_rfl) (by kernel_rfl)) ?_
  intro W base args ds gs before hval0 hW _ _
  have hval : ∀ (j : Nat) t v, Try.f3.params[j]? = some t → args[j]? = some v → Value.okWide Try.prog W .any base t v := hval0
  have hW' := hW
  obtain ⟨p, q, hA0, hV, rfl, hfz, hnd⟩ := hW
  have hA : DataW.TrodAll enc Try.prog W 0 (fun _ => true) true Try.f3.params.toList args.toList ds p := hA0
  rw [Try.params3] at hA hval
  obtain ⟨v0, v1, v2, d0, d1, d2, p0, p1, p2, rfl, rfl, rfl, h0, h1, h2⟩ := trodAll_three hA
  obtain ⟨rfl, rfl⟩ := trodVars_none hV
  obtain ⟨s1, s2, i1, i2, fA, nf, fc, dA, nd, dc, dl, rfl, hnf, hs⟩ := arg_schema (hval 0 _ v0 rfl rfl) h0
  obtain ⟨A, n, c, l, rfl, hl⟩ := arg_ints (hval 1 _ v1 rfl rfl) h1
  obtain ⟨nA, nn, nc, s, B, m, k, x, rfl, hx, _⟩ := arg_dep (hval 2 _ v2 rfl rfl) h2
  refine (spec_any s1 s2 i1 i2 fA dA nf fc nd dc dl A n c l nA B nn nc m k s x W hnf hs hl hx).mono ?_
  rintro e W' ⟨rfl, hb⟩
  exact ⟨_, rfl, law_post Try.laidOut hW' rfl (by kernel_rfl) Try.underlying4 (by kernel_rfl) rfl rfl rfl hb⟩

theorem dependsSpec_holds : Rows.DependsSpecSaid :=
  OpenClaim.holds_of_wide 3 Try.f3 rfl rfl rfl rfl rfl rfl rfl ⟨rfl, rfl, rfl, rfl, rfl⟩ rfl rfl rfl rfl rfl (by kernel_rfl) Try.func3 (by kernel_rfl)
    (of_decide_eq_true (by kernel_rfl)) (by unfold Func.isWrapper; first | (rw [if_pos (by decide +kernel)]; kernel_rfl) | (rw [if_neg (by decide +kernel)]; exact ⟨rfl, rfl⟩))
    (fun os started H enc _ => dependsSpec_lifted os started H enc)

end Go.Proofs.Ytejjggchjoifoaa
