/- testamurlaw13.DependsClosure returns true for every input, and the input reads as it did: a closure contains its fields, is its own closure, grows with its fields, is closed, and is the least closed set. No condition. -/
import Derived.Test.YtejjggchjoifoaaDepLaw3
import Derived.Test.YtejjggchjoifoaaDepOpen
import Derived.Test.YtejjggchjoifoaaDepP1
namespace Go.Proofs.Ytejjggchjoifoaa
open Go.ChangeShapes Go.WideShapes Go.ChangeAt Go.RowKit

set_option maxRecDepth 100000 in
theorem dependsClosure_lifted (os : Os) (started : os.Started) (H : Type) (enc : TypeId × Value → H) :
    ReturnsInHanded {} Try.checked os 5 .any (Rows.dependsClosureSpec.pre6 enc Try.prog Try.f5 Rows.dependsClosureRow.domain false) (Rows.dependsClosureSpec.post enc Try.prog Try.f5 false true false false) := by
  refine returnsInHanded_of_change (C := Try.checked) Try.own started (by kernel_rfl) Try.func5
    (ChangeSpec.witness6 (enc := enc) (C := Try.checked) false ⟨#[], #[.agg #[.string ⟨#[]⟩, .string ⟨#[]⟩, .int .i64 0, .int .i64 0, .slice none 0 0, .slice none 0 0], .slice none 0 0, .slice none 0 0, .int .u16 0], []⟩ 8 (by kernel_rfl) (by kernel_rfl) (by kernel_rfl) (by kernel_rfl)) ?_
  intro W base args ds gs before hval0 hW _ _
  have hval : ∀ (j : Nat) t v, Try.f5.params[j]? = some t → args[j]? = some v → Value.okWide Try.prog W .any base t v := hval0
  have hW' := hW
  obtain ⟨p, q, hA0, hV, rfl, hfz, hnd⟩ := hW
  have hA : DataW.TrodAll enc Try.prog W 0 (fun _ => true) true Try.f5.params.toList args.toList ds p := hA0
  rw [Try.params5] at hA hval
  obtain ⟨v0, vs0, d0, ds0, p0, q0, hargs, rfl, rfl, h0, r0⟩ := trodAll_cons hA
  obtain ⟨v1, vs1, d1, ds1, p1, q1, rfl, rfl, rfl, h1, r1⟩ := trodAll_cons r0
  obtain ⟨v2, vs2, d2, ds2, p2, q2, rfl, rfl, rfl, h2, r2⟩ := trodAll_cons r1
  obtain ⟨v3, vs3, d3, ds3, p3, q3, rfl, rfl, rfl, h3, r3⟩ := trodAll_cons r2
  obtain ⟨rfl, rfl, rfl⟩ := trodAll_nil r3
  obtain rfl : args = #[v0, v1, v2, v3] := by cases args; simp_all
  obtain ⟨rfl, rfl⟩ := trodVars_none hV
  obtain ⟨s1, s2, i1, i2, fA, nf, fc, dA, nd, dc, dl, rfl, hnf, hs⟩ := arg_schema (hval 0 _ v0 rfl rfl) h0
  obtain ⟨A, n, c, l, rfl, hl⟩ := arg_ints (hval 1 _ v1 rfl rfl) h1
  obtain ⟨B, m, k, r, rfl, hr⟩ := arg_ints (hval 2 _ v2 rfl rfl) h2
  obtain ⟨a3, rfl, rfl, rfl, w3⟩ := open_int Try.underlying45 (hval 3 _ v3 rfl rfl) h3
  have hx : 0 ≤ a3 ∧ a3 ≤ 65535 := by simpa [Lit.wf, IntKind.min, IntKind.max, IntKind.signed, IntKind.bits] using w3
  obtain ⟨C, rfl⟩ := Int.eq_ofNat_of_zero_le hx.1
  refine (closure_law s1 s2 i1 i2 fA dA nf fc nd dc dl A n c l B m k r C (by omega) W hnf hs hl hr).mono ?_
  rintro e W' ⟨rfl, hb⟩
  exact ⟨_, rfl, law_post Try.laidOut hW' rfl (by kernel_rfl) Try.underlying4 (by kernel_rfl) rfl rfl rfl hb⟩

theorem dependsClosure_holds : Rows.DependsClosureSaid :=
  OpenClaim.holds_of_wide 5 Try.f5 rfl rfl rfl rfl rfl rfl rfl ⟨rfl, rfl, rfl, rfl, rfl⟩ rfl rfl rfl rfl rfl (by kernel_rfl) Try.func5 (by kernel_rfl)
    (of_decide_eq_true (by kernel_rfl)) (by unfold Func.isWrapper; first | (rw [if_pos (by decide +kernel)]; kernel_rfl) | (rw [if_neg (by decide +kernel)]; exact ⟨rfl, rfl⟩))
    (fun os started H enc _ => dependsClosure_lifted os started H enc)

end Go.Proofs.Ytejjggchjoifoaa
