/- testamurlaw23.LeakageMore returns true for every input, and the input reads as it did: for all tables, claims and a further field, with the field the leakage is nowhere less, and greater by the weights of the fields that are determined in addition, of which the field is one, unless it was determined before. No condition. -/
import Derived.Test.YtkgmonplcdnnbaaGreatPmLkLawM
import Derived.Test.YtkgmonplcdnnbaaGreatPm39
namespace Go.Proofs.YtkgmonplcdnnbaaGreat
open Go.ChangeShapes Go.WideShapes Go.ChangeAt Go.RowKit
theorem Tryz.own : ownKnob Tryz.prog.godebug = none := by kernel_rfl
theorem Tryz.laidOut : laidOutB Tryz.prog = true := by kernel_rfl
set_option maxRecDepth 100000 in
theorem leakageMore_lifted (os : Os) (started : os.Started) (H : Type) (enc : TypeId × Value → H) :
 ReturnsInHanded {} Tryz.checked os 5 .any (Rows.leakageMoreSpec.pre6 enc Tryz.prog Tryz.f5 Rows.leakageMoreRow.domain false) (Rows.leakageMoreSpec.post enc Tryz.prog Tryz.f5 false true false false) := by
 refine returnsInHanded_of_change_sized (C := Tryz.checked) Tryz.own started (by kernel_rfl) Tryz.func5
  (ChangeSpec.witness6 (enc := enc) (C := Tryz.checked) false ⟨#[], #[.agg #[.slice none 0 0, .slice none 0 0, .slice none 0 0, .slice none 0 0, .slice none 0 0, .slice none 0 0, .slice none 0 0], .agg #[.int .i64 0, .slice none 0 0, .slice none 0 0], .int .i64 0, .int .i64 0], []⟩ 8 (by kernel_rfl) (by kernel_rfl) (by kernel_rfl) (by kernel_rfl)) ?_
 intro W base args ds gs before hval0 hW _ hsz _
 have hval : ∀ (j : Nat) t v, Tryz.f5.params[j]? = some t → args[j]? = some v → Value.okWide Tryz.prog W .any base t v := hval0
 have hW' := hW
 obtain ⟨p, q, hA0, hV, rfl, hfz, hnd⟩ := hW
 have hA : DataW.TrodAll enc Tryz.prog W 0 (fun _ => true) true Tryz.f5.params.toList args.toList ds p := hA0
 rw [Tryz.params5] at hA hval
 obtain ⟨v0, vs0, d0, ds0, p0, q0, hargs, rfl, rfl, h0, r0⟩ := trodAll_cons hA
 obtain ⟨v1, vs1, d1, ds1, p1, q1, rfl, rfl, rfl, h1, r1⟩ := trodAll_cons r0
 obtain ⟨v2, vs2, d2, ds2, p2, q2, rfl, rfl, rfl, h2, r2⟩ := trodAll_cons r1
 obtain ⟨v3, vs3, d3, ds3, p3, q3, rfl, rfl, rfl, h3, r3⟩ := trodAll_cons r2
 obtain ⟨rfl, rfl, rfl⟩ := trodAll_nil r3
 obtain rfl : args = #[v0, v1, v2, v3] := by cases args; simp_all
 obtain ⟨rfl, rfl⟩ := trodVars_none hV
 have w0 : WOk Tryz.prog 32 d0 := fun n hn => by
  have := List.all_eq_true.1 hsz n (DataW.weights_mem_each (j := 0) (t := 32) (d := d0) (by rw [Tryz.params5]; rfl) rfl n hn)
  simpa using this
 obtain ⟨A1, n1, c1, A2, n2, c2, A3, n3, c3, A4, n4, c4, A5, n5, c5, A6, n6, c6, A7, n7, c7, s, l, rfl, k1, k2, k3, k4, k5, k6, k7, hI⟩ := arg_tables (hval 0 _ v0 rfl rfl) h0 w0
 have w1 : WOk Tryz.prog 42 d1 := fun n hn => by
  have := List.all_eq_true.1 hsz n (DataW.weights_mem_each (j := 1) (t := 42) (d := d1) (by rw [Tryz.params5]; rfl) rfl n hn)
  simpa using this
 obtain ⟨FA, nf, cf, VA, nv, cv, c, rfl, hF, hV2⟩ := arg_claims (hval 1 _ v1 rfl rfl) h1 w1
 obtain ⟨a2, rfl, rfl, rfl, wi2⟩ := open_int Tryz.underlying3 (hval 2 _ v2 rfl rfl) h2
 have hb2 : -9223372036854775808 ≤ a2 ∧ a2 ≤ 9223372036854775807 := by simpa [Lit.wf, IntKind.min, IntKind.max, IntKind.signed, IntKind.bits] using wi2
 obtain ⟨a3, rfl, rfl, rfl, wi3⟩ := open_int Tryz.underlying3 (hval 3 _ v3 rfl rfl) h3
 have hb3 : -9223372036854775808 ≤ a3 ∧ a3 ≤ 9223372036854775807 := by simpa [Lit.wf, IntKind.min, IntKind.max, IntKind.signed, IntKind.bits] using wi3
 have hkn := known_any A1 A2 A3 A4 A5 A6 n1 c1 n2 c2 n3 c3 n4 c4 n5 c5 n6 c6 A7 n7 c7 s l W k1 k2 k3 k4 k5 k6 k7 hI
 refine (more23_any A1 A2 A3 A4 A5 A6 n1 c1 n2 c2 n3 c3 n4 c4 n5 c5 n6 c6 A7 n7 c7 _ s.schemas FA VA nf cf nv cv c.schema c.fields c.values a2 a3 W hkn k3 hF hV2 hb2 hb3 (fun h => more_ok h) (fun h => ck_weighed h)).mono ?_
 rintro e W' ⟨rfl, hb⟩
 exact ⟨_, rfl, law_post Tryz.laidOut hW' rfl (by kernel_rfl) Tryz.underlying4 (by kernel_rfl) rfl rfl rfl hb⟩
theorem leakageMore_holds : Rows.LeakageMoreSaid :=
 OpenClaim.holds_of_wide 5 Tryz.f5 rfl rfl rfl rfl rfl rfl rfl ⟨rfl, rfl, rfl, rfl, rfl⟩ rfl rfl rfl rfl rfl (by kernel_rfl) Tryz.func5 (by kernel_rfl)
  (of_decide_eq_true (by kernel_rfl)) (by unfold Func.isWrapper; first | (rw [if_pos (by decide +kernel)]; kernel_rfl) | (rw [if_neg (by decide +kernel)]; exact ⟨rfl, rfl⟩))
  (fun os started H enc _ => leakageMore_lifted os started H enc)
end Go.Proofs.YtkgmonplcdnnbaaGreat
