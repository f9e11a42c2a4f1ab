/- Contracts of names.find and of the functions that tell a name. -/
import Derived.Test.YtkgmonplcdnnbaaGreatPm01
import Derived.Test.YtkgmonplcdnnbaaGreatPm02
import Derived.Test.YtkgmonplcdnnbaaGreatProg
import Derived.Deep.QuietTactic
import Derived.BigQuiet
import Derived.WalkLawsBesides
namespace Go.Proofs.YtkgmonplcdnnbaaGreat
open Go.RowKit
abbrev strV (x : ByteArray) : Value := Value.string x
abbrev i64V (x : Int) : Value := Value.int .i64 x
def nothingP : List PanicEntry := [{ v := .iface 168 (.agg #[]), recovered := false }]
theorem find_yes (b : Nat) (m : List (ByteArray × Int)) (x : ByteArray) (n : Int) (w : World) (hm : MapAt strV i64V w b m) (hg : getM m x = some n) :
 Calls Tryz.prog 189 #[.map (some b), .string x] w fun e w' => e = .returned (.int .i64 n) ∧ w = w' := by
 have hlook := run_lookup_m (keyEq_string Tryz.underlying9) Tryz.underlying179 (z := .int .i64 0) (by kernel_rfl) hm x true
 rw [hg] at hlook
 simp only [if_true, Option.map_some, Option.getD_some, Option.isSome_some] at hlook
 clear hg hm
 go_enter Tryz.func189, Tryz.ntmps189
 go_wp2
 go_ret
 exact ⟨rfl, rfl⟩
theorem find_no (b : Nat) (m : List (ByteArray × Int)) (x : ByteArray) (w : World) (hm : MapAt strV i64V w b m) (hg : getM m x = none) :
 Calls Tryz.prog 189 #[.map (some b), .string x] w fun e w' => e = .panicked nothingP ∧ w = w' := by
 have hlook := run_lookup_m (keyEq_string Tryz.underlying9) Tryz.underlying179 (z := .int .i64 0) (by kernel_rfl) hm x true
 rw [hg] at hlook
 simp only [if_true, Option.map_none, Option.getD_none, Option.isSome_none] at hlook
 clear hg hm
 go_enter Tryz.func189, Tryz.ntmps189
 go_wp2
 exact ⟨rfl, rfl, rfl⟩
theorem unitName_any (x : QUnit) (w : World) :
 Calls Tryz.prog 180 #[.agg #[.string x.name, .string x.of_, .int .i64 x.factor, .int .i64 x.base, .int .i64 x.scale]] w fun e w' => e = .returned (.string x.name) ∧ w.alloc (.cells #[.string x.name, .string x.of_, .int .i64 x.factor, .int .i64 x.base, .int .i64 x.scale] 116) = w' := by
 go_enter Tryz.func180, Tryz.ntmps180
 go_wp2
 go_ret
 exact ⟨rfl, rfl⟩
theorem schemaName_any (A1 A2 : Option Addr) (n1 c1 n2 c2 : Nat) (x : QSchema) (w : World) :
 Calls Tryz.prog 182 #[.agg #[.string x.name, .string x.by_, .int .i64 x.issuer, .int .i64 x.version, .slice A1 n1 c1, .slice A2 n2 c2]] w fun e w' => e = .returned (.string x.name) ∧ w.alloc (.cells #[.string x.name, .string x.by_, .int .i64 x.issuer, .int .i64 x.version, .slice A1 n1 c1, .slice A2 n2 c2] 52) = w' := by
 go_enter Tryz.func182, Tryz.ntmps182
 go_wp2
 go_ret
 exact ⟨rfl, rfl⟩
theorem fieldName_any (A1 : Option Addr) (n1 c1 : Nat) (x : QField) (w : World) :
 Calls Tryz.prog 186 #[.agg #[.string x.name, .int .i64 x.type.kind, .int .i64 x.type.lo, .int .i64 x.type.hi, .string x.type.of_, .int .i64 x.type.unit, .slice A1 n1 c1, .int .i64 x.w0, .int .i64 x.w1, .int .i64 x.w2, .int .i64 x.w3]] w fun e w' => e = .returned (.string x.name) ∧ w.alloc (.cells #[.string x.name, .int .i64 x.type.kind, .int .i64 x.type.lo, .int .i64 x.type.hi, .string x.type.of_, .int .i64 x.type.unit, .slice A1 n1 c1, .int .i64 x.w0, .int .i64 x.w1, .int .i64 x.w2, .int .i64 x.w3] 58) = w' := by
 go_enter Tryz.func186, Tryz.ntmps186
 go_wp2
 go_ret
 exact ⟨rfl, rfl⟩
theorem fromName_any (x : QFrom) (w : World) :
 Calls Tryz.prog 188 #[.agg #[.string x.name, .string x.kind, .int .i64 x.schema, .string x.of_.name, .string x.of_.path, .int .i64 x.of_.var, .int .i64 x.of_.field, .int .i64 x.of_.n]] w fun e w' => e = .returned (.string x.name) ∧ w.alloc (.cells #[.string x.name, .string x.kind, .int .i64 x.schema, .string x.of_.name, .string x.of_.path, .int .i64 x.of_.var, .int .i64 x.of_.field, .int .i64 x.of_.n] 205) = w' := by
 go_enter Tryz.func188, Tryz.ntmps188
 go_wp2
 go_ret
 exact ⟨rfl, rfl⟩
theorem purposeName_any (A1 : Option Addr) (n1 c1 : Nat) (x : QPurpose) (w : World) :
 Calls Tryz.prog 184 #[.agg #[.string x.name, .slice A1 n1 c1, .int .i64 x.most]] w fun e w' => e = .returned (.string x.name) ∧ w.alloc (.cells #[.string x.name, .slice A1 n1 c1, .int .i64 x.most] 89) = w' := by
 go_enter Tryz.func184, Tryz.ntmps184
 go_wp2
 go_ret
 exact ⟨rfl, rfl⟩
theorem idName_any (x : ByteArray) (w : World) : Calls Tryz.prog 178 #[.string x] w fun e w' => e = .returned (.string x) ∧ w = w' := by
 go_enter Tryz.func178, Tryz.ntmps178
 go_wp2
 go_ret
 exact ⟨rfl, rfl⟩
end Go.Proofs.YtkgmonplcdnnbaaGreat
