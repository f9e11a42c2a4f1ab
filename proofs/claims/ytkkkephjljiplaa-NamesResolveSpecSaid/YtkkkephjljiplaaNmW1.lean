/- Contracts of names.find and of the functions that tell a name. -/
import Derived.Test.YtkkkephjljiplaaNmData
import Derived.Test.YtkkkephjljiplaaStr
import Derived.Test.YtkkkephjljiplaaProg
import Derived.Deep.QuietTactic
import Derived.BigQuiet
import Derived.WalkLawsBesides
namespace Go.Proofs.Ytkkkephjljiplaa
open Go.RowKit

abbrev strV (x : ByteArray) : Value := Value.string x
abbrev i64V (x : Int) : Value := Value.int .i64 x
def nothingP : List PanicEntry := [{ v := .iface 87 (.agg #[]), recovered := false }]

theorem find_yes (b : Nat) (m : List (ByteArray × Int)) (x : ByteArray) (n : Int) (w : World) (hm : MapAt strV i64V w b m) (hg : getM m x = some n) :
    Calls Try.prog 71 #[.map (some b), .string x] w fun e w' => e = .returned (.int .i64 n) ∧ w = w' := by
  have hlook := run_lookup_m (keyEq_string Try.underlying9) Try.underlying98 (z := .int .i64 0) (by kernel_rfl) hm x true
  rw [hg] at hlook
  simp only [if_true, Option.map_some, Option.getD_some, Option.isSome_some] at hlook
  clear hg hm
  go_enter Try.func71, Try.ntmps71
  go_wp2
  go_ret
  exact ⟨rfl, rfl⟩

theorem find_no (b : Nat) (m : List (ByteArray × Int)) (x : ByteArray) (w : World) (hm : MapAt strV i64V w b m) (hg : getM m x = none) :
    Calls Try.prog 71 #[.map (some b), .string x] w fun e w' => e = .panicked nothingP ∧ w = w' := by
  have hlook := run_lookup_m (keyEq_string Try.underlying9) Try.underlying98 (z := .int .i64 0) (by kernel_rfl) hm x true
  rw [hg] at hlook
  simp only [if_true, Option.map_none, Option.getD_none, Option.isSome_none] at hlook
  clear hg hm
  go_enter Try.func71, Try.ntmps71
  go_wp2
  exact ⟨rfl, rfl, rfl⟩

theorem unitName_any (x : QUnit) (w : World) :
    Calls Try.prog 65 #[.agg #[.string x.name, .string x.of_, .int .i64 x.factor, .int .i64 x.base, .int .i64 x.scale]] w fun e w' => e = .returned (.string x.name) ∧ w.alloc (.cells #[.string x.name, .string x.of_, .int .i64 x.factor, .int .i64 x.base, .int .i64 x.scale] 47) = w' := by
  go_enter Try.func65, Try.ntmps65
  go_wp2
  go_ret
  exact ⟨rfl, rfl⟩
theorem schemaName_any (A1 A2 : Option Addr) (n1 c1 n2 c2 : Nat) (x : QSchema) (w : World) :
    Calls Try.prog 52 #[.agg #[.string x.name, .string x.by_, .int .i64 x.issuer, .int .i64 x.version, .slice A1 n1 c1, .slice A2 n2 c2]] w fun e w' => e = .returned (.string x.name) ∧ w.alloc (.cells #[.string x.name, .string x.by_, .int .i64 x.issuer, .int .i64 x.version, .slice A1 n1 c1, .slice A2 n2 c2] 40) = w' := by
  go_enter Try.func52, Try.ntmps52
  go_wp2
  go_ret
  exact ⟨rfl, rfl⟩
theorem fieldName_any (A1 : Option Addr) (n1 c1 : Nat) (x : QField) (w : World) :
    Calls Try.prog 60 #[.agg #[.string x.name, .int .i64 x.type.kind, .int .i64 x.type.lo, .int .i64 x.type.hi, .string x.type.of_, .int .i64 x.type.unit, .slice A1 n1 c1, .int .i64 x.w0, .int .i64 x.w1, .int .i64 x.w2, .int .i64 x.w3]] w fun e w' => e = .returned (.string x.name) ∧ w.alloc (.cells #[.string x.name, .int .i64 x.type.kind, .int .i64 x.type.lo, .int .i64 x.type.hi, .string x.type.of_, .int .i64 x.type.unit, .slice A1 n1 c1, .int .i64 x.w0, .int .i64 x.w1, .int .i64 x.w2, .int .i64 x.w3] 45) = w' := by
  go_enter Try.func60, Try.ntmps60
  go_wp2
  go_ret
  exact ⟨rfl, rfl⟩
theorem fromName_any (x : QFrom) (w : World) :
    Calls Try.prog 70 #[.agg #[.string x.name, .string x.kind, .int .i64 x.schema, .string x.of_.name, .string x.of_.path, .int .i64 x.of_.var, .int .i64 x.of_.field, .int .i64 x.of_.n]] w fun e w' => e = .returned (.string x.name) ∧ w.alloc (.cells #[.string x.name, .string x.kind, .int .i64 x.schema, .string x.of_.name, .string x.of_.path, .int .i64 x.of_.var, .int .i64 x.of_.field, .int .i64 x.of_.n] 61) = w' := by
  go_enter Try.func70, Try.ntmps70
  go_wp2
  go_ret
  exact ⟨rfl, rfl⟩
theorem purposeName_any (A1 : Option Addr) (n1 c1 : Nat) (x : QPurpose) (w : World) :
    Calls Try.prog 57 #[.agg #[.string x.name, .slice A1 n1 c1, .int .i64 x.most]] w fun e w' => e = .returned (.string x.name) ∧ w.alloc (.cells #[.string x.name, .slice A1 n1 c1, .int .i64 x.most] 74) = w' := by
  go_enter Try.func57, Try.ntmps57
  go_wp2
  go_ret
  exact ⟨rfl, rfl⟩
theorem idName_any (x : ByteArray) (w : World) : Calls Try.prog 63 #[.string x] w fun e w' => e = .returned (.string x) ∧ w = w' := by
  go_enter Try.func63, Try.ntmps63
  go_wp2
  go_ret
  exact ⟨rfl, rfl⟩

end Go.Proofs.Ytkkkephjljiplaa
