/- Equality of structs and of arrays of four numbers, as the machine computes it. Written by geneqs.py. -/
import Derived.Test.YtkgmonplcdnnbaaGreatProg
import Derived.Test.YtkgmonplcdnnbaaGreatPm01
import Derived.Test.YtkgmonplcdnnbaaGreatPm02
import Derived.Laws.StructEq
import Derived.KernelRfl
import Derived.ChangeKeysEq
namespace Go.Proofs.YtkgmonplcdnnbaaGreat
open Go.RowKit
theorem eqInTerm (d : Nat) (x y : QTerm) (w : World) : (Op.equalIn (d + 2) 190 (.agg #[.string x.name, .string x.path, .int .i64 x.var, .int .i64 x.field, .int .i64 x.n]) (.agg #[.string y.name, .string y.path, .int .i64 y.var, .int .i64 y.field, .int .i64 y.n])).run Tryz.prog w = .ok (decide (x = y)) w := by
 have hu := Tryz.underlying190
 have hp : Tryz.prog.stoodInHeld 190 = false := by kernel_rfl
 have ht : Tryz.prog.underlying 190 = some (.struct (Tryz.prog.fieldsOf 190)) := by rw [Program.fieldsOf, hu]
 have h1 : Tryz.prog.plainKey 9 = true := by kernel_rfl
 have h2 : Tryz.prog.plainKey 3 = true := by kernel_rfl
 rw [run_equalIn_struct w (d + 1) 190 _ _ ht hp, Program.fieldsOf, hu]
 have es : ∀ (a b : ByteArray), (Op.equalIn (d + 1) 9 (.string a) (.string b)).run Tryz.prog w = .ok (decide (a = b)) w := fun a b => by
  rw [run_equalIn_string w (d + 0) 9 a b Tryz.underlying9, str_beq]
 have ei : ∀ (a b : Int), (Op.equalIn (d + 1) 3 (.int .i64 a) (.int .i64 b)).run Tryz.prog w = .ok (decide (a = b)) w := fun a b => by
  rw [run_equalIn_int w (d + 0) 3 .i64 .i64 a b Tryz.underlying3]
  rfl
 have qx0 := run_part_plain (P := Tryz.prog) w h1 (xs := #[.string x.name, .string x.path, .int .i64 x.var, .int .i64 x.field, .int .i64 x.n]) (off := 0) (v := .string x.name) rfl
 have qy0 := run_part_plain (P := Tryz.prog) w h1 (xs := #[.string y.name, .string y.path, .int .i64 y.var, .int .i64 y.field, .int .i64 y.n]) (off := 0) (v := .string y.name) rfl
 have qx1 := run_part_plain (P := Tryz.prog) w h1 (xs := #[.string x.name, .string x.path, .int .i64 x.var, .int .i64 x.field, .int .i64 x.n]) (off := 1) (v := .string x.path) rfl
 have qy1 := run_part_plain (P := Tryz.prog) w h1 (xs := #[.string y.name, .string y.path, .int .i64 y.var, .int .i64 y.field, .int .i64 y.n]) (off := 1) (v := .string y.path) rfl
 have qx2 := run_part_plain (P := Tryz.prog) w h2 (xs := #[.string x.name, .string x.path, .int .i64 x.var, .int .i64 x.field, .int .i64 x.n]) (off := 2) (v := .int .i64 x.var) rfl
 have qy2 := run_part_plain (P := Tryz.prog) w h2 (xs := #[.string y.name, .string y.path, .int .i64 y.var, .int .i64 y.field, .int .i64 y.n]) (off := 2) (v := .int .i64 y.var) rfl
 have qx3 := run_part_plain (P := Tryz.prog) w h2 (xs := #[.string x.name, .string x.path, .int .i64 x.var, .int .i64 x.field, .int .i64 x.n]) (off := 3) (v := .int .i64 x.field) rfl
 have qy3 := run_part_plain (P := Tryz.prog) w h2 (xs := #[.string y.name, .string y.path, .int .i64 y.var, .int .i64 y.field, .int .i64 y.n]) (off := 3) (v := .int .i64 y.field) rfl
 have qx4 := run_part_plain (P := Tryz.prog) w h2 (xs := #[.string x.name, .string x.path, .int .i64 x.var, .int .i64 x.field, .int .i64 x.n]) (off := 4) (v := .int .i64 x.n) rfl
 have qy4 := run_part_plain (P := Tryz.prog) w h2 (xs := #[.string y.name, .string y.path, .int .i64 y.var, .int .i64 y.field, .int .i64 y.n]) (off := 4) (v := .int .i64 y.n) rfl
 simp [Op.eqFields, qx0, qy0, qx1, qy1, qx2, qy2, qx3, qy3, qx4, qy4, es, ei, Result.andThen_ok]
 obtain ⟨x0, x1, x2, x3, x4⟩ := x
 obtain ⟨y0, y1, y2, y3, y4⟩ := y
 simp only [QTerm.mk.injEq]
 by_cases e0 : x0 = y0
 case neg => simp [e0]
 by_cases e1 : x1 = y1
 case neg => simp [e0, e1]
 by_cases e2 : x2 = y2
 case neg => simp [e0, e1, e2]
 by_cases e3 : x3 = y3
 case neg => simp [e0, e1, e2, e3]
 by_cases e4 : x4 = y4
 case neg => simp [e0, e1, e2, e3, e4]
 simp [e0, e1, e2, e3, e4]
theorem eqInUnit (d : Nat) (x y : QUnit) (w : World) : (Op.equalIn (d + 2) 116 (.agg #[.string x.name, .string x.of_, .int .i64 x.factor, .int .i64 x.base, .int .i64 x.scale]) (.agg #[.string y.name, .string y.of_, .int .i64 y.factor, .int .i64 y.base, .int .i64 y.scale])).run Tryz.prog w = .ok (decide (x = y)) w := by
 have hu := Tryz.underlying116
 have hp : Tryz.prog.stoodInHeld 116 = false := by kernel_rfl
 have ht : Tryz.prog.underlying 116 = some (.struct (Tryz.prog.fieldsOf 116)) := by rw [Program.fieldsOf, hu]
 have h1 : Tryz.prog.plainKey 9 = true := by kernel_rfl
 have h2 : Tryz.prog.plainKey 3 = true := by kernel_rfl
 rw [run_equalIn_struct w (d + 1) 116 _ _ ht hp, Program.fieldsOf, hu]
 have es : ∀ (a b : ByteArray), (Op.equalIn (d + 1) 9 (.string a) (.string b)).run Tryz.prog w = .ok (decide (a = b)) w := fun a b => by
  rw [run_equalIn_string w (d + 0) 9 a b Tryz.underlying9, str_beq]
 have ei : ∀ (a b : Int), (Op.equalIn (d + 1) 3 (.int .i64 a) (.int .i64 b)).run Tryz.prog w = .ok (decide (a = b)) w := fun a b => by
  rw [run_equalIn_int w (d + 0) 3 .i64 .i64 a b Tryz.underlying3]
  rfl
 have qx0 := run_part_plain (P := Tryz.prog) w h1 (xs := #[.string x.name, .string x.of_, .int .i64 x.factor, .int .i64 x.base, .int .i64 x.scale]) (off := 0) (v := .string x.name) rfl
 have qy0 := run_part_plain (P := Tryz.prog) w h1 (xs := #[.string y.name, .string y.of_, .int .i64 y.factor, .int .i64 y.base, .int .i64 y.scale]) (off := 0) (v := .string y.name) rfl
 have qx1 := run_part_plain (P := Tryz.prog) w h1 (xs := #[.string x.name, .string x.of_, .int .i64 x.factor, .int .i64 x.base, .int .i64 x.scale]) (off := 1) (v := .string x.of_) rfl
 have qy1 := run_part_plain (P := Tryz.prog) w h1 (xs := #[.string y.name, .string y.of_, .int .i64 y.factor, .int .i64 y.base, .int .i64 y.scale]) (off := 1) (v := .string y.of_) rfl
 have qx2 := run_part_plain (P := Tryz.prog) w h2 (xs := #[.string x.name, .string x.of_, .int .i64 x.factor, .int .i64 x.base, .int .i64 x.scale]) (off := 2) (v := .int .i64 x.factor) rfl
 have qy2 := run_part_plain (P := Tryz.prog) w h2 (xs := #[.string y.name, .string y.of_, .int .i64 y.factor, .int .i64 y.base, .int .i64 y.scale]) (off := 2) (v := .int .i64 y.factor) rfl
 have qx3 := run_part_plain (P := Tryz.prog) w h2 (xs := #[.string x.name, .string x.of_, .int .i64 x.factor, .int .i64 x.base, .int .i64 x.scale]) (off := 3) (v := .int .i64 x.base) rfl
 have qy3 := run_part_plain (P := Tryz.prog) w h2 (xs := #[.string y.name, .string y.of_, .int .i64 y.factor, .int .i64 y.base, .int .i64 y.scale]) (off := 3) (v := .int .i64 y.base) rfl
 have qx4 := run_part_plain (P := Tryz.prog) w h2 (xs := #[.string x.name, .string x.of_, .int .i64 x.factor, .int .i64 x.base, .int .i64 x.scale]) (off := 4) (v := .int .i64 x.scale) rfl
 have qy4 := run_part_plain (P := Tryz.prog) w h2 (xs := #[.string y.name, .string y.of_, .int .i64 y.factor, .int .i64 y.base, .int .i64 y.scale]) (off := 4) (v := .int .i64 y.scale) rfl
 simp [Op.eqFields, qx0, qy0, qx1, qy1, qx2, qy2, qx3, qy3, qx4, qy4, es, ei, Result.andThen_ok]
 obtain ⟨x0, x1, x2, x3, x4⟩ := x
 obtain ⟨y0, y1, y2, y3, y4⟩ := y
 simp only [QUnit.mk.injEq]
 by_cases e0 : x0 = y0
 case neg => simp [e0]
 by_cases e1 : x1 = y1
 case neg => simp [e0, e1]
 by_cases e2 : x2 = y2
 case neg => simp [e0, e1, e2]
 by_cases e3 : x3 = y3
 case neg => simp [e0, e1, e2, e3]
 by_cases e4 : x4 = y4
 case neg => simp [e0, e1, e2, e3, e4]
 simp [e0, e1, e2, e3, e4]
theorem neqUnit (x y : QUnit) (w : World) : (binOp .neq 116 (.agg #[.string x.name, .string x.of_, .int .i64 x.factor, .int .i64 x.base, .int .i64 x.scale]) (.agg #[.string y.name, .string y.of_, .int .i64 y.factor, .int .i64 y.base, .int .i64 y.scale])).run Tryz.prog w = .ok (.bool (!decide (x = y))) w := by
 rw [run_neq_struct w, eqInUnit 9998 x y w]
 rfl
theorem eqInMove (d : Nat) (x y : QMove) (w : World) : (Op.equalIn (d + 2) 202 (.agg #[.string x.to_, .string x.from_, .int .i64 x.b, .int .i64 x.a, .int .i64 x.shift]) (.agg #[.string y.to_, .string y.from_, .int .i64 y.b, .int .i64 y.a, .int .i64 y.shift])).run Tryz.prog w = .ok (decide (x = y)) w := by
 have hu := Tryz.underlying202
 have hp : Tryz.prog.stoodInHeld 202 = false := by kernel_rfl
 have ht : Tryz.prog.underlying 202 = some (.struct (Tryz.prog.fieldsOf 202)) := by rw [Program.fieldsOf, hu]
 have h1 : Tryz.prog.plainKey 9 = true := by kernel_rfl
 have h2 : Tryz.prog.plainKey 3 = true := by kernel_rfl
 rw [run_equalIn_struct w (d + 1) 202 _ _ ht hp, Program.fieldsOf, hu]
 have es : ∀ (a b : ByteArray), (Op.equalIn (d + 1) 9 (.string a) (.string b)).run Tryz.prog w = .ok (decide (a = b)) w := fun a b => by
  rw [run_equalIn_string w (d + 0) 9 a b Tryz.underlying9, str_beq]
 have ei : ∀ (a b : Int), (Op.equalIn (d + 1) 3 (.int .i64 a) (.int .i64 b)).run Tryz.prog w = .ok (decide (a = b)) w := fun a b => by
  rw [run_equalIn_int w (d + 0) 3 .i64 .i64 a b Tryz.underlying3]
  rfl
 have qx0 := run_part_plain (P := Tryz.prog) w h1 (xs := #[.string x.to_, .string x.from_, .int .i64 x.b, .int .i64 x.a, .int .i64 x.shift]) (off := 0) (v := .string x.to_) rfl
 have qy0 := run_part_plain (P := Tryz.prog) w h1 (xs := #[.string y.to_, .string y.from_, .int .i64 y.b, .int .i64 y.a, .int .i64 y.shift]) (off := 0) (v := .string y.to_) rfl
 have qx1 := run_part_plain (P := Tryz.prog) w h1 (xs := #[.string x.to_, .string x.from_, .int .i64 x.b, .int .i64 x.a, .int .i64 x.shift]) (off := 1) (v := .string x.from_) rfl
 have qy1 := run_part_plain (P := Tryz.prog) w h1 (xs := #[.string y.to_, .string y.from_, .int .i64 y.b, .int .i64 y.a, .int .i64 y.shift]) (off := 1) (v := .string y.from_) rfl
 have qx2 := run_part_plain (P := Tryz.prog) w h2 (xs := #[.string x.to_, .string x.from_, .int .i64 x.b, .int .i64 x.a, .int .i64 x.shift]) (off := 2) (v := .int .i64 x.b) rfl
 have qy2 := run_part_plain (P := Tryz.prog) w h2 (xs := #[.string y.to_, .string y.from_, .int .i64 y.b, .int .i64 y.a, .int .i64 y.shift]) (off := 2) (v := .int .i64 y.b) rfl
 have qx3 := run_part_plain (P := Tryz.prog) w h2 (xs := #[.string x.to_, .string x.from_, .int .i64 x.b, .int .i64 x.a, .int .i64 x.shift]) (off := 3) (v := .int .i64 x.a) rfl
 have qy3 := run_part_plain (P := Tryz.prog) w h2 (xs := #[.string y.to_, .string y.from_, .int .i64 y.b, .int .i64 y.a, .int .i64 y.shift]) (off := 3) (v := .int .i64 y.a) rfl
 have qx4 := run_part_plain (P := Tryz.prog) w h2 (xs := #[.string x.to_, .string x.from_, .int .i64 x.b, .int .i64 x.a, .int .i64 x.shift]) (off := 4) (v := .int .i64 x.shift) rfl
 have qy4 := run_part_plain (P := Tryz.prog) w h2 (xs := #[.string y.to_, .string y.from_, .int .i64 y.b, .int .i64 y.a, .int .i64 y.shift]) (off := 4) (v := .int .i64 y.shift) rfl
 simp [Op.eqFields, qx0, qy0, qx1, qy1, qx2, qy2, qx3, qy3, qx4, qy4, es, ei, Result.andThen_ok]
 obtain ⟨x0, x1, x2, x3, x4⟩ := x
 obtain ⟨y0, y1, y2, y3, y4⟩ := y
 simp only [QMove.mk.injEq]
 by_cases e0 : x0 = y0
 case neg => simp [e0]
 by_cases e1 : x1 = y1
 case neg => simp [e0, e1]
 by_cases e2 : x2 = y2
 case neg => simp [e0, e1, e2]
 by_cases e3 : x3 = y3
 case neg => simp [e0, e1, e2, e3]
 by_cases e4 : x4 = y4
 case neg => simp [e0, e1, e2, e3, e4]
 simp [e0, e1, e2, e3, e4]
theorem neqMove (x y : QMove) (w : World) : (binOp .neq 202 (.agg #[.string x.to_, .string x.from_, .int .i64 x.b, .int .i64 x.a, .int .i64 x.shift]) (.agg #[.string y.to_, .string y.from_, .int .i64 y.b, .int .i64 y.a, .int .i64 y.shift])).run Tryz.prog w = .ok (.bool (!decide (x = y))) w := by
 rw [run_neq_struct w, eqInMove 9998 x y w]
 rfl
theorem eqInRef (d : Nat) (x y : QRef) (w : World) : (Op.equalIn (d + 2) 160 (.agg #[.string x.name, .string x.path, .int .i64 x.schema, .int .i64 x.field]) (.agg #[.string y.name, .string y.path, .int .i64 y.schema, .int .i64 y.field])).run Tryz.prog w = .ok (decide (x = y)) w := by
 have hu := Tryz.underlying160
 have hp : Tryz.prog.stoodInHeld 160 = false := by kernel_rfl
 have ht : Tryz.prog.underlying 160 = some (.struct (Tryz.prog.fieldsOf 160)) := by rw [Program.fieldsOf, hu]
 have h1 : Tryz.prog.plainKey 9 = true := by kernel_rfl
 have h2 : Tryz.prog.plainKey 3 = true := by kernel_rfl
 rw [run_equalIn_struct w (d + 1) 160 _ _ ht hp, Program.fieldsOf, hu]
 have es : ∀ (a b : ByteArray), (Op.equalIn (d + 1) 9 (.string a) (.string b)).run Tryz.prog w = .ok (decide (a = b)) w := fun a b => by
  rw [run_equalIn_string w (d + 0) 9 a b Tryz.underlying9, str_beq]
 have ei : ∀ (a b : Int), (Op.equalIn (d + 1) 3 (.int .i64 a) (.int .i64 b)).run Tryz.prog w = .ok (decide (a = b)) w := fun a b => by
  rw [run_equalIn_int w (d + 0) 3 .i64 .i64 a b Tryz.underlying3]
  rfl
 have qx0 := run_part_plain (P := Tryz.prog) w h1 (xs := #[.string x.name, .string x.path, .int .i64 x.schema, .int .i64 x.field]) (off := 0) (v := .string x.name) rfl
 have qy0 := run_part_plain (P := Tryz.prog) w h1 (xs := #[.string y.name, .string y.path, .int .i64 y.schema, .int .i64 y.field]) (off := 0) (v := .string y.name) rfl
 have qx1 := run_part_plain (P := Tryz.prog) w h1 (xs := #[.string x.name, .string x.path, .int .i64 x.schema, .int .i64 x.field]) (off := 1) (v := .string x.path) rfl
 have qy1 := run_part_plain (P := Tryz.prog) w h1 (xs := #[.string y.name, .string y.path, .int .i64 y.schema, .int .i64 y.field]) (off := 1) (v := .string y.path) rfl
 have qx2 := run_part_plain (P := Tryz.prog) w h2 (xs := #[.string x.name, .string x.path, .int .i64 x.schema, .int .i64 x.field]) (off := 2) (v := .int .i64 x.schema) rfl
 have qy2 := run_part_plain (P := Tryz.prog) w h2 (xs := #[.string y.name, .string y.path, .int .i64 y.schema, .int .i64 y.field]) (off := 2) (v := .int .i64 y.schema) rfl
 have qx3 := run_part_plain (P := Tryz.prog) w h2 (xs := #[.string x.name, .string x.path, .int .i64 x.schema, .int .i64 x.field]) (off := 3) (v := .int .i64 x.field) rfl
 have qy3 := run_part_plain (P := Tryz.prog) w h2 (xs := #[.string y.name, .string y.path, .int .i64 y.schema, .int .i64 y.field]) (off := 3) (v := .int .i64 y.field) rfl
 simp [Op.eqFields, qx0, qy0, qx1, qy1, qx2, qy2, qx3, qy3, es, ei, Result.andThen_ok]
 obtain ⟨x0, x1, x2, x3⟩ := x
 obtain ⟨y0, y1, y2, y3⟩ := y
 simp only [QRef.mk.injEq]
 by_cases e0 : x0 = y0
 case neg => simp [e0]
 by_cases e1 : x1 = y1
 case neg => simp [e0, e1]
 by_cases e2 : x2 = y2
 case neg => simp [e0, e1, e2]
 by_cases e3 : x3 = y3
 case neg => simp [e0, e1, e2, e3]
 simp [e0, e1, e2, e3]
theorem neqRef (x y : QRef) (w : World) : (binOp .neq 160 (.agg #[.string x.name, .string x.path, .int .i64 x.schema, .int .i64 x.field]) (.agg #[.string y.name, .string y.path, .int .i64 y.schema, .int .i64 y.field])).run Tryz.prog w = .ok (.bool (!decide (x = y))) w := by
 rw [run_neq_struct w, eqInRef 9998 x y w]
 rfl
theorem eqInFrom (d : Nat) (x y : QFrom) (w : World) : (Op.equalIn (d + 3) 205 (.agg #[.string x.name, .string x.kind, .int .i64 x.schema, .string x.of_.name, .string x.of_.path, .int .i64 x.of_.var, .int .i64 x.of_.field, .int .i64 x.of_.n]) (.agg #[.string y.name, .string y.kind, .int .i64 y.schema, .string y.of_.name, .string y.of_.path, .int .i64 y.of_.var, .int .i64 y.of_.field, .int .i64 y.of_.n])).run Tryz.prog w = .ok (decide (x = y)) w := by
 have hu := Tryz.underlying205
 have hp : Tryz.prog.stoodInHeld 205 = false := by kernel_rfl
 have ht : Tryz.prog.underlying 205 = some (.struct (Tryz.prog.fieldsOf 205)) := by rw [Program.fieldsOf, hu]
 have h1 : Tryz.prog.plainKey 9 = true := by kernel_rfl
 have h2 : Tryz.prog.plainKey 3 = true := by kernel_rfl
 rw [run_equalIn_struct w (d + 2) 205 _ _ ht hp, Program.fieldsOf, hu]
 have es : ∀ (a b : ByteArray), (Op.equalIn (d + 2) 9 (.string a) (.string b)).run Tryz.prog w = .ok (decide (a = b)) w := fun a b => by
  rw [run_equalIn_string w (d + 1) 9 a b Tryz.underlying9, str_beq]
 have ei : ∀ (a b : Int), (Op.equalIn (d + 2) 3 (.int .i64 a) (.int .i64 b)).run Tryz.prog w = .ok (decide (a = b)) w := fun a b => by
  rw [run_equalIn_int w (d + 1) 3 .i64 .i64 a b Tryz.underlying3]
  rfl
 have qx0 := run_part_plain (P := Tryz.prog) w h1 (xs := #[.string x.name, .string x.kind, .int .i64 x.schema, .string x.of_.name, .string x.of_.path, .int .i64 x.of_.var, .int .i64 x.of_.field, .int .i64 x.of_.n]) (off := 0) (v := .string x.name) rfl
 have qy0 := run_part_plain (P := Tryz.prog) w h1 (xs := #[.string y.name, .string y.kind, .int .i64 y.schema, .string y.of_.name, .string y.of_.path, .int .i64 y.of_.var, .int .i64 y.of_.field, .int .i64 y.of_.n]) (off := 0) (v := .string y.name) rfl
 have qx1 := run_part_plain (P := Tryz.prog) w h1 (xs := #[.string x.name, .string x.kind, .int .i64 x.schema, .string x.of_.name, .string x.of_.path, .int .i64 x.of_.var, .int .i64 x.of_.field, .int .i64 x.of_.n]) (off := 1) (v := .string x.kind) rfl
 have qy1 := run_part_plain (P := Tryz.prog) w h1 (xs := #[.string y.name, .string y.kind, .int .i64 y.schema, .string y.of_.name, .string y.of_.path, .int .i64 y.of_.var, .int .i64 y.of_.field, .int .i64 y.of_.n]) (off := 1) (v := .string y.kind) rfl
 have qx2 := run_part_plain (P := Tryz.prog) w h2 (xs := #[.string x.name, .string x.kind, .int .i64 x.schema, .string x.of_.name, .string x.of_.path, .int .i64 x.of_.var, .int .i64 x.of_.field, .int .i64 x.of_.n]) (off := 2) (v := .int .i64 x.schema) rfl
 have qy2 := run_part_plain (P := Tryz.prog) w h2 (xs := #[.string y.name, .string y.kind, .int .i64 y.schema, .string y.of_.name, .string y.of_.path, .int .i64 y.of_.var, .int .i64 y.of_.field, .int .i64 y.of_.n]) (off := 2) (v := .int .i64 y.schema) rfl
 have qx3 : (part 190 #[.string x.name, .string x.kind, .int .i64 x.schema, .string x.of_.name, .string x.of_.path, .int .i64 x.of_.var, .int .i64 x.of_.field, .int .i64 x.of_.n] 3).run Tryz.prog w = .ok (.agg #[.string x.of_.name, .string x.of_.path, .int .i64 x.of_.var, .int .i64 x.of_.field, .int .i64 x.of_.n]) w := by
  have hz : Tryz.prog.cellsOf 190 = 5 := by kernel_rfl
  simp [part, isAgg, run_underlying (P := Tryz.prog) Tryz.underlying190]
 have qy3 : (part 190 #[.string y.name, .string y.kind, .int .i64 y.schema, .string y.of_.name, .string y.of_.path, .int .i64 y.of_.var, .int .i64 y.of_.field, .int .i64 y.of_.n] 3).run Tryz.prog w = .ok (.agg #[.string y.of_.name, .string y.of_.path, .int .i64 y.of_.var, .int .i64 y.of_.field, .int .i64 y.of_.n]) w := by
  have hz : Tryz.prog.cellsOf 190 = 5 := by kernel_rfl
  simp [part, isAgg, run_underlying (P := Tryz.prog) Tryz.underlying190]
 simp [Op.eqFields, qx0, qy0, qx1, qy1, qx2, qy2, qx3, qy3, es, ei, eqInTerm d, Result.andThen_ok]
 obtain ⟨x0, x1, x2, x3⟩ := x
 obtain ⟨y0, y1, y2, y3⟩ := y
 simp only [QFrom.mk.injEq]
 by_cases e0 : x0 = y0
 case neg => simp [e0]
 by_cases e1 : x1 = y1
 case neg => simp [e0, e1]
 by_cases e2 : x2 = y2
 case neg => simp [e0, e1, e2]
 by_cases e3 : x3 = y3
 case neg => simp [e0, e1, e2, e3]
 simp [e0, e1, e2, e3]
theorem neqFrom (x y : QFrom) (w : World) : (binOp .neq 205 (.agg #[.string x.name, .string x.kind, .int .i64 x.schema, .string x.of_.name, .string x.of_.path, .int .i64 x.of_.var, .int .i64 x.of_.field, .int .i64 x.of_.n]) (.agg #[.string y.name, .string y.kind, .int .i64 y.schema, .string y.of_.name, .string y.of_.path, .int .i64 y.of_.var, .int .i64 y.of_.field, .int .i64 y.of_.n])).run Tryz.prog w = .ok (.bool (!decide (x = y))) w := by
 rw [run_neq_struct w, eqInFrom 9997 x y w]
 rfl
theorem eqInAtom (d : Nat) (x y : QAtom) (w : World) : (Op.equalIn (d + 3) 192 (.agg #[.int .i64 x.op, .string x.a.name, .string x.a.path, .int .i64 x.a.var, .int .i64 x.a.field, .int .i64 x.a.n, .string x.b.name, .string x.b.path, .int .i64 x.b.var, .int .i64 x.b.field, .int .i64 x.b.n]) (.agg #[.int .i64 y.op, .string y.a.name, .string y.a.path, .int .i64 y.a.var, .int .i64 y.a.field, .int .i64 y.a.n, .string y.b.name, .string y.b.path, .int .i64 y.b.var, .int .i64 y.b.field, .int .i64 y.b.n])).run Tryz.prog w = .ok (decide (x = y)) w := by
 have hu := Tryz.underlying192
 have hp : Tryz.prog.stoodInHeld 192 = false := by kernel_rfl
 have ht : Tryz.prog.underlying 192 = some (.struct (Tryz.prog.fieldsOf 192)) := by rw [Program.fieldsOf, hu]
 have h1 : Tryz.prog.plainKey 9 = true := by kernel_rfl
 have h2 : Tryz.prog.plainKey 3 = true := by kernel_rfl
 rw [run_equalIn_struct w (d + 2) 192 _ _ ht hp, Program.fieldsOf, hu]
 have ei : ∀ (a b : Int), (Op.equalIn (d + 2) 3 (.int .i64 a) (.int .i64 b)).run Tryz.prog w = .ok (decide (a = b)) w := fun a b => by
  rw [run_equalIn_int w (d + 1) 3 .i64 .i64 a b Tryz.underlying3]
  rfl
 have qx0 := run_part_plain (P := Tryz.prog) w h2 (xs := #[.int .i64 x.op, .string x.a.name, .string x.a.path, .int .i64 x.a.var, .int .i64 x.a.field, .int .i64 x.a.n, .string x.b.name, .string x.b.path, .int .i64 x.b.var, .int .i64 x.b.field, .int .i64 x.b.n]) (off := 0) (v := .int .i64 x.op) rfl
 have qy0 := run_part_plain (P := Tryz.prog) w h2 (xs := #[.int .i64 y.op, .string y.a.name, .string y.a.path, .int .i64 y.a.var, .int .i64 y.a.field, .int .i64 y.a.n, .string y.b.name, .string y.b.path, .int .i64 y.b.var, .int .i64 y.b.field, .int .i64 y.b.n]) (off := 0) (v := .int .i64 y.op) rfl
 have qx1 : (part 190 #[.int .i64 x.op, .string x.a.name, .string x.a.path, .int .i64 x.a.var, .int .i64 x.a.field, .int .i64 x.a.n, .string x.b.name, .string x.b.path, .int .i64 x.b.var, .int .i64 x.b.field, .int .i64 x.b.n] 1).run Tryz.prog w = .ok (.agg #[.string x.a.name, .string x.a.path, .int .i64 x.a.var, .int .i64 x.a.field, .int .i64 x.a.n]) w := by
  have hz : Tryz.prog.cellsOf 190 = 5 := by kernel_rfl
  simp [part, isAgg, run_underlying (P := Tryz.prog) Tryz.underlying190]
 have qy1 : (part 190 #[.int .i64 y.op, .string y.a.name, .string y.a.path, .int .i64 y.a.var, .int .i64 y.a.field, .int .i64 y.a.n, .string y.b.name, .string y.b.path, .int .i64 y.b.var, .int .i64 y.b.field, .int .i64 y.b.n] 1).run Tryz.prog w = .ok (.agg #[.string y.a.name, .string y.a.path, .int .i64 y.a.var, .int .i64 y.a.field, .int .i64 y.a.n]) w := by
  have hz : Tryz.prog.cellsOf 190 = 5 := by kernel_rfl
  simp [part, isAgg, run_underlying (P := Tryz.prog) Tryz.underlying190]
 have qx2 : (part 190 #[.int .i64 x.op, .string x.a.name, .string x.a.path, .int .i64 x.a.var, .int .i64 x.a.field, .int .i64 x.a.n, .string x.b.name, .string x.b.path, .int .i64 x.b.var, .int .i64 x.b.field, .int .i64 x.b.n] 6).run Tryz.prog w = .ok (.agg #[.string x.b.name, .string x.b.path, .int .i64 x.b.var, .int .i64 x.b.field, .int .i64 x.b.n]) w := by
  have hz : Tryz.prog.cellsOf 190 = 5 := by kernel_rfl
  simp [part, isAgg, run_underlying (P := Tryz.prog) Tryz.underlying190]
 have qy2 : (part 190 #[.int .i64 y.op, .string y.a.name, .string y.a.path, .int .i64 y.a.var, .int .i64 y.a.field, .int .i64 y.a.n, .string y.b.name, .string y.b.path, .int .i64 y.b.var, .int .i64 y.b.field, .int .i64 y.b.n] 6).run Tryz.prog w = .ok (.agg #[.string y.b.name, .string y.b.path, .int .i64 y.b.var, .int .i64 y.b.field, .int .i64 y.b.n]) w := by
  have hz : Tryz.prog.cellsOf 190 = 5 := by kernel_rfl
  simp [part, isAgg, run_underlying (P := Tryz.prog) Tryz.underlying190]
 simp [Op.eqFields, qx0, qy0, qx1, qy1, qx2, qy2, ei, eqInTerm d, Result.andThen_ok]
 obtain ⟨x0, x1, x2⟩ := x
 obtain ⟨y0, y1, y2⟩ := y
 simp only [QAtom.mk.injEq]
 by_cases e0 : x0 = y0
 case neg => simp [e0]
 by_cases e1 : x1 = y1
 case neg => simp [e0, e1]
 by_cases e2 : x2 = y2
 case neg => simp [e0, e1, e2]
 simp [e0, e1, e2]
theorem neqAtom (x y : QAtom) (w : World) : (binOp .neq 192 (.agg #[.int .i64 x.op, .string x.a.name, .string x.a.path, .int .i64 x.a.var, .int .i64 x.a.field, .int .i64 x.a.n, .string x.b.name, .string x.b.path, .int .i64 x.b.var, .int .i64 x.b.field, .int .i64 x.b.n]) (.agg #[.int .i64 y.op, .string y.a.name, .string y.a.path, .int .i64 y.a.var, .int .i64 y.a.field, .int .i64 y.a.n, .string y.b.name, .string y.b.path, .int .i64 y.b.var, .int .i64 y.b.field, .int .i64 y.b.n])).run Tryz.prog w = .ok (.bool (!decide (x = y))) w := by
 rw [run_neq_struct w, eqInAtom 9997 x y w]
 rfl
theorem eqInSet (d : Nat) (x y : QSet) (w : World) : (Op.equalIn (d + 3) 195 (.agg #[.string x.path, .int .i64 x.field, .string x.term.name, .string x.term.path, .int .i64 x.term.var, .int .i64 x.term.field, .int .i64 x.term.n]) (.agg #[.string y.path, .int .i64 y.field, .string y.term.name, .string y.term.path, .int .i64 y.term.var, .int .i64 y.term.field, .int .i64 y.term.n])).run Tryz.prog w = .ok (decide (x = y)) w := by
 have hu := Tryz.underlying195
 have hp : Tryz.prog.stoodInHeld 195 = false := by kernel_rfl
 have ht : Tryz.prog.underlying 195 = some (.struct (Tryz.prog.fieldsOf 195)) := by rw [Program.fieldsOf, hu]
 have h1 : Tryz.prog.plainKey 9 = true := by kernel_rfl
 have h2 : Tryz.prog.plainKey 3 = true := by kernel_rfl
 rw [run_equalIn_struct w (d + 2) 195 _ _ ht hp, Program.fieldsOf, hu]
 have es : ∀ (a b : ByteArray), (Op.equalIn (d + 2) 9 (.string a) (.string b)).run Tryz.prog w = .ok (decide (a = b)) w := fun a b => by
  rw [run_equalIn_string w (d + 1) 9 a b Tryz.underlying9, str_beq]
 have ei : ∀ (a b : Int), (Op.equalIn (d + 2) 3 (.int .i64 a) (.int .i64 b)).run Tryz.prog w = .ok (decide (a = b)) w := fun a b => by
  rw [run_equalIn_int w (d + 1) 3 .i64 .i64 a b Tryz.underlying3]
  rfl
 have qx0 := run_part_plain (P := Tryz.prog) w h1 (xs := #[.string x.path, .int .i64 x.field, .string x.term.name, .string x.term.path, .int .i64 x.term.var, .int .i64 x.term.field, .int .i64 x.term.n]) (off := 0) (v := .string x.path) rfl
 have qy0 := run_part_plain (P := Tryz.prog) w h1 (xs := #[.string y.path, .int .i64 y.field, .string y.term.name, .string y.term.path, .int .i64 y.term.var, .int .i64 y.term.field, .int .i64 y.term.n]) (off := 0) (v := .string y.path) rfl
 have qx1 := run_part_plain (P := Tryz.prog) w h2 (xs := #[.string x.path, .int .i64 x.field, .string x.term.name, .string x.term.path, .int .i64 x.term.var, .int .i64 x.term.field, .int .i64 x.term.n]) (off := 1) (v := .int .i64 x.field) rfl
 have qy1 := run_part_plain (P := Tryz.prog) w h2 (xs := #[.string y.path, .int .i64 y.field, .string y.term.name, .string y.term.path, .int .i64 y.term.var, .int .i64 y.term.field, .int .i64 y.term.n]) (off := 1) (v := .int .i64 y.field) rfl
 have qx2 : (part 190 #[.string x.path, .int .i64 x.field, .string x.term.name, .string x.term.path, .int .i64 x.term.var, .int .i64 x.term.field, .int .i64 x.term.n] 2).run Tryz.prog w = .ok (.agg #[.string x.term.name, .string x.term.path, .int .i64 x.term.var, .int .i64 x.term.field, .int .i64 x.term.n]) w := by
  have hz : Tryz.prog.cellsOf 190 = 5 := by kernel_rfl
  simp [part, isAgg, run_underlying (P := Tryz.prog) Tryz.underlying190]
 have qy2 : (part 190 #[.string y.path, .int .i64 y.field, .string y.term.name, .string y.term.path, .int .i64 y.term.var, .int .i64 y.term.field, .int .i64 y.term.n] 2).run Tryz.prog w = .ok (.agg #[.string y.term.name, .string y.term.path, .int .i64 y.term.var, .int .i64 y.term.field, .int .i64 y.term.n]) w := by
  have hz : Tryz.prog.cellsOf 190 = 5 := by kernel_rfl
  simp [part, isAgg, run_underlying (P := Tryz.prog) Tryz.underlying190]
 simp [Op.eqFields, qx0, qy0, qx1, qy1, qx2, qy2, es, ei, eqInTerm d, Result.andThen_ok]
 obtain ⟨x0, x1, x2⟩ := x
 obtain ⟨y0, y1, y2⟩ := y
 simp only [QSet.mk.injEq]
 by_cases e0 : x0 = y0
 case neg => simp [e0]
 by_cases e1 : x1 = y1
 case neg => simp [e0, e1]
 by_cases e2 : x2 = y2
 case neg => simp [e0, e1, e2]
 simp [e0, e1, e2]
theorem neqSet (x y : QSet) (w : World) : (binOp .neq 195 (.agg #[.string x.path, .int .i64 x.field, .string x.term.name, .string x.term.path, .int .i64 x.term.var, .int .i64 x.term.field, .int .i64 x.term.n]) (.agg #[.string y.path, .int .i64 y.field, .string y.term.name, .string y.term.path, .int .i64 y.term.var, .int .i64 y.term.field, .int .i64 y.term.n])).run Tryz.prog w = .ok (.bool (!decide (x = y))) w := by
 rw [run_neq_struct w, eqInSet 9997 x y w]
 rfl
theorem blkNew {w : World} {t : TypeId} {cs : Array Value} {g : Nat} (h : w.heap.size = g) : Blk (w.alloc (.cells cs t)) g t cs := by subst h; exact Blk.new _ _ _
theorem eqFour (a b c d a' b' c' d' : Int) (w : World) : (Op.equalIn 10000 56 (.agg #[.int .i64 a, .int .i64 b, .int .i64 c, .int .i64 d]) (.agg #[.int .i64 a', .int .i64 b', .int .i64 c', .int .i64 d'])).run Tryz.prog w = .ok (decide (a = a') && decide (b = b') && decide (c = c') && decide (d = d')) w := by
 obtain ⟨i0, hi⟩ := info_of_underlying (P := Tryz.prog) Tryz.underlying3
 have h := run_equalIn_array (P := Tryz.prog) w 9999 #[.int .i64 a, .int .i64 b, .int .i64 c, .int .i64 d] #[.int .i64 a', .int .i64 b', .int .i64 c', .int .i64 d'] Tryz.underlying56 hi
 have h1 : Tryz.prog.cellsOf 3 = 1 := by kernel_rfl
 rw [h1, show List.range 4 = [0, 1, 2, 3] from rfl] at h
 have he : ∀ (x y : Int), (Op.equalIn 9999 3 (.int .i64 x) (.int .i64 y)).run Tryz.prog w = .ok (decide (x = y)) w := fun x y => by
  rw [run_equalIn_int (P := Tryz.prog) w 9998 3 .i64 .i64 x y Tryz.underlying3]
  rfl
 have hp : Tryz.prog.plainKey 3 = true := by kernel_rfl
 have qa := run_part_plain (P := Tryz.prog) w hp (xs := #[.int .i64 a, .int .i64 b, .int .i64 c, .int .i64 d]) (off := 0) (v := .int .i64 a) rfl
 have qb := run_part_plain (P := Tryz.prog) w hp (xs := #[.int .i64 a, .int .i64 b, .int .i64 c, .int .i64 d]) (off := 1) (v := .int .i64 b) rfl
 have qc := run_part_plain (P := Tryz.prog) w hp (xs := #[.int .i64 a, .int .i64 b, .int .i64 c, .int .i64 d]) (off := 2) (v := .int .i64 c) rfl
 have qd := run_part_plain (P := Tryz.prog) w hp (xs := #[.int .i64 a, .int .i64 b, .int .i64 c, .int .i64 d]) (off := 3) (v := .int .i64 d) rfl
 have qa' := run_part_plain (P := Tryz.prog) w hp (xs := #[.int .i64 a', .int .i64 b', .int .i64 c', .int .i64 d']) (off := 0) (v := .int .i64 a') rfl
 have qb' := run_part_plain (P := Tryz.prog) w hp (xs := #[.int .i64 a', .int .i64 b', .int .i64 c', .int .i64 d']) (off := 1) (v := .int .i64 b') rfl
 have qc' := run_part_plain (P := Tryz.prog) w hp (xs := #[.int .i64 a', .int .i64 b', .int .i64 c', .int .i64 d']) (off := 2) (v := .int .i64 c') rfl
 have qd' := run_part_plain (P := Tryz.prog) w hp (xs := #[.int .i64 a', .int .i64 b', .int .i64 c', .int .i64 d']) (off := 3) (v := .int .i64 d') rfl
 simp only [Op.eqItems, Sem.run_bind, Nat.mul_one, qa, qb, qc, qd, qa', qb', qc', qd', Result.andThen_ok, he, Sem.run_ite, Sem.run_pure] at h
 refine h.trans ?_
 by_cases e0 : a = a'
 case neg => simp [e0]
 by_cases e1 : b = b'
 case neg => simp [e0, e1]
 by_cases e2 : c = c'
 case neg => simp [e0, e1, e2]
 by_cases e3 : d = d'
 case neg => simp [e0, e1, e2, e3]
 simp [e0, e1, e2, e3]
theorem eqlFour (a b c d a' b' c' d' : Int) (w : World) : (binOp .eql 56 (.agg #[.int .i64 a, .int .i64 b, .int .i64 c, .int .i64 d]) (.agg #[.int .i64 a', .int .i64 b', .int .i64 c', .int .i64 d'])).run Tryz.prog w = .ok (.bool (decide (a = a') && decide (b = b') && decide (c = c') && decide (d = d'))) w := by
 rw [run_eql_struct w, eqFour]
 rfl
end Go.Proofs.YtkgmonplcdnnbaaGreat
