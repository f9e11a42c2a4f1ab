/- Equality of arrays of four numbers. -/
import Derived.Test.YtkkkephjljiplaaNmSch
import Derived.ChangeKeysEq
namespace Go.Proofs.Ytkkkephjljiplaa
open Go.RowKit

theorem neq4 (a b c d : Int) (w : World) : (binOp .neq 43 (.agg #[.int .i64 a, .int .i64 b, .int .i64 c, .int .i64 d]) (.agg #[.int .i64 a, .int .i64 b, .int .i64 c, .int .i64 d])).run Try.prog w = .ok (.bool false) w := by
  obtain ⟨i0, hi, hz0, hz1, hz2⟩ := info_parts Try.infoInt
  have h := run_equalIn_array (P := Try.prog) w 9999 #[.int .i64 a, .int .i64 b, .int .i64 c, .int .i64 d] #[.int .i64 a, .int .i64 b, .int .i64 c, .int .i64 d] Try.underlying43 hi
  have h1 : Try.prog.cellsOf 3 = 1 := by kernel_rfl
  rw [h1, show List.range 4 = [0, 1, 2, 3] from rfl] at h
  have he : ∀ (x : Int), (Op.equalIn 9999 3 (.int .i64 x) (.int .i64 x)).run Try.prog w = .ok true w := fun x => by
    have := run_equalIn_int (P := Try.prog) w 9998 3 .i64 .i64 x x Try.underlying3
    rw [beq_self_eq_true] at this
    exact this
  have hp : Try.prog.plainKey 3 = true := by kernel_rfl
  have q0 := run_part_plain (P := Try.prog) w hp (xs := #[.int .i64 a, .int .i64 b, .int .i64 c, .int .i64 d]) (off := 0) (v := .int .i64 a) rfl
  have q1 := run_part_plain (P := Try.prog) w hp (xs := #[.int .i64 a, .int .i64 b, .int .i64 c, .int .i64 d]) (off := 1) (v := .int .i64 b) rfl
  have q2 := run_part_plain (P := Try.prog) w hp (xs := #[.int .i64 a, .int .i64 b, .int .i64 c, .int .i64 d]) (off := 2) (v := .int .i64 c) rfl
  have q3 := run_part_plain (P := Try.prog) w hp (xs := #[.int .i64 a, .int .i64 b, .int .i64 c, .int .i64 d]) (off := 3) (v := .int .i64 d) rfl
  simp only [Op.eqItems, Sem.run_bind, Nat.mul_one, q0, q1, q2, q3, Result.andThen_ok, he, Bool.not_true, Bool.false_eq_true, if_false, Sem.run_pure] at h
  have h2 : (Op.equal 43 (.agg #[.int .i64 a, .int .i64 b, .int .i64 c, .int .i64 d]) (.agg #[.int .i64 a, .int .i64 b, .int .i64 c, .int .i64 d])).run Try.prog w = .ok true w := h
  simp only [binOp, Sem.run_bind, h2, Result.andThen_ok, Sem.run_pure, Bool.not_true]

end Go.Proofs.Ytkkkephjljiplaa
