/- Contract of bareTerm. -/
import Derived.Test.YtkkkephjljiplaaNmBareP
import Derived.Test.YtkkkephjljiplaaNmRes
import Derived.Test.YtkkkephjljiplaaNmSample
namespace Go.Proofs.Ytkkkephjljiplaa
open Go.RowKit

/-- The cells of a term. -/
def termL (t : QTerm) : List Value := [.string t.name, .string t.path, .int .i64 t.var, .int .i64 t.field, .int .i64 t.n]

theorem bareTerm_any (t : QTerm) (w : World) : Calls Try.prog 86 #[.agg #[.string t.name, .string t.path, .int .i64 t.var, .int .i64 t.field, .int .i64 t.n]] w
    (fun e w' => e = .returned (.agg #[.string t.name, .string t.path, .int .i64 0, .int .i64 0, .int .i64 t.n]) ∧ Below w.heap.size w w') := by
  go_enter Try.func86, Try.ntmps86
  go_wp2
  refine ⟨rfl, .agg #[.string t.name, .string t.path, .int .i64 0, .int .i64 0, .int .i64 t.n], ?_, rfl, ((Below.refl _ _).alloc (Nat.le_refl _) _).alloc (by simp) _⟩
  simp [results, Try.results86, go_sem]
end Go.Proofs.Ytkkkephjljiplaa
