/- Maps with strings for keys; equality of strings. Plain lemmas, no program. -/
import Derived.Test.YtkkkephjljiplaaMaps
import Derived.WideShapes
namespace Go.Proofs.Ytkkkephjljiplaa
open Go.RowKit
open Go.MapKept (run_checkKey heap_set heap_alloc IsKey)

theorem str_eq (a b : ByteArray) : ((a.toList == b.toList) = true) ↔ a = b := by
  rw [beq_iff_eq, ByteArray.toList_eq, ByteArray.toList_eq]
  exact ⟨fun h => WideShapes.bytes_inj h, fun h => by rw [h]⟩
theorem str_beq (a b : ByteArray) : (a.toList == b.toList) = decide (a = b) := by
  rw [Bool.eq_iff_iff, str_eq, decide_eq_true_eq]
theorem ba_beq (a b : ByteArray) : ((a == b) = true) ↔ a = b := by
  rw [beq_toListBytes]
  exact str_eq a b
theorem keyEq_string {P : Program} {kt : TypeId} (hk : P.underlying kt = some .string) : KeyEq P kt (fun x : ByteArray => Value.string x) where
  eq a b w := ⟨a.toList == b.toList, by simpa [Op.equal, Op.maxDepth] using run_equalIn_string w 9999 kt a b hk, str_eq a b⟩
  ck e a w := run_checkKey (d := .string) hk (by simp [IsKey]) e 9999
  sb a := by simp only [Instr.sameBits]; exact (ba_beq a a).2 rfl
  un := ⟨_, hk, fun a b r h => by simp only [Instr.sameNow, Option.some.injEq] at h; subst h; exact ba_beq a b⟩

end Go.Proofs.Ytkkkephjljiplaa
