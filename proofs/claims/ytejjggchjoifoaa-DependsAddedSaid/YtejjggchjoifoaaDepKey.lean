/- The key of depends.pairs: an array of twelve ints. -/
import Derived.Test.YtejjggchjoifoaaMaps
import Derived.Test.YtejjggchjoifoaaProg
import Derived.DeepKeys
import Derived.DeepKeys3
import Derived.KernelRfl
namespace Go.Proofs.Ytejjggchjoifoaa
open Go.RowKit

abbrev Key12 : Type := { l : List Int // l.length = 12 ∧ ∀ x ∈ l, -9223372036854775808 ≤ x ∧ x ≤ 9223372036854775807 }
def ek12 (k : Key12) : Value := .agg (k.1.map (Value.int .i64)).toArray

theorem wf64 {x : Int} (h : -9223372036854775808 ≤ x ∧ x ≤ 9223372036854775807) : (Lit.int .i64 x).wf = true := WalkArith.wf_i64 (by omega)

theorem cells73 : Try.prog.cellsOf 73 = 12 := by kernel_rfl
theorem cells3 : Try.prog.cellsOf 3 = 1 := by kernel_rfl

theorem lits_int {x : Int} (h : -9223372036854775808 ≤ x ∧ x ≤ 9223372036854775807) : Try.prog.keyLits 1 3 [.int .i64 x] = some [.int .i64 x] := by
  simp [Program.keyLits, Try.underlying3, wf64 h]

theorem lits12 (k : Key12) : Try.prog.keyLits 2 73 (ek12 k).cells.toList = some (k.1.map (Lit.int .i64)) := by
  obtain ⟨l, hl, hb⟩ := k
  match l, hl, hb with
  | [x0, x1, x2, x3, x4, x5, x6, x7, x8, x9, x10, x11], _, hb =>
    simp only [List.mem_cons, List.not_mem_nil, or_false, forall_eq_or_imp, forall_eq] at hb
    unfold Program.keyLits
    simp [Try.underlying73, ek12, Value.cells, cells73, cells3, List.range, List.range.loop, lits_int, hb]

theorem formed12 (k : Key12) : (ek12 k).formed Try.prog 73 = true := by
  simp [ek12, Value.formed, Try.underlying73, cells73, k.2.1]

theorem map_lit_inj : ∀ {l l' : List Int}, l.map (Lit.int .i64) = l'.map (Lit.int .i64) → l = l'
  | [], [], _ => rfl
  | [], _ :: _, h => by simp at h
  | _ :: _, [], h => by simp at h
  | x :: l, y :: l', h => by
    simp only [List.map_cons, List.cons.injEq, Lit.int.injEq, true_and] at h
    rw [h.1, map_lit_inj h.2]

theorem sameBits_zip (n : Nat) : ∀ (l : List Int), ((l.map (Value.int .i64)).zip (l.map (Value.int .i64))).all (fun p => Instr.sameBits n p.1 p.2) = true
  | [] => rfl
  | x :: l => by
    simp only [List.map_cons, List.zip_cons_cons, List.all_cons, Bool.and_eq_true]
    exact ⟨by cases n <;> simp [Instr.sameBits], sameBits_zip n l⟩

theorem key12_inj {a b : Key12} : (a.1.map (Lit.int .i64)) = (b.1.map (Lit.int .i64)) ↔ a = b := by
  constructor
  · intro h
    apply Subtype.ext
    exact map_lit_inj h
  · rintro rfl; rfl

theorem keyEq12 : KeyEq Try.prog 73 ek12 where
  eq a b w := by
    obtain ⟨r, h1, h2⟩ := run_equalIn_deep (P := Try.prog) 9998 2 73 (by kernel_rfl) w 2 2 (ek12 a) (ek12 b) _ _ (formed12 a) (formed12 b) (lits12 a) (lits12 b)
    exact ⟨r, h1, h2.trans key12_inj⟩
  ck e a w := run_checkKey_deep (P := Try.prog) e 9998 2 73 (by kernel_rfl) w 2 (ek12 a) _ (formed12 a) (lits12 a)
  sb a := by
    obtain ⟨l, hl, hb⟩ := a
    have := sameBits_zip 9999 l
    simp only [ek12, Instr.sameBits, BEq.rfl, Bool.true_and]
    exact this
  un := ⟨_, Try.underlying73, fun a b r h => by simp [Instr.sameNow] at h⟩

end Go.Proofs.Ytejjggchjoifoaa
