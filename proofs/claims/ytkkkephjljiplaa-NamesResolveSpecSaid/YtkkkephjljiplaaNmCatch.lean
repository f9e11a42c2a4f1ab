/- Contracts of the function that Resolve defers. -/
import Derived.Test.YtkkkephjljiplaaNmW1
import Derived.Defers
import Derived.Recover
import Derived.Laws.Pointers
namespace Go.Proofs.Ytkkkephjljiplaa
open Go.RowKit

theorem catch_idle (p q : Addr) (w : World) :
    CallsD Try.prog 27 #[.pointer (some p), .pointer (some q)] .returning w fun e u' w' => e = .returned (.tuple #[]) ∧ u' = .returning ∧ w' = w := by
  refine callsD_of_wpS Try.func27 rfl fun c₀ cs hu => ?_
  apply wpS_seq
  apply wpS_region
  simp [wpOpsS, go_sem, recoverD, hu, Try.ntmps27, Exit.thenS]
  refine wpS_of_wp ?_
  change Code.wp _ _ _ { tmps := #[.pointer (some p), .pointer (some q), .nilIface, undef, undef, .nilIface, undef, undef, undef, undef, undef, undef, undef, undef, undef, undef, undef], defers := [] } w
  go_wp2_with fail
  cases c₀
  simp_all [bodyPostS, results, Try.results27]

set_option maxRecDepth 100000 in
theorem catch_nothing (B D : Nat) (v0 v1 v2 v3 v4 v5 : Value) (e0 : Int) (w : World) (h0 : w.cell? ⟨B, 0, none⟩ = some v0) (h1 : w.cell? ⟨B, 1, none⟩ = some v1) (h2 : w.cell? ⟨B, 2, none⟩ = some v2) (h3 : w.cell? ⟨B, 3, none⟩ = some v3) (h4 : w.cell? ⟨B, 4, none⟩ = some v4) (h5 : w.cell? ⟨B, 5, none⟩ = some v5)
    (hz : ∀ j, w.frozen? ⟨B, j, none⟩ = false) (hd : w.cell? ⟨D, 0, none⟩ = some (.int .i64 e0)) (hdz : w.frozen? ⟨D, 0, none⟩ = false) (hB : B < w.heap.size) (hD : D < w.heap.size) (hBD : B ≠ D) :
    CallsD Try.prog 27 #[.pointer (some ⟨B, 0, none⟩), .pointer (some ⟨D, 0, none⟩)] (.panicking nothingP) w fun e u' w' =>
      e = .returned (.tuple #[]) ∧ u' = .panicking [{ v := .iface 87 (.agg #[]), recovered := true }] ∧ (w'.cell? ⟨B, 0, none⟩ = some (.slice none 0 0) ∧ w'.cell? ⟨B, 1, none⟩ = some (.slice none 0 0) ∧ w'.cell? ⟨B, 2, none⟩ = some (.slice none 0 0) ∧ w'.cell? ⟨B, 3, none⟩ = some (.slice none 0 0) ∧ w'.cell? ⟨B, 4, none⟩ = some (.slice none 0 0) ∧ w'.cell? ⟨B, 5, none⟩ = some (.slice none 0 0) ∧ w'.cell? ⟨D, 0, none⟩ = some (.int .i64 110)) ∧
      ∀ base, base ≤ B → base ≤ D → Below base w w' := by
  unfold nothingP
  have hDB : D ≠ B := Ne.symm hBD
  have hta : ∀ w : World, (Instr.typeAssert (.iface 87 (.agg #[])) 20 87 true).run Try.prog w = .ok (.tuple #[.agg #[], .bool true]) w := fun w => by
    simp [Instr.typeAssert, run_underlying Try.underlying87, go_sem, Result.andThen]
  have z0 := hz 0
  have z1 := hz 1
  have z2 := hz 2
  have z3 := hz 3
  have z4 := hz 4
  have z5 := hz 5
  clear hz
  refine callsD_of_wpS Try.func27 rfl fun c₀ cs hu => ?_
  apply wpS_seq
  apply wpS_region
  simp [wpOpsS, go_sem, recoverD, hu, Try.ntmps27, Exit.thenS]
  refine wpS_of_wp ?_
  change Code.wp _ _ _ { tmps := #[.pointer (some ⟨B, 0, none⟩), .pointer (some ⟨D, 0, none⟩), .iface 87 (.agg #[]), undef, undef, .iface 87 (.agg #[]), undef, undef, undef, undef, undef, undef, undef, undef, undef, undef, undef], defers := [] } w
  go_wp2_with fail
  refine ⟨rfl, .panicking [{ v := .iface 87 (.agg #[]), recovered := true }], rfl, .tuple #[], by simp [results, Try.results27], rfl, rfl, ?_, fun base hb1 hb2 => ?_⟩
  · simp [go_sem, *]
  · exact (((((((((Below.refl _ _).setCell (by exact hb1) _).setCell (by exact hb1) _).setCell (by exact hb1) _).setCell (by exact hb1) _).setCell (by exact hb1) _).setCell (by exact hb1) _).setCell (by exact hb2) _)).alloc (by simp [World.setCell]; omega) _

end Go.Proofs.Ytkkkephjljiplaa
