/- Contracts of the function that Resolve defers. -/
import Derived.Test.YtkgmonplcdnnbaaGreatPm24
import Derived.Test.YtkgmonplcdnnbaaGreatPm25
import Derived.Test.YtkgmonplcdnnbaaGreatPm26
import Derived.Test.YtkgmonplcdnnbaaGreatPm19
import Derived.Defers
import Derived.Recover
import Derived.Laws.Pointers
namespace Go.Proofs.YtkgmonplcdnnbaaGreat
open Go.RowKit
def noSource : QSource := ⟨[], [], [], [], [], []⟩
def numP (
 s : QSource) : Option QSource :=
 match unitsP (unitNames s) s.units with
 | none => none
 |
  some us => match allP (fun _ => schemaP s) s.schemas with
  | none => none
  |
   some ss => match allP (fun _ => ruleP s) s.rules with
   | none => none
   |
    some rs => match allP (fun _ => convertP s) s.converts with
    | none => none
    |
     some cs => match allP (fun _ => purposeP s) s.purposes with
     | none => none
     | some ps => some { s with units := us, schemas := ss, rules := rs, converts := cs, purposes := ps }
def resolveP (s : QSource) : Int × QSource :=
 if sourceTwice s = true then (111, noSource)
 else match numP s with
  | none => (110, noSource)
  | some x => (0, x)
def RetResolve (s : QSource) (w : World) (e : Ending) (w' : World) : Prop :=
 ∃ cs : List Value, e = .returned (.tuple #[.agg cs.toArray, .int .i64 (resolveP s).1]) ∧ qSourceR w' cs (resolveP s).2 ∧ Below w.heap.size w w'
def Row {α : Type} (lo M L U : Nat) (T : TypeId) (sz : Nat) (R : World → List Value → α → Prop) (v : Value) (l : List α) (wr : World) : Prop :=
 ∃ cs, wr.ownsRow L T sz v l.length cs ∧ (∀ r, v.ownBlock = some r → r < U) ∧ CellsR sz R (mask lo M wr) cs l
section
variable {α : Type} {lo M L U : Nat} {T : TypeId} {sz : Nat} {R : World → List Value → α → Prop} {v : Value} {l : List α} {wr w' : World}
theorem Row.kept (h : Row lo M L U T sz R v l wr) (hR : Mono R) {G : Nat} (hg : wr.grownBy w' (some G)) (hlo : lo ≤ G) (hGM : G < M) (hne : G < L ∨ U ≤ G) : Row lo M L U T sz R v l w' := by
 obtain ⟨cs, h1, h2, h3⟩ := h
 refine ⟨cs, h1.kept hg (.inr (fun e => ?_)), h2, h3.mono hR (mask_below hg hlo hGM)⟩
 have := h1.lt _ e
 have := h2 _ e
 omega
theorem Row.below (h : Row lo M L U T sz R v l wr) (hR : Mono R) (hb : Below wr.heap.size wr w') : Row lo M L U T sz R v l w' := by
 obtain ⟨cs, h1, h2, h3⟩ := h
 exact ⟨cs, own_below0 h1 hb, h2, h3.mono hR (mask_below0 hb)⟩
theorem Row.sl (h : Row lo M L U T sz R v l wr) (hR : Unm R) : SlR sz R wr v l := by
 obtain ⟨cs, h1, h2, h3⟩ := h
 exact slR_of_row h1 (h3.unm hR) rfl
theorem Row.form (h : Row lo M L U T sz R v l wr) : ∃ A c, v = .slice A l.length c := by
 obtain ⟨cs, h1, h2, h3⟩ := h
 obtain ⟨A, m, c, rfl, rfl⟩ := own_form' h1
 exact ⟨A, c, rfl⟩
theorem Row.at (h : Row lo M L U T sz R v l wr) {i : Nat} {x : α} (hi : l[i]? = some x) : ∃ G cap cs, v = .slice (some ⟨G, 0, none⟩) l.length cap ∧ L ≤ G ∧ G < U ∧ wr.ownsRow L T sz (.slice (some ⟨G, 0, none⟩) l.length cap) l.length cs ∧ R (mask lo M wr) (chunk cs sz i) x ∧ i < l.length ∧ l.length ≤ 9223372036854775807 ∧
 ∀ (y : α) (w' : World), wr.grownBy w' (some G) → lo ≤ G → G < M → Mono R → (∃ cs', w'.ownsRow L T sz (.slice (some ⟨G, 0, none⟩) l.length cap) l.length cs' ∧ (∀ j, j ≠ i → chunk cs' sz j = chunk cs sz j) ∧ R (mask lo M w') (chunk cs' sz i) y) → Row lo M L U T sz R v (l.set i y) w' := by
 obtain ⟨cs, h1, h2, h3⟩ := h
 have hil := (List.getElem?_eq_some_iff.1 hi).1
 rcases own_row h1 with ⟨rfl, h0⟩ | ⟨G, cap, rfl, hG, hGw, hn⟩
 · omega
 ·
  refine ⟨G, cap, cs, rfl, hG, h2 G rfl, h1, h3.chunk hi, hil, hn, fun y w' hg hlo hGM hR ⟨cs', h4, h5, h6⟩ => ⟨cs', by rw [List.length_set]; exact h4, h2, ?_⟩⟩
  have h7 := h3.mono hR (mask_below hg hlo hGM)
  refine ⟨by rw [List.length_set]; exact h4.1, fun j z hz => ?_⟩
  rw [List.getElem?_set] at hz
  by_cases e : i = j
  ·
   subst e
   rw [if_pos rfl, if_pos hil, Option.some.injEq] at hz
   subst hz
   exact h6
  ·
   rw [if_neg e] at hz
   show R _ (chunk cs' sz j) z
   rw [h5 j (fun e' => e e'.symm)]
   exact h7.2 j z hz
end
structure St (w0 : World) (lo M R B D L2 L3 L4 L5 L6 : Nat) (s : QSource) (v1 v2 v3 v4 v5 v6 : Value) (e0 : Int) (us : List QUnit) (ss : List QSchema) (rs : List QRule) (cs : List QConvert) (ps : List QPurpose) (wr : World) : Prop where
 old : Below w0.heap.size w0 wr
 size : M ≤ wr.heap.size
 res : ResR (mask lo M wr) R s
 b0 : wr.cell? ⟨B, 0, none⟩ = some v1
 b1 : wr.cell? ⟨B, 1, none⟩ = some v2
 b2 : wr.cell? ⟨B, 2, none⟩ = some v3
 b3 : wr.cell? ⟨B, 3, none⟩ = some v4
 b4 : wr.cell? ⟨B, 4, none⟩ = some v5
 b5 : wr.cell? ⟨B, 5, none⟩ = some v6
 bz : ∀ j, wr.frozen? ⟨B, j, none⟩ = false
 d0 : wr.cell? ⟨D, 0, none⟩ = some (.int .i64 e0)
 dz : wr.frozen? ⟨D, 0, none⟩ = false
 r1 : Row lo M lo L2 9 1 strR v1 s.issuers wr
 r2 : Row lo M L2 L3 116 5 qUnitR v2 us wr
 r3 : Row lo M L3 L4 52 6 qSchemaR v3 ss wr
 r4 : Row lo M L4 L5 83 5 qRuleR v4 rs wr
 r5 : Row lo M L5 L6 86 5 qConvertR v5 cs wr
 r6 : Row lo M L6 M 89 3 qPurposeR v6 ps wr
structure Fall (w0 : World) (B D : Nat) (v1 v2 v3 v4 v5 v6 : Value) (e0 : Int) (wr : World) : Prop where
 old : Below w0.heap.size w0 wr
 hB : B < wr.heap.size
 hD : D < wr.heap.size
 b0 : wr.cell? ⟨B, 0, none⟩ = some v1
 b1 : wr.cell? ⟨B, 1, none⟩ = some v2
 b2 : wr.cell? ⟨B, 2, none⟩ = some v3
 b3 : wr.cell? ⟨B, 3, none⟩ = some v4
 b4 : wr.cell? ⟨B, 4, none⟩ = some v5
 b5 : wr.cell? ⟨B, 5, none⟩ = some v6
 bz : ∀ j, wr.frozen? ⟨B, j, none⟩ = false
 d0 : wr.cell? ⟨D, 0, none⟩ = some (.int .i64 e0)
 dz : wr.frozen? ⟨D, 0, none⟩ = false
section
variable {w0 : World} {lo M R B D L2 L3 L4 L5 L6 : Nat} {s : QSource} {v1 v2 v3 v4 v5 v6 : Value} {e0 : Int} {us : List QUnit} {ss : List QSchema} {rs : List QRule} {cs : List QConvert} {ps : List QPurpose} {wr w' : World}
theorem St.turn (h : St w0 lo M R B D L2 L3 L4 L5 L6 s v1 v2 v3 v4 v5 v6 e0 us ss rs cs ps wr) {G : Nat} (hg : wr.grownBy w' (some G)) (hlo : lo ≤ G) (hGM : G < M) (hw0 : w0.heap.size ≤ lo) (hB : B < lo) (hD : D < lo)
 {us' : List QUnit} {ss' : List QSchema} {rs' : List QRule} {cs' : List QConvert} {ps' : List QPurpose}
 (k2 : (us' = us ∧ (G < L2 ∨ L3 ≤ G)) ∨ Row lo M L2 L3 116 5 qUnitR v2 us' w') (k3 : (ss' = ss ∧ (G < L3 ∨ L4 ≤ G)) ∨ Row lo M L3 L4 52 6 qSchemaR v3 ss' w') (k4 : (rs' = rs ∧ (G < L4 ∨ L5 ≤ G)) ∨ Row lo M L4 L5 83 5 qRuleR v4 rs' w')
 (k5 : (cs' = cs ∧ (G < L5 ∨ L6 ≤ G)) ∨ Row lo M L5 L6 86 5 qConvertR v5 cs' w') (k6 : (ps' = ps ∧ (G < L6 ∨ M ≤ G)) ∨ Row lo M L6 M 89 3 qPurposeR v6 ps' w') (k1 : L2 ≤ G) : St w0 lo M R B D L2 L3 L4 L5 L6 s v1 v2 v3 v4 v5 v6 e0 us' ss' rs' cs' ps' w' := by
 have hb : Below lo wr w' := ⟨hg.os, hg.tape, hg.output, hg.size, fun k hk => hg.block k (by have := h.size; omega) (fun e => by injection e; omega)⟩
 refine ⟨h.old.trans (hb.mono hw0), Nat.le_trans h.size hg.size, h.res.below (mask_below hg hlo hGM), (hb.cell hB).trans h.b0, (hb.cell hB).trans h.b1, (hb.cell hB).trans h.b2, (hb.cell hB).trans h.b3, (hb.cell hB).trans h.b4, (hb.cell hB).trans h.b5, fun j => (hb.frozen (p := ⟨B, j, none⟩) hB).trans (h.bz j), (hb.cell hD).trans h.d0, (hb.frozen hD).trans h.dz, h.r1.kept strR_mono hg hlo hGM (.inr k1), ?_, ?_, ?_, ?_, ?_⟩
 ·
  rcases k2 with ⟨rfl, k⟩ | k
  · exact h.r2.kept qUnitR_mono hg hlo hGM k
  · exact k
 ·
  rcases k3 with ⟨rfl, k⟩ | k
  · exact h.r3.kept qSchemaR_mono hg hlo hGM k
  · exact k
 ·
  rcases k4 with ⟨rfl, k⟩ | k
  · exact h.r4.kept qRuleR_mono hg hlo hGM k
  · exact k
 ·
  rcases k5 with ⟨rfl, k⟩ | k
  · exact h.r5.kept qConvertR_mono hg hlo hGM k
  · exact k
 ·
  rcases k6 with ⟨rfl, k⟩ | k
  · exact h.r6.kept qPurposeR_mono hg hlo hGM k
  · exact k
theorem St.below (h : St w0 lo M R B D L2 L3 L4 L5 L6 s v1 v2 v3 v4 v5 v6 e0 us ss rs cs ps wr) (hb : Below wr.heap.size wr w') (hw0 : w0.heap.size ≤ lo) (hlM : lo ≤ M) (hB : B < lo) (hD : D < lo) : St w0 lo M R B D L2 L3 L4 L5 L6 s v1 v2 v3 v4 v5 v6 e0 us ss rs cs ps w' := by
 have hM := h.size
 have hB' : B < wr.heap.size := by omega
 have hD' : D < wr.heap.size := by omega
 exact ⟨h.old.trans (hb.mono (by omega)), Nat.le_trans h.size hb.size, h.res.below (mask_below0 hb), (hb.cell (p := ⟨B, 0, none⟩) hB').trans h.b0, (hb.cell (p := ⟨B, 1, none⟩) hB').trans h.b1, (hb.cell (p := ⟨B, 2, none⟩) hB').trans h.b2, (hb.cell (p := ⟨B, 3, none⟩) hB').trans h.b3, (hb.cell (p := ⟨B, 4, none⟩) hB').trans h.b4, (hb.cell (p := ⟨B, 5, none⟩) hB').trans h.b5, fun j => (hb.frozen (p := ⟨B, j, none⟩) hB').trans (h.bz j), (hb.cell (p := ⟨D, 0, none⟩) hD').trans h.d0, (hb.frozen (p := ⟨D, 0, none⟩) hD').trans h.dz, h.r1.below strR_mono hb, h.r2.below qUnitR_mono hb, h.r3.below qSchemaR_mono hb, h.r4.below qRuleR_mono hb, h.r5.below qConvertR_mono hb, h.r6.below qPurposeR_mono hb⟩
theorem St.fall (h : St w0 lo M R B D L2 L3 L4 L5 L6 s v1 v2 v3 v4 v5 v6 e0 us ss rs cs ps wr) {row : Option Nat} (hg : wr.grownBy w' row) (hr : ∀ r, row = some r → lo ≤ r) (hw0 : w0.heap.size ≤ lo) (hlM : lo ≤ M) (hB : B < lo) (hD : D < lo) : Fall w0 B D v1 v2 v3 v4 v5 v6 e0 w' := by
 have hM := h.size
 have hb : Below lo wr w' := ⟨hg.os, hg.tape, hg.output, hg.size, fun k hk => hg.block k (by omega) (fun e => by have := hr k e.symm; omega)⟩
 have hs := hg.size
 exact ⟨h.old.trans (hb.mono hw0), by omega, by omega, (hb.cell hB).trans h.b0, (hb.cell hB).trans h.b1, (hb.cell hB).trans h.b2, (hb.cell hB).trans h.b3, (hb.cell hB).trans h.b4, (hb.cell hB).trans h.b5, fun j => (hb.frozen (p := ⟨B, j, none⟩) hB).trans (h.bz j), (hb.cell hD).trans h.d0, (hb.frozen hD).trans h.dz⟩
end
theorem catch_idle (p q : Addr) (w : World) :
 CallsD Tryz.prog 115 #[.pointer (some p), .pointer (some q)] .returning w fun e u' w' => e = .returned (.tuple #[]) ∧ u' = .returning ∧ w' = w := by
 refine callsD_of_wpS Tryz.func115 rfl fun c₀ cs hu => ?_
 apply wpS_seq
 apply wpS_region
 simp [wpOpsS, go_sem, recoverD, hu, Tryz.ntmps115, Exit.thenS]
 refine wpS_of_wp ?_
 change Code.wp _ _ _ { tmps := #[.pointer (some p), .pointer (some q), .nilIface, undef, undef, .nilIface, undef, undef, undef, undef, undef, undef, undef, undef, undef, undef, undef], defers := [] } w
 go_wp2_with fail
 cases c₀
 simp_all [bodyPostS, results, Tryz.results115]
set_option maxRecDepth 100000 in
theorem catch_nothing (B D : Nat) (v0 v1 v2 v3 v4 v5 : Value) (e0 : Int) (w : World) (h0 : w.cell? ⟨B, 0, none⟩ = some v0) (h1 : w.cell? ⟨B, 1, none⟩ = some v1) (h2 : w.cell? ⟨B, 2, none⟩ = some v2) (h3 : w.cell? ⟨B, 3, none⟩ = some v3) (h4 : w.cell? ⟨B, 4, none⟩ = some v4) (h5 : w.cell? ⟨B, 5, none⟩ = some v5)
 (hz : ∀ j, w.frozen? ⟨B, j, none⟩ = false) (hd : w.cell? ⟨D, 0, none⟩ = some (.int .i64 e0)) (hdz : w.frozen? ⟨D, 0, none⟩ = false) (hB : B < w.heap.size) (hD : D < w.heap.size) (hBD : B ≠ D) :
 CallsD Tryz.prog 115 #[.pointer (some ⟨B, 0, none⟩), .pointer (some ⟨D, 0, none⟩)] (.panicking nothingP) w fun e u' w' =>
  e = .returned (.tuple #[]) ∧ u' = .panicking [{ v := .iface 168 (.agg #[]), recovered := true }] ∧ (w'.cell? ⟨B, 0, none⟩ = some (.slice none 0 0) ∧ w'.cell? ⟨B, 1, none⟩ = some (.slice none 0 0) ∧ w'.cell? ⟨B, 2, none⟩ = some (.slice none 0 0) ∧ w'.cell? ⟨B, 3, none⟩ = some (.slice none 0 0) ∧ w'.cell? ⟨B, 4, none⟩ = some (.slice none 0 0) ∧ w'.cell? ⟨B, 5, none⟩ = some (.slice none 0 0) ∧ w'.cell? ⟨D, 0, none⟩ = some (.int .i64 110)) ∧
  ∀ base, base ≤ B → base ≤ D → Below base w w' := by
 unfold nothingP
 have hDB : D ≠ B := Ne.symm hBD
 have hta : ∀ w : World, (Instr.typeAssert (.iface 168 (.agg #[])) 20 168 true).run Tryz.prog w = .ok (.tuple #[.agg #[], .bool true]) w := fun w => by
  simp [Instr.typeAssert, run_underlying Tryz.underlying168, go_sem, Result.andThen]
 have z0 := hz 0
 have z1 := hz 1
 have z2 := hz 2
 have z3 := hz 3
 have z4 := hz 4
 have z5 := hz 5
 clear hz
 refine callsD_of_wpS Tryz.func115 rfl fun c₀ cs hu => ?_
 apply wpS_seq
 apply wpS_region
 simp [wpOpsS, go_sem, recoverD, hu, Tryz.ntmps115, Exit.thenS]
 refine wpS_of_wp ?_
 change Code.wp _ _ _ { tmps := #[.pointer (some ⟨B, 0, none⟩), .pointer (some ⟨D, 0, none⟩), .iface 168 (.agg #[]), undef, undef, .iface 168 (.agg #[]), undef, undef, undef, undef, undef, undef, undef, undef, undef, undef, undef], defers := [] } w
 go_wp2_with fail
 refine ⟨rfl, .panicking [{ v := .iface 168 (.agg #[]), recovered := true }], rfl, .tuple #[], by simp [results, Tryz.results115], rfl, rfl, ?_, fun base hb1 hb2 => ?_⟩
 · simp [go_sem, *]
 · exact (((((((((Below.refl _ _).setCell (by exact hb1) _).setCell (by exact hb1) _).setCell (by exact hb1) _).setCell (by exact hb1) _).setCell (by exact hb1) _).setCell (by exact hb1) _).setCell (by exact hb2) _)).alloc (by simp [World.setCell]; omega) _
end Go.Proofs.YtkgmonplcdnnbaaGreat
