/- Contract of Resolve. -/
import Derived.Test.YtkgmonplcdnnbaaGreatPm27
import Derived.Deep.RegionHeld3
namespace Go.Proofs.YtkgmonplcdnnbaaGreat
open Go.RowKit
theorem blk_new' {w : World} {t : TypeId} {cs : Array Value} {g : Nat} (h : w.heap.size = g) : Blk (w.alloc (.cells cs t)) g t cs := by subst h; exact Blk.new _ _ _
theorem setCell_same {w : World} {b o : Nat} {v : Value} (h : w.cell? ⟨b, o, none⟩ = some v) : w.setCell ⟨b, o, none⟩ v = w := by
 have e : (
  w.setCell ⟨b, o, none⟩ v).heap = w.heap := by
  unfold World.setCell
  simp only
  apply Array.ext_getElem?
  intro k
  rw [Array.getElem?_modify]
  by_cases hk : b = k
  ·
   subst hk
   rw [if_pos rfl]
   cases hb : w.heap[b]? with
   | none => rfl
   |
    some x =>
    cases x with
    |
     cells c elem frozen =>
     simp only [Option.map_some, Option.isSome_none, Bool.false_eq_true, if_false, Option.some.injEq]
     have hc : c[o]? = some v := by simpa [World.cell?, hb] using h
     congr 1
     apply Array.ext_getElem?
     intro q
     rw [Array.getElem?_setIfInBounds]
     by_cases hq : o = q
     ·
      subst hq
      rw [if_pos rfl, hc, if_pos (Array.getElem?_eq_some_iff.1 hc).1]
     · rw [if_neg hq]
    | _ => rfl
  · rw [if_neg hk]
 show ({ w with heap := (w.setCell ⟨b, o, none⟩ v).heap } : World) = w
 rw [e]
theorem noSource_at (w : World) : qSourceR w [.slice none 0 0, .slice none 0 0, .slice none 0 0, .slice none 0 0, .slice none 0 0, .slice none 0 0] noSource :=
 ⟨none, 0, 0, none, 0, 0, none, 0, 0, none, 0, 0, none, 0, 0, none, 0, 0, rfl, ⟨SlR.nil _ _ (Nat.zero_le _), by simp [noSource]⟩, ⟨SlR.nil _ _ (Nat.zero_le _), by simp [noSource]⟩, ⟨SlR.nil _ _ (Nat.zero_le _), by simp [noSource]⟩, ⟨SlR.nil _ _ (Nat.zero_le _), by simp [noSource]⟩, ⟨SlR.nil _ _ (Nat.zero_le _), by simp [noSource]⟩, ⟨SlR.nil _ _ (Nat.zero_le _), by simp [noSource]⟩⟩
theorem mask_setCell {lo M B j : Nat} {w : World} {v : Value} (hB : B < lo) : (mask lo M w).setCell ⟨B, j, none⟩ v = mask lo M (w.setCell ⟨B, j, none⟩ v) := by
 unfold mask World.setCell
 simp only
 congr 1
 apply Array.ext_getElem?
 intro k
 simp only [Array.getElem?_modify, Array.getElem?_mapIdx]
 by_cases e : B = k
 ·
  subst e
  rw [if_pos rfl, if_pos rfl, Option.map_map, Option.map_map]
  congr 1
  funext o
  simp only [Function.comp]
  rw [if_neg (by omega), if_neg (by omega)]
 · rw [if_neg e, if_neg e]
theorem ResR.put {w : World} {R B j : Nat} {s : QSource} {t : TypeId} {cs : Array Value} (h : ResR w R s) (k : Blk w B t cs) (hs : ∀ (i : Nat) b, cs[i]? ≠ some (Value.map b)) (hne : R ≠ B) (v : Value) : ResR (w.setCell ⟨B, j, none⟩ v) R s := by
 obtain ⟨b1, b2, b3, A, n, c, h0, h1, h2, h3, h4⟩ := h
 refine ⟨b1, b2, b3, A, n, c, h0.far hne _, h1.keeps (.put _ _ _), h2.keeps (.put _ _ _), h3.keeps (.put _ _ _), ?_⟩
 obtain ⟨A', cap, e, g1, g2, g3⟩ := h4
 refine ⟨A', cap, e, g1, g2, fun i x hi => ?_⟩
 obtain ⟨b, off, cl, rfl, hlt, hl, hc, g, rfl, hm⟩ := g3 i x hi
 have hbB : b ≠ B := fun e => by
  subst e
  have := hc 0 _ rfl
  rw [k.cell] at this
  exact hs _ _ this
 refine ⟨b, off, _, rfl, by simpa [World.setCell] using hlt, hl, fun q u hu => ?_, g, rfl, hm.keeps (.put _ _ _)⟩
 rw [World.cell?_setCell_other _ _ _ _ (fun e => by injection e with e1; exact hbB e1.symm)]
 exact hc q u hu
theorem nomap6 (a1 a2 a3 a4 a5 a6 : Option Addr) (n1 n2 n3 n4 n5 n6 c1 c2 c3 c4 c5 c6 : Nat) : ∀ (i : Nat) b, (#[.slice a1 n1 c1, .slice a2 n2 c2, .slice a3 n3 c3, .slice a4 n4 c4, .slice a5 n5 c5, .slice a6 n6 c6] : Array Value)[i]? ≠ some (Value.map b) := by
 intro i b
 rcases i with _ | _ | _ | _ | _ | _ | i <;> simp
theorem resm_put {lo M : Nat} {w : World} {R B j : Nat} {s : QSource} {t : TypeId} {cs : Array Value} (h : ResR (mask lo M w) R s) (k : Blk w B t cs) (hs : ∀ (i : Nat) b, cs[i]? ≠ some (Value.map b)) (hB : B < lo) (hne : R ≠ B) (v : Value) : ResR (mask lo M (w.setCell ⟨B, j, none⟩ v)) R s := by
 rw [← mask_setCell hB]
 exact h.put (show Blk (mask lo M w) B t cs from (mask_heap (.inl hB)).trans k) hs hne v
theorem sixS {wg w' : World} {g : Nat} {t : TypeId} {v1 v2 v3 v4 v5 v6 : Value} (k : Blk wg g t #[v1, v2, v3, v4, v5, v6]) (hb : Below (g + 1) wg w') : w'.cell? ⟨g, 0, none⟩ = some v1 ∧ w'.cell? ⟨g, 1, none⟩ = some v2 ∧ w'.cell? ⟨g, 2, none⟩ = some v3 ∧ w'.cell? ⟨g, 3, none⟩ = some v4 ∧ w'.cell? ⟨g, 4, none⟩ = some v5 ∧ w'.cell? ⟨g, 5, none⟩ = some v6 ∧ Below (g + 1) wg w' := by
 have k' := k.below hb (by omega)
 exact ⟨k'.cell 0, k'.cell 1, k'.cell 2, k'.cell 3, k'.cell 4, k'.cell 5, hb⟩
theorem sixT {wg wc wx : World} {g : Nat} (h : Below (g + 1) wg wc) (hs : g + 1 ≤ wg.heap.size) (hb : Below wc.heap.size wc wx) : Below (g + 1) wg wx := h.trans (hb.mono (Nat.le_trans hs h.size))
theorem sl_now {α : Type} {sz bytes : Nat} {R : World → List Value → α → Prop} {w wg wc : World} {v : Value} {l : List α} (h : SlB sz bytes R w v l) (ho : Below w.heap.size w wg) (hb : Below (w.heap.size + 1) wg wc) : SlB sz bytes (fun _ => R w) wc v l := ⟨h.1.fix (ho.trans (hb.mono (Nat.le_succ _))), h.2⟩
theorem mkRow {α : Type} {lo M L U : Nat} {T : TypeId} {sz : Nat} {R : World → List Value → α → Prop} {v : Value} {l : List α} {w wx wk w7 : World} {cs : List Value} (hR : Mono R) (hc : CellsR sz (fun _ => R w) wx cs l) (ho : wk.ownsRow L T sz v l.length cs) (hU : wk.heap.size ≤ U) (h7 : w7.ownsRow L T sz v l.length cs) (hold : Below w.heap.size w w7) (hlo : w.heap.size ≤ lo) : Row lo M L U T sz R v l w7 :=
 ⟨cs, h7, fun r e => Nat.lt_of_lt_of_le (ho.lt r e).2 hU, CellsR.mono hR (mask_old w hold hlo) ⟨hc.1, hc.2⟩⟩
theorem own7 {wk w6 : World} {L : Nat} {T : TypeId} {sz n : Nat} {v : Value} {cs : List Value} {B : Nat} (ho : wk.ownsRow L T sz v n cs) (hb : Below wk.heap.size wk w6) (hB : B < L) (u0 u1 u2 u3 u4 u5 : Value) :
 ((((((w6.setCell ⟨B, 0, none⟩ u0).setCell ⟨B, 1, none⟩ u1).setCell ⟨B, 2, none⟩ u2).setCell ⟨B, 3, none⟩ u3).setCell ⟨B, 4, none⟩ u4).setCell ⟨B, 5, none⟩ u5).ownsRow L T sz v n cs :=
 own_far (own_far (own_far (own_far (own_far (own_far (own_below0 ho hb) hB _) hB _) hB _) hB _) hB _) hB _
theorem res_panic {tmps : Array Value} {w wr : World} {B D : Nat} {s : QSource} {v1 v2 v3 v4 v5 v6 : Value} {e0 : Int} (h : Fall w B D v1 v2 v3 v4 v5 v6 e0 wr) (hBw : w.heap.size ≤ B) (hDw : w.heap.size ≤ D) (hBD : B ≠ D)
 (hP : resolveP s = (110, noSource))
 (hr : ∀ w'' : World, w''.cell? ⟨B, 0, none⟩ = some (.slice none 0 0) → w''.cell? ⟨B, 1, none⟩ = some (.slice none 0 0) → w''.cell? ⟨B, 2, none⟩ = some (.slice none 0 0) → w''.cell? ⟨B, 3, none⟩ = some (.slice none 0 0) → w''.cell? ⟨B, 4, none⟩ = some (.slice none 0 0) → w''.cell? ⟨B, 5, none⟩ = some (.slice none 0 0) → w''.cell? ⟨D, 0, none⟩ = some (.int .i64 110) →
  (results Tryz.f65 tmps).run Tryz.prog w'' = .ok (.tuple #[.agg #[.slice none 0 0, .slice none 0 0, .slice none 0 0, .slice none 0 0, .slice none 0 0, .slice none 0 0], .int .i64 110]) w'') :
 Leaves Tryz.prog Tryz.f65 tmps (RetResolve s w) [{ target := .fn (.func 115) #[.pointer (some ⟨B, 0, none⟩), .pointer (some ⟨D, 0, none⟩)], args := #[] }] (.panicking nothingP) wr := by
 refine leaves_cons (f := 115) (args := #[.pointer (some ⟨B, 0, none⟩), .pointer (some ⟨D, 0, none⟩)]) (by simp) (by simp [go_sem]) ?_
 refine (catch_nothing B D v1 v2 v3 v4 v5 v6 e0 wr h.b0 h.b1 h.b2 h.b3 h.b4 h.b5 h.bz h.d0 h.dz h.hB h.hD hBD).mono ?_
 rintro e u' w'' ⟨rfl, rfl, ⟨k0, k1, k2, k3, k4, k5, k6⟩, hb⟩
 exact ⟨_, hr w'' k0 k1 k2 k3 k4 k5 k6, [.slice none 0 0, .slice none 0 0, .slice none 0 0, .slice none 0 0, .slice none 0 0, .slice none 0 0], by rw [hP], by rw [hP]; exact noSource_at _, h.old.trans (hb _ hBw hDw)⟩
set_option maxHeartbeats 2000000 in
set_option maxRecDepth 100000 in
theorem resolve_any (A1 A2 A3 A4 A5 A6 : Option Addr) (n1 c1 n2 c2 n3 c3 n4 c4 n5 c5 n6 c6 : Nat) (s : QSource) (w : World)
 (h1 : SlB 1 16 strR w (.slice A1 n1 c1) s.issuers) (h2 : SlB 5 56 qUnitR w (.slice A2 n2 c2) s.units) (h3 : SlB 6 96 qSchemaR w (.slice A3 n3 c3) s.schemas) (h4 : SlB 5 96 qRuleR w (.slice A4 n4 c4) s.rules) (h5 : SlB 5 72 qConvertR w (.slice A5 n5 c5) s.converts) (h6 : SlB 3 48 qPurposeR w (.slice A6 n6 c6) s.purposes) :
 Calls Tryz.prog 65 #[.agg #[.slice A1 n1 c1, .slice A2 n2 c2, .slice A3 n3 c3, .slice A4 n4 c4, .slice A5 n5 c5, .slice A6 n6 c6]] w (RetResolve s w) := by
 have H1 := Lib.hid h1
 have H2 := Lib.hid h2
 have H3 := Lib.hid h3
 have H4 := Lib.hid h4
 have H5 := Lib.hid h5
 have H6 := Lib.hid h6
 clear h1 h2 h3 h4 h5 h6
 have hmf : ∀ (fn : Fn) (first cap : Array Value) (w : World), (Instr.makeFunc fn first cap).run Tryz.prog w = .ok (.func fn first cap) w := fun _ _ _ _ => rfl
 go_enter_defers Tryz.func65, Tryz.ntmps65
 go_wp2_with fail
 obtain ⟨wb, hwb⟩ : ∃ x, x = ((w.alloc (.cells #[.slice A1 n1 c1, .slice A2 n2 c2, .slice A3 n3 c3, .slice A4 n4 c4, .slice A5 n5 c5, .slice A6 n6 c6] 29)).alloc (.cells #[.slice none 0 0, .slice none 0 0, .slice none 0 0, .slice none 0 0, .slice none 0 0, .slice none 0 0] 29)).alloc (.cells #[.int .i64 0] 37) := ⟨_, rfl⟩
 rw [← hwb]
 have hszb : wb.heap.size = w.heap.size + 3 := by rw [hwb]; simp
 have hbb : Below w.heap.size w wb := by rw [hwb]; exact (((Below.refl _ _).alloc (Nat.le_refl _) _).alloc (by simp) _).alloc (by simp; omega) _
 have kS : Blk wb w.heap.size 29 #[.slice A1 n1 c1, .slice A2 n2 c2, .slice A3 n3 c3, .slice A4 n4 c4, .slice A5 n5 c5, .slice A6 n6 c6] := by rw [hwb]; exact ((Blk.new _ _ _).alloc _).alloc _
 have kB : Blk wb (w.heap.size + 1) 29 #[.slice none 0 0, .slice none 0 0, .slice none 0 0, .slice none 0 0, .slice none 0 0, .slice none 0 0] := by rw [hwb]; exact (blk_new' (by simp)).alloc _
 have kD : Blk wb (w.heap.size + 1 + 1) 37 #[.int .i64 0] := by rw [hwb]; exact blk_new' (by simp)
 clear hwb
 refine (gather_any A1 A2 A3 A4 A5 A6 n1 c1 n2 c2 n3 c3 n4 c4 n5 c5 n6 c6 s wb (H1.out.mono strR_mono hbb) (H2.out.mono qUnitR_mono hbb) (H3.out.mono qSchemaR_mono hbb) (H4.out.mono qRuleR_mono hbb) (H6.out.mono qPurposeR_mono hbb)).mono ?_
 rintro e wg ⟨R, rfl, hres, hR, hbg⟩
 have kS' := kS.below hbg (by omega)
 have kB' := kB.below hbg (by omega)
 have kD' := kD.below hbg (by omega)
 have hszg : w.heap.size + 3 ≤ wg.heap.size := by rw [← hszb]; exact hbg.size
 have hRg : w.heap.size + 3 ≤ R := by rw [← hszb]; exact hR
 have hold : Below w.heap.size w wg := hbb.trans (hbg.mono (by omega))
 have HRES := Lib.hid hres
 have HOLD := Lib.hid hold
 have HKS := Lib.hid kS'
 have HKB := Lib.hid kB'
 have HKD := Lib.hid kD'
 clear hres hR hbg kS kB kD hszb hbb hold
 have c0 := kB'.cell 0
 have c1' := kB'.cell 1
 have c2' := kB'.cell 2
 have c3' := kB'.cell 3
 have c4' := kB'.cell 4
 have c5' := kB'.cell 5
 have d0 := kD'.cell 0
 simp only [List.getElem?_toArray, List.getElem?_cons_zero, List.getElem?_cons_succ] at c0 c1' c2' c3' c4' c5' d0
 have z0 := kB'.frozen 0
 have z1 := kB'.frozen 1
 have z2 := kB'.frozen 2
 have z3 := kB'.frozen 3
 have z4 := kB'.frozen 4
 have z5 := kB'.frozen 5
 have zd := kD'.frozen 0
 clear kS' kB' kD'
 cases htw : sourceTwice s with
 |
  true =>
  have HP : Hid (resolveP s = (111, noSource)) := Lib.hid (by unfold resolveP; rw [if_pos htw])
  clear htw
  go_wp2_with fail
  refine ⟨.tuple #[.agg #[.slice none 0 0, .slice none 0 0, .slice none 0 0, .slice none 0 0, .slice none 0 0, .slice none 0 0], .int .i64 111], ?_, [.slice none 0 0, .slice none 0 0, .slice none 0 0, .slice none 0 0, .slice none 0 0, .slice none 0 0], by rw [HP.out], by rw [HP.out]; exact noSource_at _, ?_⟩
  · simp [results, Tryz.results65, go_sem, *]
  · exact (((((((HOLD.out.setCell (by simp) _).setCell (by simp) _).setCell (by simp) _).setCell (by simp) _).setCell (by simp) _).setCell (by simp) _).setCell (by simp; omega) _)
 |
  false =>
  have HTW := Lib.hid htw
  clear htw
  have hgs : w.heap.size + 1 ≤ wg.heap.size := by omega
  clear c0 c1' c2' c3' c4' c5' d0 z0 z1 z2 z3 z4 z5 zd
  go_upto_region 5 with fail
  go_region_held3 (fun w' => w'.cell? ⟨w.heap.size, 0, none⟩ = some (.slice A1 n1 c1) ∧ w'.cell? ⟨w.heap.size, 1, none⟩ = some (.slice A2 n2 c2) ∧ w'.cell? ⟨w.heap.size, 2, none⟩ = some (.slice A3 n3 c3) ∧ w'.cell? ⟨w.heap.size, 3, none⟩ = some (.slice A4 n4 c4) ∧ w'.cell? ⟨w.heap.size, 4, none⟩ = some (.slice A5 n5 c5) ∧ w'.cell? ⟨w.heap.size, 5, none⟩ = some (.slice A6 n6 c6) ∧ Below (w.heap.size + 1) wg w')
   (first
    | with_reducible assumption
    | exact sixS HKS.out ((((((hS6.2.2.2.2.2.2.setCell (Nat.le_refl _) _).setCell (Nat.le_refl _) _).setCell (Nat.le_refl _) _).setCell (Nat.le_refl _) _).setCell (Nat.le_refl _) _).setCell (Nat.le_refl _) _)
    | exact sixS HKS.out (Below.refl _ _).drew)
   (first
    | (go_at_call 116; refine (cloneStr_g (R := fun _ => strR w) (fun _ => strR_one w) A1 n1 c1 _ _ (sl_now H1.out HOLD.out (by first | assumption | (go_split_ands; assumption)))).mono ?_; rintro e w1 ⟨v1, cs1, rfl, hcs1, ho1, hb1⟩; obtain ⟨B1, m1, d1, rfl, hm1⟩ := own_form' ho1; have HO1 := Lib.hid ho1; have HC1 := Lib.hid hcs1; have HN1 := Lib.hid hm1; have hS1 := sixS HKS.out (sixT (by first | assumption | (go_split_ands; assumption)) hgs hb1); clear ho1 hcs1 hm1)
    | (go_at_call 117; refine (cloneUnit_g (R := fun _ => qUnitR w) (fun _ => qUnitR_one w) A2 n2 c2 _ _ (sl_now H2.out HOLD.out (by first | assumption | (go_split_ands; assumption)))).mono ?_; rintro e w2 ⟨v2, cs2, rfl, hcs2, ho2, hb2⟩; obtain ⟨B2, m2, d2, rfl, hm2⟩ := own_form' ho2; have HO2 := Lib.hid ho2; have HC2 := Lib.hid hcs2; have HN2 := Lib.hid hm2; have hS2 := sixS HKS.out (sixT (by first | assumption | (go_split_ands; assumption)) hgs hb2); clear ho2 hcs2 hm2 hS1)
    | (go_at_call 118; refine (cloneSchema_g (R := fun _ => qSchemaR w) (fun _ => qSchemaR_one w) A3 n3 c3 _ _ (sl_now H3.out HOLD.out (by first | assumption | (go_split_ands; assumption)))).mono ?_; rintro e w3 ⟨v3, cs3, rfl, hcs3, ho3, hb3⟩; obtain ⟨B3, m3, d3, rfl, hm3⟩ := own_form' ho3; have HO3 := Lib.hid ho3; have HC3 := Lib.hid hcs3; have HN3 := Lib.hid hm3; have hS3 := sixS HKS.out (sixT (by first | assumption | (go_split_ands; assumption)) hgs hb3); clear ho3 hcs3 hm3 hS2)
    | (go_at_call 119; refine (cloneRule_g (R := fun _ => qRuleR w) (fun _ => qRuleR_one w) A4 n4 c4 _ _ (sl_now H4.out HOLD.out (by first | assumption | (go_split_ands; assumption)))).mono ?_; rintro e w4 ⟨v4, cs4, rfl, hcs4, ho4, hb4⟩; obtain ⟨B4, m4, d4, rfl, hm4⟩ := own_form' ho4; have HO4 := Lib.hid ho4; have HC4 := Lib.hid hcs4; have HN4 := Lib.hid hm4; have hS4 := sixS HKS.out (sixT (by first | assumption | (go_split_ands; assumption)) hgs hb4); clear ho4 hcs4 hm4 hS3)
    | (go_at_call 120; refine (cloneConvert_g (R := fun _ => qConvertR w) (fun _ => qConvertR_one w) A5 n5 c5 _ _ (sl_now H5.out HOLD.out (by first | assumption | (go_split_ands; assumption)))).mono ?_; rintro e w5 ⟨v5, cs5, rfl, hcs5, ho5, hb5⟩; obtain ⟨B5, m5, d5, rfl, hm5⟩ := own_form' ho5; have HO5 := Lib.hid ho5; have HC5 := Lib.hid hcs5; have HN5 := Lib.hid hm5; have hS5 := sixS HKS.out (sixT (by first | assumption | (go_split_ands; assumption)) hgs hb5); clear ho5 hcs5 hm5 hS4)
    | (
     go_at_call 121; refine (clonePurpose_g (R := fun _ => qPurposeR w) (fun _ => qPurposeR_one w) A6 n6 c6 _ _ (sl_now H6.out HOLD.out (by first | assumption | (go_split_ands; assumption)))).mono ?_; rintro e w6 ⟨v6, cs6, rfl, hcs6, ho6, hb6⟩; obtain ⟨B6, m6, d6, rfl, hm6⟩ := own_form' ho6; have HO6 := Lib.hid ho6; have HC6 := Lib.hid hcs6; have HN6 := Lib.hid hm6; have hS6 := sixS HKS.out (sixT (by first | assumption | (go_split_ands; assumption)) hgs hb6); clear ho6 hcs6 hm6 hS5
     have hall : Below wg.heap.size wg w6 := ((((((Below.refl _ _).drew).trans hb1).trans (hb2.mono hb1.size)).trans (hb3.mono (Nat.le_trans hb1.size hb2.size))).trans (hb4.mono (Nat.le_trans (Nat.le_trans hb1.size hb2.size) hb3.size))).trans (hb5.mono (Nat.le_trans (Nat.le_trans (Nat.le_trans hb1.size hb2.size) hb3.size) hb4.size)) |>.trans (hb6.mono (Nat.le_trans (Nat.le_trans (Nat.le_trans (Nat.le_trans hb1.size hb2.size) hb3.size) hb4.size) hb5.size))
     have kB6 := HKB.out.below hall (by omega)
     have x0 := kB6.cell 0
     have x1 := kB6.cell 1
     have x2 := kB6.cell 2
     have x3 := kB6.cell 3
     have x4 := kB6.cell 4
     have x5 := kB6.cell 5
     simp only [List.getElem?_toArray, List.getElem?_cons_zero, List.getElem?_cons_succ] at x0 x1 x2 x3 x4 x5
     have y0 := kB6.frozen 0
     have y1 := kB6.frozen 1
     have y2 := kB6.frozen 2
     have y3 := kB6.frozen 3
     have y4 := kB6.frozen 4
     have y5 := kB6.frozen 5
     have HALL := Lib.hid hall
     have HKB6 := Lib.hid kB6
     clear kB6 hall))
  have hsz7 : ((((((w6.setCell ⟨w.heap.size + 1, 0, none⟩ (.slice B1 m1 d1)).setCell ⟨w.heap.size + 1, 1, none⟩ (.slice B2 m2 d2)).setCell ⟨w.heap.size + 1, 2, none⟩ (.slice B3 m3 d3)).setCell ⟨w.heap.size + 1, 3, none⟩ (.slice B4 m4 d4)).setCell ⟨w.heap.size + 1, 4, none⟩ (.slice B5 m5 d5)).setCell ⟨w.heap.size + 1, 5, none⟩ (.slice B6 m6 d6)).heap.size = w6.heap.size := by simp [World.setCell]
  have hold7 : Below w.heap.size w ((((((w6.setCell ⟨w.heap.size + 1, 0, none⟩ (.slice B1 m1 d1)).setCell ⟨w.heap.size + 1, 1, none⟩ (.slice B2 m2 d2)).setCell ⟨w.heap.size + 1, 2, none⟩ (.slice B3 m3 d3)).setCell ⟨w.heap.size + 1, 3, none⟩ (.slice B4 m4 d4)).setCell ⟨w.heap.size + 1, 4, none⟩ (.slice B5 m5 d5)).setCell ⟨w.heap.size + 1, 5, none⟩ (.slice B6 m6 d6)) :=
   ((((((HOLD.out.trans (hS6.2.2.2.2.2.2.mono (Nat.le_succ _))).setCell (Nat.le_succ _) _).setCell (Nat.le_succ _) _).setCell (Nat.le_succ _) _).setCell (Nat.le_succ _) _).setCell (Nat.le_succ _) _).setCell (Nat.le_succ _) _
  have hk0 := HKB6.out
  have hk1 := hk0.put 0 (.slice B1 m1 d1)
  have hk2 := hk1.put 1 (.slice B2 m2 d2)
  have hk3 := hk2.put 2 (.slice B3 m3 d3)
  have hk4 := hk3.put 3 (.slice B4 m4 d4)
  have hk5 := hk4.put 4 (.slice B5 m5 d5)
  have hk6 := hk5.put 5 (.slice B6 m6 d6)
  simp only [List.setIfInBounds_toArray, List.set_cons_zero, List.set_cons_succ] at hk1 hk2 hk3 hk4 hk5 hk6
  have hd7 := (((((((HKD.out.below HALL.out (by omega)).far (p := ⟨w.heap.size + 1, 0, none⟩) (by simp) (.slice B1 m1 d1)).far (p := ⟨w.heap.size + 1, 1, none⟩) (by simp) (.slice B2 m2 d2)).far (p := ⟨w.heap.size + 1, 2, none⟩) (by simp) (.slice B3 m3 d3)).far (p := ⟨w.heap.size + 1, 3, none⟩) (by simp) (.slice B4 m4 d4)).far (p := ⟨w.heap.size + 1, 4, none⟩) (by simp) (.slice B5 m5 d5)).far (p := ⟨w.heap.size + 1, 5, none⟩) (by simp) (.slice B6 m6 d6))
  have hr0 : ResR (mask wg.heap.size w6.heap.size w6) R s := HRES.out.below (mask_old wg HALL.out (Nat.le_refl _))
  have hBl : w.heap.size + 1 < wg.heap.size := by omega
  have hRB : R ≠ w.heap.size + 1 := by omega
  have hRlo : R < wg.heap.size := by obtain ⟨_, _, _, _, _, _, hk, _⟩ := HRES.out; exact hk.lt
  have hr1 := resm_put (j := 0) hr0 hk0 (nomap6 _ _ _ _ _ _ _ _ _ _ _ _ _ _ _ _ _ _) hBl hRB (.slice B1 m1 d1)
  have hr2 := resm_put (j := 1) hr1 hk1 (nomap6 _ _ _ _ _ _ _ _ _ _ _ _ _ _ _ _ _ _) hBl hRB (.slice B2 m2 d2)
  have hr3 := resm_put (j := 2) hr2 hk2 (nomap6 _ _ _ _ _ _ _ _ _ _ _ _ _ _ _ _ _ _) hBl hRB (.slice B3 m3 d3)
  have hr4 := resm_put (j := 3) hr3 hk3 (nomap6 _ _ _ _ _ _ _ _ _ _ _ _ _ _ _ _ _ _) hBl hRB (.slice B4 m4 d4)
  have hr5 := resm_put (j := 4) hr4 hk4 (nomap6 _ _ _ _ _ _ _ _ _ _ _ _ _ _ _ _ _ _) hBl hRB (.slice B5 m5 d5)
  have hr6 := resm_put (j := 5) hr5 hk5 (nomap6 _ _ _ _ _ _ _ _ _ _ _ _ _ _ _ _ _ _) hBl hRB (.slice B6 m6 d6)
  have l1 : wg.heap.size ≤ w1.heap.size := hb1.size
  have l2 := hb2.size
  have l3 := hb3.size
  have l4 := hb4.size
  have l5 := hb5.size
  have l6 := hb6.size
  have b56 : Below w5.heap.size w5 w6 := hb6
  have b46 : Below w4.heap.size w4 w6 := hb5.trans (b56.mono l5)
  have b36 : Below w3.heap.size w3 w6 := hb4.trans (b46.mono l4)
  have b26 : Below w2.heap.size w2 w6 := hb3.trans (b36.mono l3)
  have b16 : Below w1.heap.size w1 w6 := hb2.trans (b26.mono l2)
  have hwl : w.heap.size ≤ wg.heap.size := by omega
  have hst : St w wg.heap.size w6.heap.size R (w.heap.size + 1) (w.heap.size + 1 + 1) w1.heap.size w2.heap.size w3.heap.size w4.heap.size w5.heap.size s (.slice B1 m1 d1) (.slice B2 m2 d2) (.slice B3 m3 d3) (.slice B4 m4 d4) (.slice B5 m5 d5) (.slice B6 m6 d6) 0 s.units s.schemas s.rules s.converts s.purposes _ :=
   ⟨hold7, Nat.le_of_eq hsz7.symm, hr6, hk6.cell 0, hk6.cell 1, hk6.cell 2, hk6.cell 3, hk6.cell 4, hk6.cell 5, hk6.frozen, hd7.cell 0, hd7.frozen 0,
    mkRow strR_mono HC1.out HO1.out (Nat.le_refl _) (own7 HO1.out b16 (by simp; omega) _ _ _ _ _ _) hold7 hwl,
    mkRow qUnitR_mono HC2.out HO2.out (Nat.le_refl _) (own7 HO2.out b26 (by omega) _ _ _ _ _ _) hold7 hwl,
    mkRow qSchemaR_mono HC3.out HO3.out (Nat.le_refl _) (own7 HO3.out b36 (by omega) _ _ _ _ _ _) hold7 hwl,
    mkRow qRuleR_mono HC4.out HO4.out (Nat.le_refl _) (own7 HO4.out b46 (by omega) _ _ _ _ _ _) hold7 hwl,
    mkRow qConvertR_mono HC5.out HO5.out (Nat.le_refl _) (own7 HO5.out b56 (by omega) _ _ _ _ _ _) hold7 hwl,
    mkRow qPurposeR_mono HC6.out HO6.out (Nat.le_refl _) (own7 HO6.out (Below.refl _ _) (by omega) _ _ _ _ _ _) hold7 hwl⟩
  generalize (((((w6.setCell ⟨w.heap.size + 1, 0, none⟩ (.slice B1 m1 d1)).setCell ⟨w.heap.size + 1, 1, none⟩ (.slice B2 m2 d2)).setCell ⟨w.heap.size + 1, 2, none⟩ (.slice B3 m3 d3)).setCell ⟨w.heap.size + 1, 3, none⟩ (.slice B4 m4 d4)).setCell ⟨w.heap.size + 1, 4, none⟩ (.slice B5 m5 d5)).setCell ⟨w.heap.size + 1, 5, none⟩ (.slice B6 m6 d6) = w7 at hst ⊢
  have HST := Lib.hid hst
  clear hst hsz7 hold7 hk0 hk1 hk2 hk3 hk4 hk5 hk6 hd7 hr0 hr1 hr2 hr3 hr4 hr5 hr6 hRB b56 b46 b36 b26 b16 hb1 hb2 hb3 hb4 hb5 hb6 hS6 x0 x1 x2 x3 x4 x5 y0 y1 y2 y3 y4 y5 HO1 HO2 HO3 HO4 HO5 HO6 HC1 HC2 HC3 HC4 HC5 HC6 HALL HKB6 HKS HKB HKD HRES HOLD
  have hNP : numP s = none → resolveP s = (110, noSource) := fun e => by unfold resolveP; rw [if_neg (by rw [HTW.out]; simp), e]
  have HNP := Lib.hid hNP
  clear hNP
  have k1 := HST.out.b1
  go_wp2_with fail
  obtain ⟨b1', b2', b3', fA', fl, fc', hbR', hm1', hm2', hm3', hfs'⟩ := HST.out.res.unm
  have hc1 := hbR'.cell 1
  have hlR := hbR'.lt
  simp only [List.getElem?_toArray, List.getElem?_cons_zero, List.getElem?_cons_succ] at hc1
  obtain ⟨cu, hou, hbu, hcu⟩ := HST.out.r2
  refine (numberUnits_any R b2' w1.heap.size s.units.length (.slice B2 m2 d2) s.units cu (unitNames s) w7 hc1 hlR hm2' (by omega) hou ⟨hcu.1, hcu.2⟩ rfl).mono ?_
  rintro e wu ⟨hgu, hru⟩
  have hDl : w.heap.size + 1 + 1 < wg.heap.size := by omega
  have hlM : wg.heap.size ≤ w6.heap.size := by omega
  cases hup : unitsP (unitNames s) s.units with
  |
   none =>
   rw [hup] at hru
   subst hru
   have HF := Lib.hid (HST.out.fall hgu (fun r e => by have := hou.lt r e; omega) hwl hlM hBl hDl)
   have HNO := Lib.hid (HNP.out (by unfold numP; rw [hup]))
   clear hup hgu hou hbu hcu hbR' hm1' hm2' hm3' hfs' hc1 k1
   go_wp2
   refine res_panic HF.out (by omega) (by omega) (by omega) HNO.out (fun w'' _ _ _ _ _ _ _ => ?_)
   simp [results, Tryz.results65, go_sem, *]
  |
   some us =>
   rw [hup] at hru
   obtain ⟨rfl, cu', hou', hcu'⟩ := hru
   have hul : us.length = s.units.length := unitsTo_len (Nat.le_refl _) hup
   have hst : St w wg.heap.size w6.heap.size R (w.heap.size + 1) (w.heap.size + 1 + 1) w1.heap.size w2.heap.size w3.heap.size w4.heap.size w5.heap.size s (.slice B1 m1 d1) (.slice B2 m2 d2) (.slice B3 m3 d3) (.slice B4 m4 d4) (.slice B5 m5 d5) (.slice B6 m6 d6) 0 us s.schemas s.rules s.converts s.purposes wu := by
    rcases own_row hou with ⟨hv, h0⟩ | ⟨G, gc, hv, hG, _⟩
    ·
     have hu0 : us = s.units := by rw [List.eq_nil_of_length_eq_zero (hul.trans h0), List.eq_nil_of_length_eq_zero h0]
     rw [hu0]
     rw [hv] at hgu
     exact HST.out.below ⟨hgu.os, hgu.tape, hgu.output, hgu.size, fun k hk => hgu.block k hk (by simp [Value.ownBlock])⟩ hwl hlM hBl hDl
    ·
     have hGU := hbu G (by rw [hv]; rfl)
     rw [hv] at hgu
     refine HST.out.turn (G := G) hgu (by omega) (by omega) hwl hBl hDl (.inr ⟨cu', ?_, hbu, ⟨hcu'.1, hcu'.2⟩⟩) (.inl ⟨rfl, by omega⟩) (.inl ⟨rfl, by omega⟩) (.inl ⟨rfl, by omega⟩) (.inl ⟨rfl, by omega⟩) hG
     rw [hul]; exact hou'
   have HS1 := Lib.hid hst
   have HUP := Lib.hid hup
   have k2 := hst.b2
   have HUL := Lib.hid hul
   clear hst hup hgu hou hbu hcu hou' hcu' hul hbR' hm1' hm2' hm3' hfs' hc1 k1 hlR HST
   go_wp2_with fail
   clear k2
   go_loopg [44] m3 (fun q j wr => ∃ (k0 : Nat) (out0 : List QSchema), k0 ≤ m3 ∧ q = m3 - k0 ∧ j = .int .i64 k0 ∧ allTo (fun _ => schemaP s) s.schemas k0 = some out0 ∧ St w wg.heap.size w6.heap.size R (w.heap.size + 1) (w.heap.size + 1 + 1) w1.heap.size w2.heap.size w3.heap.size w4.heap.size w5.heap.size s (.slice B1 m1 d1) (.slice B2 m2 d2) (.slice B3 m3 d3) (.slice B4 m4 d4) (.slice B5 m5 d5) (.slice B6 m6 d6) 0 us (out0 ++ s.schemas.drop k0) s.rules s.converts s.purposes wr)
   case atStart => exact ⟨0, [], Nat.zero_le _, rfl, rfl, rfl, HS1.out⟩
   case round =>
    clear HS1
    obtain ⟨k0, out0, hk0, hq0, rfl, hto0, hst⟩ := hrel
    have HQ0 := Lib.hid hq0
    have HTO0 := Lib.hid hto0
    clear hq0 hto0
    by_cases hlt0 : k0 < m3
    ·
     obtain ⟨m, hm⟩ : ∃ m, s.schemas[k0]? = some m := ⟨s.schemas[k0]'(by have := HN3.out; omega), List.getElem?_eq_getElem _⟩
     have hlen := allTo_len (by have := HN3.out; omega) HTO0.out
     have hat : (out0 ++ s.schemas.drop k0)[k0]? = some m := by
      rw [List.getElem?_append_right (by omega), List.getElem?_drop, hlen]
      simpa using hm
     have hstd := hst.below ((Below.refl _ _).drew) hwl hlM hBl hDl
     obtain ⟨G, gc, cg, hv, hLG, hGU, hog, hrg, hil, hnn, hmk⟩ := hstd.r3.at hat
     injection hv with hv1 hv2 hv3
     subst hv1 hv3
     have hn2 : m3 ≤ 9223372036854775807 := by omega
     have kb := hst.b2
     have hkn : (k0 : Int) < (m3 : Int) := by omega
     have hk0 : (0 : Int) ≤ (k0 : Int) := by omega
     have hNone : schemaP s m = none → numP s = none := fun hh => by
      unfold numP
      rw [HUP.out]
      simp only
      rw [allP_none (k := k0 + 1) (by have := HN3.out; omega) (allTo_no HTO0.out hm hh)]
     have hYes : ∀ x, schemaP s m = some x → allTo (fun _ => schemaP s) s.schemas (k0 + 1) = some (out0 ++ [x]) := fun x hx => allTo_yes HTO0.out hm hx
     have hset : ∀ x, (out0 ++ s.schemas.drop k0).set k0 x = (out0 ++ [x]) ++ s.schemas.drop (k0 + 1) := fun x => set_drop hlen hm
     obtain ⟨b1', b2', b3', fA', fl, fc', hbR', _, _, _, hfs'⟩ := hstd.res
     have hafl : k0 < fl := by
      have := hfs'.len
      rw [this, List.length_map]
      exact (List.getElem?_eq_some_iff.1 hm).1
     have hflm : fl ≤ 9223372036854775807 := by have := hfs'.le; omega
     obtain ⟨fb, foff, fm, fg, rfl, hfb, hfm, hfc, hfmap⟩ := map_at hfs' hafl
     have hfx : fm = fieldMap m := by rw [List.getElem?_map, hm, Option.map_some, Option.some.injEq] at hfm; exact hfm.symm
     subst hfx
     have hbR'' := mask_blk hbR' (by simp)
     have s3 : wr.cell? ⟨R, 3, none⟩ = _ := hbR''.cell 3
     simp only [List.getElem?_toArray, List.getElem?_cons_zero, List.getElem?_cons_succ] at s3
     have s4 : wr.cell? ⟨fb, foff + k0, none⟩ = some (.map (some fg)) := mask_cell hfc
     have hfl2 : (k0 : Int) < (fl : Int) := by omega
     have HN := Lib.hid (numberSchema_any R wg.heap.size w6.heap.size w2.heap.size G _ _ k0 fg cg s m wr.drew hstd.res (by omega) (by omega) hstd.size hfmap hog hil hrg)
     have HSD := Lib.hid hstd
     have HMK := Lib.hid hmk
     have HNONE := Lib.hid hNone
     have HYES := Lib.hid hYes
     have HSET := Lib.hid hset
     clear hst hstd hmk hNone hYes hset hog hrg hat hm hlen hv2 hnn hil hbR' hbR'' hfs' hfm hfc hfmap
     go_wp2_with fail
     go_still_tail 12, (by kernel_rfl)
     change wpList _ _ _ _ _ wr.drew
     go_wp2_with fail
     refine HN.out.mono ?_
     rintro e w' ⟨hg', hr⟩
     clear HN
     cases htp : schemaP s m with
     |
      none =>
      rw [htp] at hr
      subst hr
      have HF := Lib.hid (HSD.out.fall hg' (fun r e => by injection e; omega) hwl hlM hBl hDl)
      have HNO := Lib.hid (HNP.out (HNONE.out htp))
      clear htp hg' kb s3 s4
      go_wp2
      refine res_panic HF.out (by omega) (by omega) (by omega) HNO.out (fun w'' _ _ _ _ _ _ _ => ?_)
      simp [results, Tryz.results65, go_sem, *]
     |
      some x =>
      rw [htp] at hr
      obtain ⟨rfl, hro⟩ := hr
      have hrow := HMK.out x w' hg' (by omega) (by omega) qSchemaR_mono hro
      rw [HSET.out] at hrow
      have HS' := Lib.hid (HSD.out.turn hg' (by omega) (by omega) hwl hBl hDl (.inl ⟨rfl, by omega⟩) (.inr hrow) (.inl ⟨rfl, by omega⟩) (.inl ⟨rfl, by omega⟩) (.inl ⟨rfl, by omega⟩) (by omega))
      have HY := Lib.hid (HYES.out x htp)
      clear htp hg' kb hro hrow s3 s4
      go_wp2_with fail
      go_roundg (m3 - (k0 + 1))
      case measure => have := HQ0.out; omega
      case rel => exact ⟨k0 + 1, out0 ++ [x], by omega, rfl, by go_num, HY.out, HS'.out⟩
    ·
     have hke0 : k0 = s.schemas.length := by have := HN3.out; omega
     have HD0 : Hid (allP (fun _ => schemaP s) s.schemas = some out0) := Lib.hid (by unfold allP; rw [← hke0]; exact HTO0.out)
     have HL0 := Lib.hid (show out0.length = s.schemas.length by rw [allTo_len (by omega) HTO0.out, hke0])
     rw [hke0, List.drop_length, List.append_nil] at hst
     obtain ⟨ss, hov0⟩ : ∃ x, x = out0 := ⟨_, rfl⟩
     rw [← hov0] at hst HD0 HL0
     clear hov0 HTO0 HQ0 hke0
     have kb := hst.b3
     have HS2 := Lib.hid hst
     clear hst
     go_wp2_with fail
     clear kb
     go_loopg [64] m4 (fun q j wr => ∃ (k1 : Nat) (out1 : List QRule), k1 ≤ m4 ∧ q = m4 - k1 ∧ j = .int .i64 k1 ∧ allTo (fun _ => ruleP s) s.rules k1 = some out1 ∧ St w wg.heap.size w6.heap.size R (w.heap.size + 1) (w.heap.size + 1 + 1) w1.heap.size w2.heap.size w3.heap.size w4.heap.size w5.heap.size s (.slice B1 m1 d1) (.slice B2 m2 d2) (.slice B3 m3 d3) (.slice B4 m4 d4) (.slice B5 m5 d5) (.slice B6 m6 d6) 0 us ss (out1 ++ s.rules.drop k1) s.converts s.purposes wr)
     case atStart => exact ⟨0, [], Nat.zero_le _, rfl, rfl, rfl, HS2.out⟩
     case round =>
      clear HS2
      obtain ⟨k1, out1, hk1, hq1, rfl, hto1, hst⟩ := hrel
      have HQ1 := Lib.hid hq1
      have HTO1 := Lib.hid hto1
      clear hq1 hto1
      by_cases hlt1 : k1 < m4
      ·
       obtain ⟨m, hm⟩ : ∃ m, s.rules[k1]? = some m := ⟨s.rules[k1]'(by have := HN4.out; omega), List.getElem?_eq_getElem _⟩
       have hlen := allTo_len (by have := HN4.out; omega) HTO1.out
       have hat : (out1 ++ s.rules.drop k1)[k1]? = some m := by
        rw [List.getElem?_append_right (by omega), List.getElem?_drop, hlen]
        simpa using hm
       have hstd := hst
       obtain ⟨G, gc, cg, hv, hLG, hGU, hog, hrg, hil, hnn, hmk⟩ := hstd.r4.at hat
       injection hv with hv1 hv2 hv3
       subst hv1 hv3
       have hn2 : m4 ≤ 9223372036854775807 := by omega
       have kb := hst.b3
       have hkn : (k1 : Int) < (m4 : Int) := by omega
       have hk0 : (0 : Int) ≤ (k1 : Int) := by omega
       have hNone : ruleP s m = none → numP s = none := fun hh => by
        unfold numP
        rw [HUP.out]
        simp only
        rw [HD0.out]
        simp only
        rw [allP_none (k := k1 + 1) (by have := HN4.out; omega) (allTo_no HTO1.out hm hh)]
       have hYes : ∀ x, ruleP s m = some x → allTo (fun _ => ruleP s) s.rules (k1 + 1) = some (out1 ++ [x]) := fun x hx => allTo_yes HTO1.out hm hx
       have hset : ∀ x, (out1 ++ s.rules.drop k1).set k1 x = (out1 ++ [x]) ++ s.rules.drop (k1 + 1) := fun x => set_drop hlen hm
       have HN := Lib.hid (numberRule_any R wg.heap.size w6.heap.size w3.heap.size G _ _ k1 cg s m wr hstd.res (by omega) (by omega) hstd.size hog hil hrg)
       have HSD := Lib.hid hstd
       have HMK := Lib.hid hmk
       have HNONE := Lib.hid hNone
       have HYES := Lib.hid hYes
       have HSET := Lib.hid hset
       clear hst hstd hmk hNone hYes hset hog hrg hat hm hlen hv2 hnn hil
       go_wp2_with fail
       refine HN.out.mono ?_
       rintro e w' ⟨hg', hr⟩
       clear HN
       cases htp : ruleP s m with
       |
        none =>
        rw [htp] at hr
        subst hr
        have HF := Lib.hid (HSD.out.fall hg' (fun r e => by injection e; omega) hwl hlM hBl hDl)
        have HNO := Lib.hid (HNP.out (HNONE.out htp))
        clear htp hg' kb
        go_wp2
        refine res_panic HF.out (by omega) (by omega) (by omega) HNO.out (fun w'' _ _ _ _ _ _ _ => ?_)
        simp [results, Tryz.results65, go_sem, *]
       |
        some x =>
        rw [htp] at hr
        obtain ⟨rfl, hro⟩ := hr
        have hrow := HMK.out x w' hg' (by omega) (by omega) qRuleR_mono hro
        rw [HSET.out] at hrow
        have HS' := Lib.hid (HSD.out.turn hg' (by omega) (by omega) hwl hBl hDl (.inl ⟨rfl, by omega⟩) (.inl ⟨rfl, by omega⟩) (.inr hrow) (.inl ⟨rfl, by omega⟩) (.inl ⟨rfl, by omega⟩) (by omega))
        have HY := Lib.hid (HYES.out x htp)
        clear htp hg' kb hro hrow
        go_wp2_with fail
        go_roundg (m4 - (k1 + 1))
        case measure => have := HQ1.out; omega
        case rel => exact ⟨k1 + 1, out1 ++ [x], by omega, rfl, by go_num, HY.out, HS'.out⟩
      ·
       have hke1 : k1 = s.rules.length := by have := HN4.out; omega
       have HD1 : Hid (allP (fun _ => ruleP s) s.rules = some out1) := Lib.hid (by unfold allP; rw [← hke1]; exact HTO1.out)
       have HL1 := Lib.hid (show out1.length = s.rules.length by rw [allTo_len (by omega) HTO1.out, hke1])
       rw [hke1, List.drop_length, List.append_nil] at hst
       obtain ⟨rs, hov1⟩ : ∃ x, x = out1 := ⟨_, rfl⟩
       rw [← hov1] at hst HD1 HL1
       clear hov1 HTO1 HQ1 hke1
       have kb := hst.b4
       have HS3 := Lib.hid hst
       clear hst
       go_wp2_with fail
       clear kb
       go_loopg [77] m5 (fun q j wr => ∃ (k2 : Nat) (out2 : List QConvert), k2 ≤ m5 ∧ q = m5 - k2 ∧ j = .int .i64 k2 ∧ allTo (fun _ => convertP s) s.converts k2 = some out2 ∧ St w wg.heap.size w6.heap.size R (w.heap.size + 1) (w.heap.size + 1 + 1) w1.heap.size w2.heap.size w3.heap.size w4.heap.size w5.heap.size s (.slice B1 m1 d1) (.slice B2 m2 d2) (.slice B3 m3 d3) (.slice B4 m4 d4) (.slice B5 m5 d5) (.slice B6 m6 d6) 0 us ss rs (out2 ++ s.converts.drop k2) s.purposes wr)
       case atStart => exact ⟨0, [], Nat.zero_le _, rfl, rfl, rfl, HS3.out⟩
       case round =>
        clear HS3
        obtain ⟨k2, out2, hk2, hq2, rfl, hto2, hst⟩ := hrel
        have HQ2 := Lib.hid hq2
        have HTO2 := Lib.hid hto2
        clear hq2 hto2
        by_cases hlt2 : k2 < m5
        ·
         obtain ⟨m, hm⟩ : ∃ m, s.converts[k2]? = some m := ⟨s.converts[k2]'(by have := HN5.out; omega), List.getElem?_eq_getElem _⟩
         have hlen := allTo_len (by have := HN5.out; omega) HTO2.out
         have hat : (out2 ++ s.converts.drop k2)[k2]? = some m := by
          rw [List.getElem?_append_right (by omega), List.getElem?_drop, hlen]
          simpa using hm
         have hstd := hst
         obtain ⟨G, gc, cg, hv, hLG, hGU, hog, hrg, hil, hnn, hmk⟩ := hstd.r5.at hat
         injection hv with hv1 hv2 hv3
         subst hv1 hv3
         have hn2 : m5 ≤ 9223372036854775807 := by omega
         have kb := hst.b4
         have hkn : (k2 : Int) < (m5 : Int) := by omega
         have hk0 : (0 : Int) ≤ (k2 : Int) := by omega
         have hNone : convertP s m = none → numP s = none := fun hh => by
          unfold numP
          rw [HUP.out]
          simp only
          rw [HD0.out]
          simp only
          rw [HD1.out]
          simp only
          rw [allP_none (k := k2 + 1) (by have := HN5.out; omega) (allTo_no HTO2.out hm hh)]
         have hYes : ∀ x, convertP s m = some x → allTo (fun _ => convertP s) s.converts (k2 + 1) = some (out2 ++ [x]) := fun x hx => allTo_yes HTO2.out hm hx
         have hset : ∀ x, (out2 ++ s.converts.drop k2).set k2 x = (out2 ++ [x]) ++ s.converts.drop (k2 + 1) := fun x => set_drop hlen hm
         have HN := Lib.hid (numberConvert_any R wg.heap.size w6.heap.size w4.heap.size G _ _ k2 cg s m wr hstd.res (by omega) (by omega) hstd.size hog hil hrg)
         have HSD := Lib.hid hstd
         have HMK := Lib.hid hmk
         have HNONE := Lib.hid hNone
         have HYES := Lib.hid hYes
         have HSET := Lib.hid hset
         clear hst hstd hmk hNone hYes hset hog hrg hat hm hlen hv2 hnn hil
         go_wp2_with fail
         refine HN.out.mono ?_
         rintro e w' ⟨hg', hr⟩
         clear HN
         cases htp : convertP s m with
         |
          none =>
          rw [htp] at hr
          subst hr
          have HF := Lib.hid (HSD.out.fall hg' (fun r e => by injection e; omega) hwl hlM hBl hDl)
          have HNO := Lib.hid (HNP.out (HNONE.out htp))
          clear htp hg' kb
          go_wp2
          refine res_panic HF.out (by omega) (by omega) (by omega) HNO.out (fun w'' _ _ _ _ _ _ _ => ?_)
          simp [results, Tryz.results65, go_sem, *]
         |
          some x =>
          rw [htp] at hr
          obtain ⟨rfl, hro⟩ := hr
          have hrow := HMK.out x w' hg' (by omega) (by omega) qConvertR_mono hro
          rw [HSET.out] at hrow
          have HS' := Lib.hid (HSD.out.turn hg' (by omega) (by omega) hwl hBl hDl (.inl ⟨rfl, by omega⟩) (.inl ⟨rfl, by omega⟩) (.inl ⟨rfl, by omega⟩) (.inr hrow) (.inl ⟨rfl, by omega⟩) (by omega))
          have HY := Lib.hid (HYES.out x htp)
          clear htp hg' kb hro hrow
          go_wp2_with fail
          go_roundg (m5 - (k2 + 1))
          case measure => have := HQ2.out; omega
          case rel => exact ⟨k2 + 1, out2 ++ [x], by omega, rfl, by go_num, HY.out, HS'.out⟩
        ·
         have hke2 : k2 = s.converts.length := by have := HN5.out; omega
         have HD2 : Hid (allP (fun _ => convertP s) s.converts = some out2) := Lib.hid (by unfold allP; rw [← hke2]; exact HTO2.out)
         have HL2 := Lib.hid (show out2.length = s.converts.length by rw [allTo_len (by omega) HTO2.out, hke2])
         rw [hke2, List.drop_length, List.append_nil] at hst
         obtain ⟨cv, hov2⟩ : ∃ x, x = out2 := ⟨_, rfl⟩
         rw [← hov2] at hst HD2 HL2
         clear hov2 HTO2 HQ2 hke2
         have kb := hst.b5
         have HS4 := Lib.hid hst
         clear hst
         go_wp2_with fail
         clear kb
         go_loopg [90] m6 (fun q j wr => ∃ (k3 : Nat) (out3 : List QPurpose), k3 ≤ m6 ∧ q = m6 - k3 ∧ j = .int .i64 k3 ∧ allTo (fun _ => purposeP s) s.purposes k3 = some out3 ∧ St w wg.heap.size w6.heap.size R (w.heap.size + 1) (w.heap.size + 1 + 1) w1.heap.size w2.heap.size w3.heap.size w4.heap.size w5.heap.size s (.slice B1 m1 d1) (.slice B2 m2 d2) (.slice B3 m3 d3) (.slice B4 m4 d4) (.slice B5 m5 d5) (.slice B6 m6 d6) 0 us ss rs cv (out3 ++ s.purposes.drop k3) wr)
         case atStart => exact ⟨0, [], Nat.zero_le _, rfl, rfl, rfl, HS4.out⟩
         case round =>
          clear HS4
          obtain ⟨k3, out3, hk3, hq3, rfl, hto3, hst⟩ := hrel
          have HQ3 := Lib.hid hq3
          have HTO3 := Lib.hid hto3
          clear hq3 hto3
          by_cases hlt3 : k3 < m6
          ·
           obtain ⟨m, hm⟩ : ∃ m, s.purposes[k3]? = some m := ⟨s.purposes[k3]'(by have := HN6.out; omega), List.getElem?_eq_getElem _⟩
           have hlen := allTo_len (by have := HN6.out; omega) HTO3.out
           have hat : (out3 ++ s.purposes.drop k3)[k3]? = some m := by
            rw [List.getElem?_append_right (by omega), List.getElem?_drop, hlen]
            simpa using hm
           have hstd := hst
           obtain ⟨G, gc, cg, hv, hLG, hGU, hog, hrg, hil, hnn, hmk⟩ := hstd.r6.at hat
           injection hv with hv1 hv2 hv3
           subst hv1 hv3
           have hn2 : m6 ≤ 9223372036854775807 := by omega
           have kb := hst.b5
           have hkn : (k3 : Int) < (m6 : Int) := by omega
           have hk0 : (0 : Int) ≤ (k3 : Int) := by omega
           have hNone : purposeP s m = none → numP s = none := fun hh => by
            unfold numP
            rw [HUP.out]
            simp only
            rw [HD0.out]
            simp only
            rw [HD1.out]
            simp only
            rw [HD2.out]
            simp only
            rw [allP_none (k := k3 + 1) (by have := HN6.out; omega) (allTo_no HTO3.out hm hh)]
           have hYes : ∀ x, purposeP s m = some x → allTo (fun _ => purposeP s) s.purposes (k3 + 1) = some (out3 ++ [x]) := fun x hx => allTo_yes HTO3.out hm hx
           have hset : ∀ x, (out3 ++ s.purposes.drop k3).set k3 x = (out3 ++ [x]) ++ s.purposes.drop (k3 + 1) := fun x => set_drop hlen hm
           have HN := Lib.hid (numberPurpose_any R wg.heap.size w6.heap.size w5.heap.size G _ _ k3 cg s m wr hstd.res (by omega) (by omega) hstd.size hog hil hrg)
           have HSD := Lib.hid hstd
           have HMK := Lib.hid hmk
           have HNONE := Lib.hid hNone
           have HYES := Lib.hid hYes
           have HSET := Lib.hid hset
           clear hst hstd hmk hNone hYes hset hog hrg hat hm hlen hv2 hnn hil
           go_wp2_with fail
           refine HN.out.mono ?_
           rintro e w' ⟨hg', hr⟩
           clear HN
           cases htp : purposeP s m with
           |
            none =>
            rw [htp] at hr
            subst hr
            have HF := Lib.hid (HSD.out.fall hg' (fun r e => by injection e; omega) hwl hlM hBl hDl)
            have HNO := Lib.hid (HNP.out (HNONE.out htp))
            clear htp hg' kb
            go_wp2
            refine res_panic HF.out (by omega) (by omega) (by omega) HNO.out (fun w'' _ _ _ _ _ _ _ => ?_)
            simp [results, Tryz.results65, go_sem, *]
           |
            some x =>
            rw [htp] at hr
            obtain ⟨rfl, hro⟩ := hr
            have hrow := HMK.out x w' hg' (by omega) (by omega) qPurposeR_mono hro
            rw [HSET.out] at hrow
            have HS' := Lib.hid (HSD.out.turn hg' (by omega) (by omega) hwl hBl hDl (.inl ⟨rfl, by omega⟩) (.inl ⟨rfl, by omega⟩) (.inl ⟨rfl, by omega⟩) (.inl ⟨rfl, by omega⟩) (.inr hrow) (by omega))
            have HY := Lib.hid (HYES.out x htp)
            clear htp hg' kb hro hrow
            go_wp2_with fail
            go_roundg (m6 - (k3 + 1))
            case measure => have := HQ3.out; omega
            case rel => exact ⟨k3 + 1, out3 ++ [x], by omega, rfl, by go_num, HY.out, HS'.out⟩
          ·
           have hke3 : k3 = s.purposes.length := by have := HN6.out; omega
           have HD3 : Hid (allP (fun _ => purposeP s) s.purposes = some out3) := Lib.hid (by unfold allP; rw [← hke3]; exact HTO3.out)
           have HL3 := Lib.hid (show out3.length = s.purposes.length by rw [allTo_len (by omega) HTO3.out, hke3])
           rw [hke3, List.drop_length, List.append_nil] at hst
           obtain ⟨pp, hov3⟩ : ∃ x, x = out3 := ⟨_, rfl⟩
           rw [← hov3] at hst HD3 HL3
           clear hov3 HTO3 HQ3 hke3
           have kb0 := hst.b0
           have kb1 := hst.b1
           have kb2 := hst.b2
           have kb3 := hst.b3
           have kb4 := hst.b4
           have kb5 := hst.b5
           have kd0 := hst.d0
           have kdz := hst.dz
           have kz0 := hst.bz 0
           have kz1 := hst.bz 1
           have kz2 := hst.bz 2
           have kz3 := hst.bz 3
           have kz4 := hst.bz 4
           have kz5 := hst.bz 5
           have HSF := Lib.hid hst
           clear hst
           go_wp2_with fail
           have e0 := setCell_same kb0
           have e1 := setCell_same kb1
           have e2 := setCell_same kb2
           have e3 := setCell_same kb3
           have e4 := setCell_same kb4
           have e5 := setCell_same kb5
           have e6 := setCell_same kd0
           rw [e0, e1, e2, e3, e4, e5, e6]
           clear e0 e1 e2 e3 e4 e5 e6
           refine leaves_cons (f := 115) (args := #[.pointer (some ⟨w.heap.size + 1, 0, none⟩), .pointer (some ⟨w.heap.size + 1 + 1, 0, none⟩)]) (by simp) (by simp [go_sem]) ?_
           refine (catch_idle ⟨w.heap.size + 1, 0, none⟩ ⟨w.heap.size + 1 + 1, 0, none⟩ _).mono ?_
           rintro e u' w'' ⟨rfl, rfl, rfl⟩
           have hN : numP s = some { s with units := us, schemas := ss, rules := rs, converts := cv, purposes := pp } := by
            unfold numP
            rw [HUP.out]
            simp only
            rw [HD0.out]
            simp only
            rw [HD1.out]
            simp only
            rw [HD2.out]
            simp only
            rw [HD3.out]
           have hP : resolveP s = (0, { s with units := us, schemas := ss, rules := rs, converts := cv, purposes := pp }) := by unfold resolveP; rw [if_neg (by rw [HTW.out]; simp), hN]
           refine ⟨.tuple #[.agg #[.slice B1 m1 d1, .slice B2 m2 d2, .slice B3 m3 d3, .slice B4 m4 d4, .slice B5 m5 d5, .slice B6 m6 d6], .int .i64 0], ?_, [.slice B1 m1 d1, .slice B2 m2 d2, .slice B3 m3 d3, .slice B4 m4 d4, .slice B5 m5 d5, .slice B6 m6 d6], by rw [hP], ?_, HSF.out.old⟩
           · simp [results, Tryz.results65, go_sem, *]
           ·
            rw [hP]
            exact ⟨B1, m1, d1, B2, m2, d2, B3, m3, d3, B4, m4, d4, B5, m5, d5, B6, m6, d6, rfl, ⟨HSF.out.r1.sl strR_unm, H1.out.2⟩, ⟨HSF.out.r2.sl qUnitR_unm, by have := H2.out.2; rw [HUL.out]; exact this⟩, ⟨HSF.out.r3.sl qSchemaR_unm, by have := H3.out.2; rw [HL0.out]; exact this⟩, ⟨HSF.out.r4.sl qRuleR_unm, by have := H4.out.2; rw [HL1.out]; exact this⟩, ⟨HSF.out.r5.sl qConvertR_unm, by have := H5.out.2; rw [HL2.out]; exact this⟩, ⟨HSF.out.r6.sl qPurposeR_unm, by have := H6.out.2; rw [HL3.out]; exact this⟩⟩
end Go.Proofs.YtkgmonplcdnnbaaGreat
