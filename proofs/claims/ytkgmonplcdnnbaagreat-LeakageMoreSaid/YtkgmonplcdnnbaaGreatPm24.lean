/- Contract of numberRule. -/
import Derived.Test.YtkgmonplcdnnbaaGreatPm23
namespace Go.Proofs.YtkgmonplcdnnbaaGreat
open Go.RowKit
theorem Tryz.infoInt : (Tryz.prog.info? 3).map (fun i => (i.zero, i.size, i.bytes)) = some (some (.int .i64 0), 1, 8) := by kernel_rfl
set_option maxHeartbeats 2000000 in
set_option maxRecDepth 100000 in
theorem numberSchema_any (R lo M base G n cap i mb : Nat) (cs : List Value) (s : QSource) (p : QSchema) (w : World) (hres : ResR (mask lo M w) R s) (hlo : lo ≤ G) (hGM : G < M) (hMw : M ≤ w.heap.size)
 (hmb : MapAt strW i64W (mask lo M w) mb (fieldMap p))
 (ho : w.ownsRow base 52 6 (.slice (some ⟨G, 0, none⟩) n cap) n cs) (hi : i < n) (hp : qSchemaR (mask lo M w) (chunk cs 6 i) p) :
 Calls Tryz.prog 123 #[.pointer (some ⟨R, 0, none⟩), .pointer (some ⟨G, i * 6, none⟩), .map (some mb)] w (RetElem 52 6 qSchemaR base G n cap i cs lo M (schemaP s p) w) := by
 obtain ⟨A1, n1, c1, A2, n2, c2, hch, hfl, hdp⟩ := hp
 have p1 := own_cell ho hi (by omega) hch (j := 1) rfl
 have p2 := own_cell ho hi (by omega) hch (j := 2) rfl
 have p4 := own_cell ho hi (by omega) hch (j := 4) rfl
 have f2 := ho.frozenAt (i * 6 + 2)
 have hGw : G < w.heap.size := by omega
 obtain ⟨b1, b2, b3, fA, fn, fc, hbR, hm1, hm2, hm3, hfs⟩ := hres.unm
 have r0 := hbR.cell 0
 have lR := hbR.lt
 simp only [List.getElem?_toArray, List.getElem?_cons_zero] at r0
 have hget := col_get s.issuers p.by_
 have HRES := Lib.hid hres
 have HO := Lib.hid ho
 have HCH := Lib.hid hch
 have HFL := Lib.hid hfl
 have HDP := Lib.hid hdp
 have HBF := Lib.hid hfl.2
 have HBD := Lib.hid hdp.2
 have HMB := Lib.hid hmb
 have HM1 := Lib.hid (hm1.same (w' := w.drew) rfl)
 clear hres ho hch hfl hdp hmb hbR hm1 hm2 hm3 hfs
 go_enter Tryz.func123, Tryz.ntmps123
 go_wp2_with fail
 cases hix : idx s.issuers p.by_ with
 |
  none =>
  rw [hix] at hget
  have HNO : Hid (RetElem 52 6 qSchemaR base G n cap i cs lo M (schemaP s p) w (.panicked nothingP) w.drew) :=
   retElem_no (by unfold schemaP; rw [hix]) (grown_drew (World.grownBy.refl _ _))
  have HGET := Lib.hid hget
  clear hix hget
  go_region_dies
  all_goals
   refine (find_no b1 _ _ _ HM1.out HGET.out).mono ?_
   rintro e w' ⟨rfl, rfl⟩
   exact ⟨rfl, HNO.out⟩
 |
  some a =>
  rw [hix] at hget
  have HIX := Lib.hid hix
  have HF := Lib.hid ((find_yes b1 _ _ (a : Int) w.drew HM1.out hget).mono (R' := fun e w' => e = .returned (.int .i64 a) ∧ w' = w.drew) (fun _ _ h => ⟨h.1, h.2.symm⟩))
  clear hix hget
  refine wp_region_still_tail 12 (by kernel_rfl) (by kernel_rfl) ?_
  simp only [List.take_succ_cons, List.take_zero, List.drop_succ_cons, List.drop_zero]
  repeat still_step
  still_call HF.out
  repeat still_step
  refine wpStill_nil ?_
  change wpList _ _ _ _ _ w.drew
  go_wp2_with fail
  have ho2 := (HO.out.stored (i * 6 + 2) (.int .i64 a)).1.drew
  have hga : w.grownBy (w.setCell ⟨G, i * 6 + 2, none⟩ (.int .i64 a)).drew (some G) := grown_drew (grown_near (World.grownBy.refl _ _) _ _)
  have hsza : (w.setCell ⟨G, i * 6 + 2, none⟩ (.int .i64 a)).drew.heap.size = w.heap.size := by simp [World.setCell]
  have hcha : chunk (cs.set (i * 6 + 2) (.int .i64 a)) 6 i = [.string p.name, .string p.by_, .int .i64 a, .int .i64 p.version, .slice A1 n1 c1, .slice A2 n2 c2] := by
   rw [chunk_set _ (by omega), HCH.out]; rfl
  have hoth : ∀ j, j ≠ i → chunk (cs.set (i * 6 + 2) (.int .i64 a)) 6 j = chunk cs 6 j := fun j hj => by rw [chunk_other _ (by omega) hj]
  generalize (w.setCell ⟨G, i * 6 + 2, none⟩ (.int .i64 a)).drew = wa at ho2 hga hsza ⊢
  generalize cs.set (i * 6 + 2) (.int .i64 a) = ca at ho2 hcha hoth
  have hfw : SlB 11 120 (fun _ => qFieldR (mask lo M wa)) wa (.slice A1 n1 c1) p.fields := ⟨(HFL.out.mono qFieldR_mono (mask_below hga hlo hGM)).1.unm_fix, HFL.out.2⟩
  have hGa : G < wa.heap.size := by rw [hsza]; exact hGw
  have HOA := Lib.hid ho2
  have HGA := Lib.hid hga
  have HCHA := Lib.hid hcha
  have HOTH := Lib.hid hoth
  have HSZ := Lib.hid hsza
  clear ho2 hga hcha hoth hsza p1 p2 p4 f2 r0 lR HF HM1 HO HCH
  refine (cloneField_g (fun _ => qFieldR_one _) A1 n1 c1 p.fields _ hfw).mono ?_
  rintro e w1 ⟨v, cs1, rfl, hcs1, ho1, hb1⟩
  obtain ⟨vA, vn, vc, rfl, hvn⟩ := own_form' ho1
  have p4 := own_cell HOA.out hi (by omega) HCHA.out (j := 4) rfl
  have q1 : w1.cell? ⟨G, i * 6 + 4, none⟩ = some (.slice A1 n1 c1) := ((bcell hb1).1 _ _ hGa).trans p4
  have hf1 : w1.frozen? ⟨G, i * 6 + 4, none⟩ = false := ((bcell hb1).2 _ _ hGa).trans (HOA.out.frozenAt _)
  have hG1 : G < w1.heap.size := Nat.lt_of_lt_of_le hGa hb1.size
  have HO1 := Lib.hid ho1
  have HC1 : Hid (CellsR 11 qFieldR (mask lo M wa) cs1 p.fields) := Lib.hid ⟨hcs1.1, hcs1.2⟩
  have HB1 := Lib.hid hb1
  have HVN := Lib.hid hvn
  clear ho1 hcs1 hb1 p4 hfw hvn
  go_wp2_with fail
  have ho2 : (w1.setCell ⟨G, i * 6 + 4, none⟩ (.slice vA vn vc)).ownsRow base 52 6 (.slice (some ⟨G, 0, none⟩) n cap) n (ca.set (i * 6 + 4) (.slice vA vn vc)) := ((own_below0 HOA.out HB1.out).stored (i * 6 + 4) (.slice vA vn vc)).1
  have hi2 : (w1.setCell ⟨G, i * 6 + 4, none⟩ (.slice vA vn vc)).ownsRow wa.heap.size 58 11 (.slice vA vn vc) p.fields.length cs1 := own_far HO1.out (by simpa using hGa) _
  have hg2 : w.grownBy (w1.setCell ⟨G, i * 6 + 4, none⟩ (.slice vA vn vc)) (some G) := grown_near (grown_trans HGA.out (grown_of_below HB1.out _)) _ _
  have hcb : chunk (ca.set (i * 6 + 4) (.slice vA vn vc)) 6 i = [.string p.name, .string p.by_, .int .i64 a, .int .i64 p.version, .slice vA vn vc, .slice A2 n2 c2] := by
   rw [chunk_set _ (by omega), HCHA.out]; rfl
  have hotb : ∀ j, j ≠ i → chunk (ca.set (i * 6 + 4) (.slice vA vn vc)) 6 j = chunk cs 6 j := fun j hj => by rw [chunk_other _ (by omega) hj]; exact HOTH.out j hj
  generalize w1.setCell ⟨G, i * 6 + 4, none⟩ (.slice vA vn vc) = w2 at ho2 hi2 hg2 ⊢
  generalize ca.set (i * 6 + 4) (.slice vA vn vc) = cb at ho2 hcb hotb
  have HO2 := Lib.hid ho2
  have HI2 := Lib.hid hi2
  have HG2 := Lib.hid hg2
  have HCB := Lib.hid hcb
  have HOTB := Lib.hid hotb
  clear ho2 hi2 hg2 hcb hotb q1 hf1 hG1 HO1 HB1 HOTH HCHA HOA
  go_loopg [37] vn (fun q j wr => ∃ (k : Nat) (out : List QField) (cr : List Value), k ≤ vn ∧ q = vn - k ∧ j = .int .i64 k ∧ allTo (fun _ => fieldStep s) p.fields k = some out ∧ w.grownBy wr (some G) ∧ wr.ownsRow base 52 6 (.slice (some ⟨G, 0, none⟩) n cap) n cb ∧
   wr.ownsRow wa.heap.size 58 11 (.slice vA vn vc) p.fields.length cr ∧ CellsR 11 qFieldR (mask lo M wa) cr (out ++ p.fields.drop k))
  case atStart => exact ⟨0, [], cs1, Nat.zero_le _, rfl, rfl, rfl, HG2.out, HO2.out, HI2.out, HC1.out⟩
  case round =>
   clear HO2 HI2 HG2 HC1
   obtain ⟨k, out, cr, hk, hq, rfl, hto, hgr, hog, hoh, hcr⟩ := hrel
   have HQ := Lib.hid hq
   have HTO := Lib.hid hto
   clear hq hto
   by_cases hlt : k < vn
   ·
    rcases own_row hoh with ⟨h, h0⟩ | ⟨H, hcap, h, hH, hHw, hn2⟩
    · exfalso; injection h with _ h; omega
    injection h with h1 h2 h3
    subst h1 h3
    clear h2
    have hvn2 : vn ≤ 9223372036854775807 := by have := HVN.out; omega
    have hHw2 : w.heap.size ≤ H := by have := HSZ.out; omega
    obtain ⟨m, hm⟩ : ∃ m, p.fields[k]? = some m := ⟨p.fields[k]'(by have := HVN.out; omega), List.getElem?_eq_getElem _⟩
    have hlen := allTo_len (by have := HVN.out; omega) HTO.out
    have hat : (out ++ p.fields.drop k)[k]? = some m := by
     rw [List.getElem?_append_right (by omega), List.getElem?_drop, hlen]
     simpa using hm
    obtain ⟨B1, m1, d1, hch, hnm⟩ := hcr.chunk hat
    have hoh' : wr.ownsRow wa.heap.size 58 11 (.slice (some ⟨H, 0, none⟩) vn vc) vn cr := by have := HVN.out; rw [this] at hoh ⊢; exact hoh
    have e1 := own_cell hoh' hlt (by omega) hch (j := 1) rfl
    have e4 := own_cell hoh' hlt (by omega) hch (j := 4) rfl
    have e5 := own_cell hoh' hlt (by omega) hch (j := 5) rfl
    have f5 := hoh'.frozenAt (k * 11 + 5)
    have g4 := own_cell hog hi (by omega) HCB.out (j := 4) rfl
    have HGR := Lib.hid hgr
    have HOG := Lib.hid hog
    have HOH := Lib.hid hoh'
    have HCR := Lib.hid hcr
    have HM := Lib.hid hm
    have HLEN := Lib.hid hlen
    have HAT := Lib.hid hat
    clear hgr hog hoh hoh' hcr hm hlen hat hch hnm
    have hkn : (k : Int) < (vn : Int) := by omega
    have hk0 : (0 : Int) ≤ (k : Int) := by omega
    have hput : CellsR 11 qFieldR (mask lo M wa) (cr.set (k * 11 + 5) (.int .i64 (-1))) ((out ++ p.fields.drop k).set k { m with type := { m.type with unit := -1 } }) := field_put HCR.out HAT.out (-1)
    have hoq := (HOH.out.stored (k * 11 + 5) (.int .i64 (-1))).1
    have hgq : w.grownBy (wr.setCell ⟨H, k * 11 + 5, none⟩ (.int .i64 (-1))) (some G) := grown_far HGR.out (by simpa using hHw2) _
    have hogq := own_ne HOG.out (p := ⟨H, k * 11 + 5, none⟩) (by simp; omega) (.int .i64 (-1))
    have HPUT := Lib.hid hput
    have HOQ := Lib.hid hoq
    have HGQ := Lib.hid hgq
    have HOGQ := Lib.hid hogq
    clear hput hoq hgq hogq
    by_cases hkd : m.type.kind = 1 ∧ m.type.of_ ≠ noStr
    ·
     obtain ⟨hk1, hof⟩ := hkd
     have t1 : m.type.of_.toList.isEmpty = false := noStr_ne hof
     have t2 : ¬ m.type.of_.toList = [] := by intro e; rw [e] at t1; cases t1
     have HKD := Lib.hid (show m.type.kind = 1 ∧ m.type.of_ ≠ noStr from ⟨hk1, hof⟩)
     clear hof
     go_upto_region 8 with fail
     have HB := Lib.hid (HRES.out.below (mask_below HGQ.out hlo hGM)).unm
     generalize wr.setCell ⟨H, k * 11 + 5, none⟩ (.int .i64 (-1)) = wq at HOQ HGQ HOGQ HB ⊢
     have hkl : k < (out ++ p.fields.drop k).length := (List.getElem?_eq_some_iff.1 HAT.out).1
     have hatk : ((out ++ p.fields.drop k).set k { m with type := { m.type with unit := -1 } })[k]? = some { m with type := { m.type with unit := -1 } } := List.getElem?_set_self hkl
     obtain ⟨B2, m2, d2, hck, hnm⟩ := HPUT.out.chunk hatk
     have d4 := own_cell HOQ.out hlt (by omega) hck (j := 4) rfl
     have d5 := own_cell HOQ.out hlt (by omega) hck (j := 5) rfl
     have fd5 := HOQ.out.frozenAt (k * 11 + 5)
     obtain ⟨b1', b2', b3', fA', fn', fc', hbR', _, hm2', _, _⟩ := HB.out
     have s1 := hbR'.cell 1
     have lR' := hbR'.lt
     simp only [List.getElem?_toArray, List.getElem?_cons_zero, List.getElem?_cons_succ] at s1
     have hget := col_get (unitNames s) m.type.of_
     have HM2 := Lib.hid (hm2'.same (w' := wq.drew) rfl)
     have HATK := Lib.hid hatk
     clear hbR' hm2' hkl hatk hck hnm HB e1 e4 e5 f5 g4
     cases hix : idx (unitNames s) m.type.of_ with
     |
      none =>
      rw [hix] at hget
      have HNO : Hid (RetElem 52 6 qSchemaR base G n cap i cs lo M (schemaP s p) w (.panicked nothingP) wq.drew) := by
       refine retElem_no ?_ (grown_drew HGQ.out)
       unfold schemaP
       rw [HIX.out]
       simp only
       rw [allP_none (k := k + 1) (by have := HVN.out; omega) (allTo_no HTO.out HM.out (by unfold fieldStep; rw [if_pos HKD.out, hix]; rfl))]
      have HGET := Lib.hid hget
      clear hix hget
      go_region_dies
      all_goals
       refine (find_no b2' _ _ _ HM2.out HGET.out).mono ?_
       rintro e w' ⟨rfl, rfl⟩
       exact ⟨rfl, HNO.out⟩
     |
      some f =>
      rw [hix] at hget
      have HST : Hid (fieldStep s m = some { m with type := { m.type with unit := (f : Int) } }) := Lib.hid (by unfold fieldStep; rw [if_pos HKD.out, hix]; rfl)
      have HF := Lib.hid ((find_yes b2' _ _ (f : Int) wq.drew HM2.out hget).mono (R' := fun e w' => e = .returned (.int .i64 f) ∧ w' = wq.drew) (fun _ _ h => ⟨h.1, h.2.symm⟩))
      clear hix hget
      refine wp_region_still_tail 12 (by kernel_rfl) (by kernel_rfl) ?_
      simp only [List.take_succ_cons, List.take_zero, List.drop_succ_cons, List.drop_zero]
      repeat still_step
      still_call HF.out
      repeat still_step
      refine wpStill_nil ?_
      change wpList _ _ _ _ _ wq.drew
      go_wp2_with fail
      go_roundg (vn - (k + 1))
      case measure => have := HQ.out; omega
      case rel =>
       have ho3 := (HOQ.out.drew.stored (k * 11 + 5) (.int .i64 f)).1
       have hc3 := field_put HPUT.out HATK.out (f : Int)
       rw [List.set_set, List.set_set] at hc3
       refine ⟨k + 1, _, _, by omega, rfl, by go_num, allTo_yes HTO.out HM.out HST.out, grown_far (grown_drew HGQ.out) (by simpa using hHw2) _, own_ne HOGQ.out.drew (by simp; omega) _, ?_, by rw [← set_drop HLEN.out HM.out]; exact hc3⟩
       rw [List.set_set] at ho3
       have := HVN.out; rw [this] at ho3 ⊢; exact ho3
    ·
     have HST : Hid (fieldStep s m = some { m with type := { m.type with unit := -1 } }) := Lib.hid (by unfold fieldStep; rw [if_neg hkd])
     by_cases hk1 : m.type.kind = 1
     ·
      have hof : m.type.of_ = noStr := Decidable.byContradiction fun h => hkd ⟨hk1, h⟩
      have t1 : m.type.of_.toList.isEmpty = true := by rw [hof, noStr_list]; rfl
      have t2 : m.type.of_.toList = [] := by rw [hof, noStr_list]
      clear hof hkd
      go_wp2_with fail
      go_roundg (vn - (k + 1))
      case measure => have := HQ.out; omega
      case rel =>
       refine ⟨k + 1, _, _, by omega, rfl, by go_num, allTo_yes HTO.out HM.out HST.out, HGQ.out, HOGQ.out, ?_, by rw [← set_drop HLEN.out HM.out]; exact HPUT.out⟩
       have := HVN.out; have h3 := HOQ.out; rw [this] at h3 ⊢; exact h3
     ·
      have t0 : decide (m.type.kind = 1) = false := by simpa using hk1
      clear hkd
      go_wp2_with fail
      go_roundg (vn - (k + 1))
      case measure => have := HQ.out; omega
      case rel =>
       refine ⟨k + 1, _, _, by omega, rfl, by go_num, allTo_yes HTO.out HM.out HST.out, HGQ.out, HOGQ.out, ?_, by rw [← set_drop HLEN.out HM.out]; exact HPUT.out⟩
       have := HVN.out; have h3 := HOQ.out; rw [this] at h3 ⊢; exact h3
   ·
    have hke : k = p.fields.length := by have := HVN.out; omega
    have hcf : CellsR 11 qFieldR (mask lo M wa) cr out := by rw [hke, List.drop_length, List.append_nil] at hcr; exact hcr
    have HFS : Hid (allP (fun _ => fieldStep s) p.fields = some out) := Lib.hid (by unfold allP; rw [← hke]; exact HTO.out)
    obtain ⟨wz, rfl⟩ : ∃ x, x = wr := ⟨_, rfl⟩
    have hdw : SlB 4 72 (fun _ => qDepR (mask lo M wz)) wz (.slice A2 n2 c2) p.deps := ⟨(HDP.out.mono qDepR_mono (mask_below hgr hlo hGM)).1.unm_fix, HDP.out.2⟩
    have g5 := own_cell hog hi (by omega) HCB.out (j := 5) rfl
    have hGz : G < wz.heap.size := Nat.lt_of_lt_of_le hGw hgr.size
    have HGR := Lib.hid hgr
    have HOG := Lib.hid hog
    have HOH := Lib.hid hoh
    have HCF := Lib.hid hcf
    have HOL := Lib.hid (allTo_len (by omega) HTO.out)
    clear hgr hog hoh hcr hcf HTO HQ
    go_wp2_with fail
    refine (cloneDep_g (fun _ => qDepR_one _) A2 n2 c2 p.deps _ hdw).mono ?_
    rintro e w3 ⟨v, cs3, rfl, hcs3, ho3, hb3⟩
    obtain ⟨xA, xn, xc, rfl, hxn⟩ := own_form' ho3
    have q5 : w3.cell? ⟨G, i * 6 + 5, none⟩ = some (.slice A2 n2 c2) := ((bcell hb3).1 _ _ hGz).trans g5
    have hf5 : w3.frozen? ⟨G, i * 6 + 5, none⟩ = false := ((bcell hb3).2 _ _ hGz).trans (HOG.out.frozenAt _)
    have hG3 : G < w3.heap.size := Nat.lt_of_lt_of_le hGz hb3.size
    have HO3 := Lib.hid ho3
    have HC3 : Hid (CellsR 4 qDepR (mask lo M wz) cs3 p.deps) := Lib.hid ⟨hcs3.1, hcs3.2⟩
    have HB3 := Lib.hid hb3
    have HXN := Lib.hid hxn
    clear ho3 hcs3 hb3 g5 hdw hxn
    go_wp2_with fail
    have hog4 : (w3.setCell ⟨G, i * 6 + 5, none⟩ (.slice xA xn xc)).ownsRow base 52 6 (.slice (some ⟨G, 0, none⟩) n cap) n (cb.set (i * 6 + 5) (.slice xA xn xc)) := ((own_below0 HOG.out HB3.out).stored (i * 6 + 5) (.slice xA xn xc)).1
    have hfr4 : (w3.setCell ⟨G, i * 6 + 5, none⟩ (.slice xA xn xc)).ownsRow wa.heap.size 58 11 (.slice vA vn vc) p.fields.length cr := own_far (own_below0 HOH.out HB3.out) (by simpa using hGa) _
    have hdr4 : (w3.setCell ⟨G, i * 6 + 5, none⟩ (.slice xA xn xc)).ownsRow wz.heap.size 75 4 (.slice xA xn xc) p.deps.length cs3 := own_far HO3.out (by simpa using hGz) _
    have hgz4 : wz.grownBy (w3.setCell ⟨G, i * 6 + 5, none⟩ (.slice xA xn xc)) (some G) := grown_near (grown_of_below HB3.out _) _ _
    have hg4 : w.grownBy (w3.setCell ⟨G, i * 6 + 5, none⟩ (.slice xA xn xc)) (some G) := grown_trans HGR.out hgz4
    have hcc : chunk (cb.set (i * 6 + 5) (.slice xA xn xc)) 6 i = [.string p.name, .string p.by_, .int .i64 a, .int .i64 p.version, .slice vA vn vc, .slice xA xn xc] := by
     rw [chunk_set _ (by omega), HCB.out]; rfl
    have hotc : ∀ j, j ≠ i → chunk (cb.set (i * 6 + 5) (.slice xA xn xc)) 6 j = chunk cs 6 j := fun j hj => by rw [chunk_other _ (by omega) hj]; exact HOTB.out j hj
    have hfb : ∀ r, (Value.slice vA vn vc).ownBlock = some r → r < wz.heap.size := fun r e => (HOH.out.lt r e).2
    generalize w3.setCell ⟨G, i * 6 + 5, none⟩ (.slice xA xn xc) = w4 at hog4 hfr4 hdr4 hgz4 hg4 ⊢
    generalize cb.set (i * 6 + 5) (.slice xA xn xc) = cc at hog4 hcc hotc
    have hc4 : CellsR 4 qDepR (hideV (.slice xA xn xc) (mask lo M w4)) cs3 p.deps :=
     HC3.out.mono qDepR_mono (hideV_old (mask_below hgz4 hlo hGM) (fun H e => by rw [mask_size]; exact (hdr4.lt H e).1))
    have HOG4 := Lib.hid hog4
    have HFR4 := Lib.hid hfr4
    have HDR4 := Lib.hid hdr4
    have HG4 := Lib.hid hg4
    have HCC := Lib.hid hcc
    have HOTC := Lib.hid hotc
    have HFB := Lib.hid hfb
    have HC4 := Lib.hid hc4
    have hwz : w.heap.size ≤ wz.heap.size := HGR.out.size
    have HZ4 := Lib.hid hgz4.size
    clear hog4 hfr4 hdr4 hgz4 hg4 hcc hotc hfb hc4 q5 hf5 hG3 HO3 HC3 HB3 HOG HOH HCB HOTB HDP HFL HGR
    go_loopg [88] xn (fun q j wr => ∃ (k : Nat) (ou : List QDep) (cd : List Value), k ≤ xn ∧ q = xn - k ∧ j = .int .i64 k ∧ allTo (fun _ => depStep p) p.deps k = some ou ∧ w.grownBy wr (some G) ∧ wz.heap.size ≤ wr.heap.size ∧ wr.ownsRow base 52 6 (.slice (some ⟨G, 0, none⟩) n cap) n cc ∧
     wr.ownsRow wa.heap.size 58 11 (.slice vA vn vc) p.fields.length cr ∧ wr.ownsRow wz.heap.size 75 4 (.slice xA xn xc) p.deps.length cd ∧ CellsR 4 qDepR (hideV (.slice xA xn xc) (mask lo M wr)) cd (ou ++ p.deps.drop k))
    case atStart => exact ⟨0, [], cs3, Nat.zero_le _, rfl, rfl, rfl, HG4.out, HZ4.out, HOG4.out, HFR4.out, HDR4.out, HC4.out⟩
    case round =>
     clear HOG4 HFR4 HDR4 HG4 HC4
     obtain ⟨k', ou, cd, hk', hq', rfl, hto', hgr, hzr, hog, hof, hod, hcd⟩ := hrel
     have HQ := Lib.hid hq'
     have HTO := Lib.hid hto'
     clear hq' hto'
     by_cases hlt' : k' < xn
     ·
      rcases own_row hod with ⟨h, h0⟩ | ⟨H, hcap, h, hH, hHw, hn2⟩
      · exfalso; injection h with _ h; omega
      injection h with h1 h2 h3
      subst h1 h3
      clear h2
      have hxn2 : xn ≤ 9223372036854775807 := by have := HXN.out; omega
      have hHw2 : w.heap.size ≤ H := by omega
      obtain ⟨d, hd⟩ : ∃ m, p.deps[k']? = some m := ⟨p.deps[k']'(by have := HXN.out; omega), List.getElem?_eq_getElem _⟩
      have hlen := allTo_len (by have := HXN.out; omega) HTO.out
      have hat : (ou ++ p.deps.drop k')[k']? = some d := by
       rw [List.getElem?_append_right (by omega), List.getElem?_drop, hlen]
       simpa using hd
      obtain ⟨B1, m1, d1, B2, m2, d2, hch, hnm, hsrc⟩ := hcd.chunk hat
      have hod' : wr.ownsRow wz.heap.size 75 4 (.slice (some ⟨H, 0, none⟩) xn xc) xn cd := by have := HXN.out; rw [this] at hod ⊢; exact hod
      have e0 := own_cell hod' hlt' (by omega) hch (j := 0) rfl
      simp only [Nat.add_zero] at e0
      have e2 := own_cell hod' hlt' (by omega) hch (j := 2) rfl
      have f2 := hod'.frozenAt (k' * 4 + 2)
      have g5 := own_cell hog hi (by omega) HCC.out (j := 5) rfl
      have hnl := hnm.1.len
      have hod1 := (hod'.stored (k' * 4 + 2) (.slice none 0 0)).1
      have hgr1 : wr.grownBy (wr.setCell ⟨H, k' * 4 + 2, none⟩ (.slice none 0 0)) (some H) := grown_near (World.grownBy.refl _ _) _ _
      obtain ⟨wy, rfl⟩ : ∃ x, x = wr := ⟨_, rfl⟩
      have HGR := Lib.hid hgr
      have HOG := Lib.hid hog
      have HOF := Lib.hid hof
      have HOD := Lib.hid hod'
      have HCD := Lib.hid hcd
      have HD := Lib.hid hd
      have HLEN := Lib.hid hlen
      have HAT := Lib.hid hat
      have HCH := Lib.hid hch
      have HNM := Lib.hid hnm
      have HNL := Lib.hid hnl
      have HOD1 := Lib.hid hod1
      have HGR1 := Lib.hid hgr1
      clear hgr hog hof hod hod' hcd hd hlen hat hch hnm hsrc hnl hod1 hgr1
      have hkn : (k' : Int) < (xn : Int) := by omega
      have hk0 : (0 : Int) ≤ (k' : Int) := by omega
      go_wp2_with fail
      go_loopg [105] m1 (fun q j wr => ∃ (k2 : Nat) (o3 : List Int) (fA : Option Addr) (fn fc : Nat), k2 ≤ m1 ∧ q = m1 - k2 ∧ j = .int .i64 k2 ∧ allTo (fun _ => idxI (fieldNames p)) d.names k2 = some o3 ∧ wy.grownBy wr (some H) ∧
       wr.ownsRow wz.heap.size 75 4 (.slice (some ⟨H, 0, none⟩) xn xc) xn (cd.set (k' * 4 + 2) (.slice fA fn fc)) ∧ wr.ownsRow wy.heap.size 3 1 (.slice fA fn fc) k2 (o3.map i64W))
      case atStart => exact ⟨0, [], none, 0, 0, Nat.zero_le _, rfl, rfl, rfl, HGR1.out, HOD1.out, World.ownsRow_nil _ _ _ _⟩
      case round =>
       clear HOD1 HGR1 e0 e2 f2 g5
       obtain ⟨k2, o3, fA', fn', fc', hk2, hq2, rfl, hto2, hgi, hodi, hofi⟩ := hrel
       have HQ2 := Lib.hid hq2
       have HTO2 := Lib.hid hto2
       clear hq2 hto2
       have hwi : w.grownBy wr (some G) := grown_mid HGR.out hgi hHw2
       have hHy : H < wy.heap.size := hHw
       have hHi : H < wr.heap.size := Nat.lt_of_lt_of_le hHy hgi.size
       have hchi : chunk (cd.set (k' * 4 + 2) (.slice fA' fn' fc')) 4 k' = [.slice B1 m1 d1, .string d.name, .slice fA' fn' fc', .int .i64 d.dst] := by rw [chunk_set _ (by omega), HCH.out]; rfl
       have i1 := own_cell hodi hlt' (by omega) hchi (j := 1) rfl
       have i2 := own_cell hodi hlt' (by omega) hchi (j := 2) rfl
       have i3 := own_cell hodi hlt' (by omega) hchi (j := 3) rfl
       have fi2 := hodi.frozenAt (k' * 4 + 2)
       have fi3 := hodi.frozenAt (k' * 4 + 3)
       have hmi := mask_map (HMB.out.below (mask_below hwi hlo hGM))
       have HMI := Lib.hid (hmi.same (w' := wr.drew) rfl)
       have HMJ := Lib.hid hmi
       have HWI := Lib.hid hwi
       have HGI := Lib.hid hgi
       have HODI := Lib.hid hodi
       have HOFI := Lib.hid hofi
       clear hmi hwi hgi hodi hofi hchi
       by_cases hlt2 : k2 < m1
       ·
        obtain ⟨nb, noff, nm, rfl, hnb, hnk, hnc⟩ := str_at ((hideV_sl (v := .slice (some ⟨H, 0, none⟩) xn xc) strR_unm (HNM.out.1.mono strR_mono (hideV_below (mask_grown HGI.out)))).unm strR_unm) hlt2
        have hget := col_get (fieldNames p) nm
        have hkn2 : (k2 : Int) < (m1 : Int) := by omega
        have hk02 : (0 : Int) ≤ (k2 : Int) := by omega
        have hm12 : m1 * 16 ≤ 140737488355328 := by rw [HNL.out]; exact HNM.out.2
        have HNK := Lib.hid hnk
        clear hnk
        go_wp2_with fail
        cases hix : idx (fieldNames p) nm with
        |
         none =>
         rw [hix] at hget
         have HNO : Hid (RetElem 52 6 qSchemaR base G n cap i cs lo M (schemaP s p) w (.panicked nothingP) wr.drew) := by
          refine retElem_no ?_ (grown_drew HWI.out)
          unfold schemaP
          rw [HIX.out]
          simp only
          rw [HFS.out]
          simp only
          rw [allP_none (k := k' + 1) (by have := HXN.out; omega) (allTo_no HTO.out HD.out (by
           unfold depStep
           rw [allP_none (k := k2 + 1) (by have := HNL.out; omega) (allTo_no HTO2.out HNK.out (by unfold idxI; rw [hix]; rfl))]))]
         have HGET := Lib.hid hget
         clear hix hget
         go_region_dies
         all_goals
          refine (find_no mb _ _ _ HMI.out HGET.out).mono ?_
          rintro e w' ⟨rfl, rfl⟩
          exact ⟨rfl, HNO.out⟩
        |
         some f =>
         rw [hix] at hget
         have HIF : Hid (idxI (fieldNames p) nm = some (f : Int)) := Lib.hid (by unfold idxI; rw [hix]; rfl)
         have HF := Lib.hid ((find_yes mb _ _ (f : Int) wr.drew HMI.out hget).mono (R' := fun e w' => e = .returned (.int .i64 f) ∧ w' = wr.drew) (fun _ _ h => ⟨h.1, h.2.symm⟩))
         clear hix hget
         obtain ⟨i0, hi0, hz0, hz1, hz2⟩ := info_parts Tryz.infoInt
         have hyr : wy.heap.size ≤ wr.heap.size := HGI.out.size
         go_region_law (first
          | (
           refine step_append_own_at _ (by rfl) (.tmp 113) (.tmp 117) 30 (by rfl) wy.heap.size 3 i0 (.int .i64 0) 1 8 Tryz.underlying30 hi0 hz0 hz1 hz2 rfl (by decide) (.slice fA' fn' fc') k2 (o3.map i64W) (by rfl) (HOFI.out.drew.alloc _) ⟨wr.heap.size, 0, none⟩ 1 1 [.int .i64 f] (by rfl) rfl (cell_one_new _ _ _) (by simp [Value.oneCell']) (by unfold maxLen; omega) (by omega) (by simp; omega) ?_
           intro v' w5 hown' hgrow hat'
           obtain ⟨zA, zn, zc, rfl, hzn⟩ := own_form' hown'
           have hod5 := (HODI.out.drew.alloc (.cells #[.int .i64 f] 3)).kept hgrow (.inr (fun e => own_apart HOFI.out hHy e.symm))
           have hgy5 : wy.grownBy w5 (some H) := grown_own (grown_alloc0 (grown_drew HGI.out) _) hgrow (fun r e => (HOFI.out.lt r e).1)
           have hch5 : chunk (cd.set (k' * 4 + 2) (.slice fA' fn' fc')) 4 k' = [.slice (some ⟨nb, noff, none⟩) m1 d1, .string d.name, .slice fA' fn' fc', .int .i64 d.dst] := by rw [chunk_set _ (by omega), HCH.out]; rfl
           have j2 := own_cell hod5 hlt' (by omega) hch5 (j := 2) rfl
           have fj2 := hod5.frozenAt (k' * 4 + 2)
           have HOD5 := Lib.hid hod5
           have HGY5 := Lib.hid hgy5
           have HOW5 := Lib.hid hown'
           clear hod5 hgy5 hown' hgrow hat' hch5 hzn)
          | (refine step_call_still (by rfl) 189 #[.map (some mb), .string nm] (by go_simp) HF.out ?_))
         all_goals
          go_wp2_with fail
          go_roundg (m1 - (k2 + 1))
          case measure => have := HQ2.out; omega
          case rel =>
           have ho6 := (HOD5.out.stored (k' * 4 + 2) (.slice zA zn zc)).1
           rw [List.set_set] at ho6
           refine ⟨k2 + 1, o3 ++ [(f : Int)], zA, zn, zc, by omega, rfl, by go_num, allTo_yes HTO2.out HNK.out HIF.out, grown_near HGY5.out _ _, ho6, ?_⟩
           have := own_far HOW5.out (p := ⟨H, k' * 4 + 2, none⟩) (by simpa using hHy) (.slice zA zn zc)
           rw [List.map_append]
           exact this
       ·
        have hke2 : k2 = d.names.length := by have := HNL.out; omega
        have HSRC : Hid (allP (fun _ => idxI (fieldNames p)) d.names = some o3) := Lib.hid (by unfold allP; rw [← hke2]; exact HTO2.out)
        have hget := col_get (fieldNames p) d.name
        go_wp2_with fail
        cases hix : idx (fieldNames p) d.name with
        |
         none =>
         rw [hix] at hget
         have HNO : Hid (RetElem 52 6 qSchemaR base G n cap i cs lo M (schemaP s p) w (.panicked nothingP) wr) := by
          refine retElem_no ?_ HWI.out
          unfold schemaP
          rw [HIX.out]
          simp only
          rw [HFS.out]
          simp only
          rw [allP_none (k := k' + 1) (by have := HXN.out; omega) (allTo_no HTO.out HD.out (by
           unfold depStep idxI
           rw [hix]
           cases allP (fun _ x => Option.map (fun n : Nat => (n : Int)) (idx (fieldNames p) x)) d.names <;> rfl))]
         refine (find_no mb _ _ wr HMJ.out hget).mono ?_
         rintro e w' ⟨rfl, rfl⟩
         clear hix hget
         go_wp2
         exact ⟨rfl, HNO.out⟩
        |
         some f =>
         rw [hix] at hget
         have HDS : Hid (depStep p d = some { d with src := o3, dst := (f : Int) }) := Lib.hid (by
          unfold depStep
          rw [HSRC.out]
          unfold idxI
          rw [hix]; rfl)
         refine (find_yes mb _ _ (f : Int) wr HMJ.out hget).mono ?_
         rintro e w' ⟨rfl, rfl⟩
         clear hix hget
         go_wp2_with fail
         go_roundg (xn - (k' + 1))
         case measure => have := HQ.out; omega
         case rel =>
          have hHy : H < wy.heap.size := hHw
          have ho6 := (HODI.out.stored (k' * 4 + 3) (.int .i64 f)).1
          have hgn : wy.grownBy (wr.setCell ⟨H, k' * 4 + 3, none⟩ (.int .i64 f)) (some H) := grown_near HGI.out _ _
          have hfb := HFB.out
          refine ⟨k' + 1, ou ++ [{ d with src := o3, dst := (f : Int) }], (cd.set (k' * 4 + 2) (.slice fA' fn' fc')).set (k' * 4 + 3) (.int .i64 f), by omega, rfl, by go_num, allTo_yes HTO.out HD.out HDS.out, grown_far HWI.out (by simpa using hHw2) _, by have := HGI.out.size; simp [World.setCell]; omega, own_ne (HOG.out.kept HGI.out (.inr (by simp [Value.ownBlock]; omega))) (by simp; omega) _, own_set (HOF.out.kept HGI.out (.inr (fun e => by have := hfb _ e; omega))) (fun e => by have := hfb _ e; simp at this; omega) _, ?_, ?_⟩
          · have := HXN.out; rw [this] at ho6 ⊢; exact ho6
          ·
           have hsl : SlB 1 8 iR (hideV (.slice (some ⟨H, 0, none⟩) xn xc) (mask lo M (wr.setCell ⟨H, k' * 4 + 3, none⟩ (.int .i64 f)))) (.slice fA' fn' fc') o3 := by
            have hl3 := allTo_len (by omega) HTO2.out
            refine ⟨slR_of_row (hideV_own (mask_own (own_far HOFI.out (p := ⟨H, k' * 4 + 3, none⟩) (by simpa using hHy) (.int .i64 f)) (by omega)) (fun H' e => by simp [Value.ownBlock] at e; omega)) (cellsI _ _) (by rw [hl3]), ?_⟩
            have := HNM.out.2
            rw [hl3, hke2]; omega
           have hc6 := dep_put3 (dep_put2 (HCD.out.mono qDepR_mono (hideV_below (mask_grown hgn))) HAT.out rfl hsl) (List.getElem?_set_self (List.getElem?_eq_some_iff.1 HAT.out).1) (f : Int)
           rw [List.set_set] at hc6
           rw [← set_drop HLEN.out HD.out]
           exact hc6
     ·
      have hke' : k' = p.deps.length := by have := HXN.out; omega
      go_wp2_with fail
      go_end0
      have hP : schemaP s p = some { p with issuer := (a : Int), fields := out, deps := ou } := by
       unfold schemaP
       rw [HIX.out]
       simp only
       rw [HFS.out]
       simp only
       unfold allP
       rw [← hke', HTO.out]
      have hwa : wa.grownBy wr (some G) := grown_back HGA.out hgr HSZ.out
      refine retElem_yes hP hgr hog HOTC.out ⟨vA, vn, vc, xA, xn, xc, HCC.out, ⟨slR_of_row (mask_own hof (by rw [HSZ.out]; exact hMw)) (HCF.out.mono qFieldR_mono (mask_below hwa hlo hGM)) (by rw [HOL.out, hke]), ?_⟩, ⟨slR_of_row (mask_own hod (by omega)) ?_ (by rw [allTo_len (by omega) HTO.out, hke']), ?_⟩⟩
      · rw [HOL.out, hke]; exact HBF.out
      ·
       rw [hke', List.drop_length, List.append_nil] at hcd
       exact hideV_unm qDepR_unm hcd
      · rw [allTo_len (by omega) HTO.out, hke']; exact HBD.out
def termP (s : QSource) (vars : SMap) (froms : List QFrom) (t : QTerm) : Option QTerm :=
 if t.name = noStr then some { t with var := -1, field := 0 }
 else match getM vars t.name with
  | none => none
  |
   some v => match froms[v.toNat]? with
   | none => none
   |
    some f => match s.schemas[f.schema.toNat]? with
    | none => none
    | some x => (idx (fieldNames x) t.path).map (fun n => { t with var := v, field := (n : Int) })
theorem mask_comm (a b c d : Nat) (w : World) : mask a b (mask c d w) = mask c d (mask a b w) := by
 unfold mask
 congr 1
 apply Array.ext_getElem?
 intro k
 simp only [Array.getElem?_mapIdx, Option.map_map]
 cases w.heap[k]? with
 | none => rfl
 |
  some o =>
  simp only [Option.map_some, Function.comp, Option.some.injEq]
  split <;> split <;> rfl
def RetTerm (base : Nat) (T : TypeId) (sz HT n cap : Nat) (cs : List Value) (ot : Nat) (res : Option QTerm) (w : World) (e : Ending) (w' : World) : Prop :=
 w.grownBy w' (some HT) ∧ match res with
  | none => e = .panicked nothingP
  | some t => e = .returned (.tuple #[]) ∧ w'.ownsRow base T sz (.slice (some ⟨HT, 0, none⟩) n cap) n ((cs.set (ot + 2) (.int .i64 t.var)).set (ot + 3) (.int .i64 t.field))
theorem retTerm_no {base : Nat} {T : TypeId} {sz HT n cap : Nat} {cs : List Value} {ot : Nat} {res : Option QTerm} {w w' : World} (h : res = none) (hg : w.grownBy w' (some HT)) : RetTerm base T sz HT n cap cs ot res w (.panicked nothingP) w' := by
 subst h; exact ⟨hg, rfl⟩
theorem retTerm_yes {base : Nat} {T : TypeId} {sz HT n cap : Nat} {cs : List Value} {ot : Nat} {res : Option QTerm} {t : QTerm} {w w' : World} (h : res = some t) (hg : w.grownBy w' (some HT)) (ho : w'.ownsRow base T sz (.slice (some ⟨HT, 0, none⟩) n cap) n ((cs.set (ot + 2) (.int .i64 t.var)).set (ot + 3) (.int .i64 t.field))) : RetTerm base T sz HT n cap cs ot res w (.returned (.tuple #[])) w' := by
 subst h; exact ⟨hg, rfl, ho⟩
theorem row_cell {w : World} {base : Nat} {e : TypeId} {sz g n cap : Nat} {cs : List Value} (h : w.ownsRow base e sz (.slice (some ⟨g, 0, none⟩) n cap) n cs) {j : Nat} {u : Value} (hu : cs[j]? = some u) : w.cell? ⟨g, j, none⟩ = some u := by
 have hl := (List.getElem?_eq_some_iff.1 hu).1
 rw [h.1] at hl
 rw [h.cellAt _ hl, hu]
set_option maxHeartbeats 2000000 in
set_option maxRecDepth 100000 in
theorem number_any (V Rb Ub vb R G gi H fn fc base sz HT n cap ot : Nat) (T : TypeId) (cs : List Value) (s : QSource) (vars : SMap) (froms : List QFrom) (t : QTerm) (w : World)
 (hV : w.cell? ⟨V, 0, none⟩ = some (.map (some vb))) (hVT : V ≠ HT) (hRb : w.cell? ⟨Rb, 0, none⟩ = some (.pointer (some ⟨R, 0, none⟩))) (hRT : Rb ≠ HT) (hUb : w.cell? ⟨Ub, 0, none⟩ = some (.pointer (some ⟨G, gi, none⟩))) (hUT : Ub ≠ HT)
 (hG : froms ≠ [] → w.cell? ⟨G, gi + 2, none⟩ = some (.slice (some ⟨H, 0, none⟩) fn fc)) (hGT : G ≠ HT) (hm : MapAt strW i64W w vb vars) (hres : ResR (mask HT (HT + 1) w) R s)
 (hfr : ∀ v, getM vars t.name = some v → ∃ (vn a : Nat) (f : QFrom) (x : QSchema), v = (vn : Int) ∧ vn < fn ∧ fn ≤ 9223372036854775807 ∧ froms[vn]? = some f ∧ f.schema = (a : Int) ∧ s.schemas[a]? = some x ∧ w.cell? ⟨H, vn * 8 + 2, none⟩ = some (.int .i64 a) ∧ (H ≠ HT ∨ (vn * 8 + 2 ≠ ot + 2 ∧ vn * 8 + 2 ≠ ot + 3)))
 (ho : w.ownsRow base T sz (.slice (some ⟨HT, 0, none⟩) n cap) n cs) (h0 : cs[ot]? = some (.string t.name)) (h1 : cs[ot + 1]? = some (.string t.path)) (h2 : cs[ot + 2]? = some (.int .i64 t.var)) (h3 : cs[ot + 3]? = some (.int .i64 t.field)) :
 Calls Tryz.prog 193 #[.pointer (some ⟨HT, ot, none⟩), .pointer (some ⟨V, 0, none⟩), .pointer (some ⟨Rb, 0, none⟩), .pointer (some ⟨Ub, 0, none⟩)] w (RetTerm base T sz HT n cap cs ot (termP s vars froms t) w) := by
 have c0 := row_cell ho h0
 have c1 := row_cell ho h1
 have c2 := row_cell ho h2
 have c3 := row_cell ho h3
 have f2 := ho.frozenAt (ot + 2)
 have f3 := ho.frozenAt (ot + 3)
 have hoq := ((ho.stored (ot + 2) (.int .i64 (-1))).1.stored (ot + 3) (.int .i64 0)).1
 have hgq : w.grownBy ((w.setCell ⟨HT, ot + 2, none⟩ (.int .i64 (-1))).setCell ⟨HT, ot + 3, none⟩ (.int .i64 0)) (some HT) := grown_near (grown_near (World.grownBy.refl _ _) _ _) _ _
 have HOQ := Lib.hid hoq
 have HGQ := Lib.hid hgq
 have HKM := Lib.hid (own_cells ho)
 have HV := Lib.hid hV
 have HRB := Lib.hid hRb
 have HUB := Lib.hid hUb
 have HG := Lib.hid hG
 have HM := Lib.hid hm
 have HRES := Lib.hid hres
 have HFR := Lib.hid hfr
 have H0 := Lib.hid h0
 have H1 := Lib.hid h1
 have hl3 := (List.getElem?_eq_some_iff.1 h3).1
 have hl2 := (List.getElem?_eq_some_iff.1 h2).1
 clear hoq hgq hV hRb hUb hG hm hres hfr ho h0 h1 h2 h3
 go_enter Tryz.func193, Tryz.ntmps193
 by_cases hof : t.name = noStr
 ·
  have t1 : t.name.toList.isEmpty = true := by rw [hof, noStr_list]; rfl
  have t2 : t.name.toList = [] := by rw [hof, noStr_list]
  have HP : Hid (termP s vars froms t = some { t with var := -1, field := 0 }) := Lib.hid (by unfold termP; rw [if_pos hof])
  clear hof
  go_wp2_with fail
  go_end0
  exact retTerm_yes HP.out HGQ.out HOQ.out
 ·
  have t1 : t.name.toList.isEmpty = false := noStr_ne hof
  have t2 : ¬ t.name.toList = [] := by intro e; rw [e] at t1; cases t1
  have HOF := Lib.hid hof
  clear hof
  have hVq := HGQ.out.cell HV.out (by simpa using hVT)
  have hmq : MapAt strW i64W ((w.setCell ⟨HT, ot + 2, none⟩ (.int .i64 (-1))).setCell ⟨HT, ot + 3, none⟩ (.int .i64 0)).drew vb vars := (HM.out.keeps (KeepsMaps.grown HGQ.out (fun x e => by cases e; exact HKM.out))).same rfl
  have g0 : ((cs.set (ot + 2) (.int .i64 (-1))).set (ot + 3) (.int .i64 0))[ot]? = some (.string t.name) := by rw [List.getElem?_set_ne (by omega), List.getElem?_set_ne (by omega)]; exact H0.out
  have g1 : ((cs.set (ot + 2) (.int .i64 (-1))).set (ot + 3) (.int .i64 0))[ot + 1]? = some (.string t.path) := by rw [List.getElem?_set_ne (by omega), List.getElem?_set_ne (by omega)]; exact H1.out
  have g2 : ((cs.set (ot + 2) (.int .i64 (-1))).set (ot + 3) (.int .i64 0))[ot + 2]? = some (.int .i64 (-1)) := by rw [List.getElem?_set_ne (by omega), List.getElem?_set_self hl2]
  have g3 : ((cs.set (ot + 2) (.int .i64 (-1))).set (ot + 3) (.int .i64 0))[ot + 3]? = some (.int .i64 0) := by rw [List.getElem?_set_self (by simpa using hl3)]
  cases hgv : getM vars t.name with
  |
   none =>
   have HNM : Hid (termP s vars froms t = none) := Lib.hid (by unfold termP; rw [if_neg HOF.out, hgv])
   go_upto_region 2 with fail
   generalize (w.setCell ⟨HT, ot + 2, none⟩ (.int .i64 (-1))).setCell ⟨HT, ot + 3, none⟩ (.int .i64 0) = wq at HOQ HGQ hVq hmq ⊢
   have d0 := row_cell HOQ.out g0
   have d2 := row_cell HOQ.out g2
   have HMQ := Lib.hid hmq
   have HGV := Lib.hid hgv
   clear hmq c0 c1 c2 c3 f2 f3 g0 g1 g2 g3 hgv
   go_region_dies
   all_goals
    refine (find_no vb _ _ _ HMQ.out HGV.out).mono ?_
    rintro e w' ⟨rfl, rfl⟩
    exact ⟨rfl, retTerm_no HNM.out (grown_drew HGQ.out)⟩
  |
   some v =>
   obtain ⟨vn, a, f, x, rfl, hvf, hfn, hfv, hfa, hsa, hcf, hne⟩ := HFR.out v hgv
   have hcfq : ((w.setCell ⟨HT, ot + 2, none⟩ (.int .i64 (-1))).setCell ⟨HT, ot + 3, none⟩ (.int .i64 0)).cell? ⟨H, vn * 8 + 2, none⟩ = some (.int .i64 a) := by
    rw [World.cell?_setCell_other _ _ _ _ (fun e => by injection e; omega), World.cell?_setCell_other _ _ _ _ (fun e => by injection e; omega)]; exact hcf
   have hne2 : (⟨HT, ot + 2, none⟩ : Addr) ≠ ⟨H, vn * 8 + 2, none⟩ := fun e => by injection e; omega
   have HP : Hid (∀ r, (idx (fieldNames x) t.path).map (fun n => ({ t with var := (vn : Int), field := (n : Int) } : QTerm)) = r → termP s vars froms t = r) := Lib.hid (fun r hr => by
    unfold termP
    rw [if_neg HOF.out, hgv]
    simp only
    rw [show ((vn : Int)).toNat = vn from rfl, hfv]
    simp only
    rw [hfa, show ((a : Int)).toNat = a from rfl, hsa]
    exact hr)
   have HF := Lib.hid ((find_yes vb _ _ (vn : Int) _ hmq hgv).mono (R' := fun e w' => e = .returned (.int .i64 vn) ∧ w' = ((w.setCell ⟨HT, ot + 2, none⟩ (.int .i64 (-1))).setCell ⟨HT, ot + 3, none⟩ (.int .i64 0)).drew) (fun _ _ h => ⟨h.1, h.2.symm⟩))
   have hGc := HG.out (fun e => by rw [e] at hfv; simp at hfv)
   have hl3' := hl3
   go_upto_region 2 with fail
   clear hmq
   generalize (w.setCell ⟨HT, ot + 2, none⟩ (.int .i64 (-1))).setCell ⟨HT, ot + 3, none⟩ (.int .i64 0) = wq at HOQ HGQ hVq hcfq HF ⊢
   have d0 := row_cell HOQ.out g0
   have d2 := row_cell HOQ.out g2
   have fd2 := HOQ.out.frozenAt (ot + 2)
   clear c0 c1 c2 c3 f2 f3 hgv
   refine wp_region_still_tail 9 (by kernel_rfl) (by kernel_rfl) ?_
   simp only [List.take_succ_cons, List.take_zero, List.drop_succ_cons, List.drop_zero]
   repeat still_step
   still_call HF.out
   repeat still_step
   refine wpStill_nil ?_
   change wpList _ _ _ _ _ wq.drew
   go_upto_region 3 with fail
   have hox := (HOQ.out.stored (ot + 2) (.int .i64 vn)).1.drew
   have hgx : w.grownBy (wq.setCell ⟨HT, ot + 2, none⟩ (.int .i64 vn)).drew (some HT) := grown_drew (grown_near HGQ.out _ _)
   have hcx : (wq.setCell ⟨HT, ot + 2, none⟩ (.int .i64 vn)).drew.cell? ⟨H, vn * 8 + 2, none⟩ = some (.int .i64 a) := (World.cell?_setCell_other _ _ _ _ hne2).trans hcfq
   generalize (wq.setCell ⟨HT, ot + 2, none⟩ (.int .i64 vn)).drew = wx at hox hgx hcx ⊢
   have k1 := row_cell hox (j := ot + 1) (u := .string t.path) (by rw [List.getElem?_set_ne (by omega)]; exact g1)
   have k2 := row_cell hox (j := ot + 2) (u := .int .i64 vn) (by rw [List.getElem?_set_self (by simpa using hl2)])
   have k3 := row_cell hox (j := ot + 3) (u := .int .i64 0) (by rw [List.getElem?_set_ne (by omega)]; exact g3)
   have fk3 := hox.frozenAt (ot + 3)
   have xR := hgx.cell HRB.out (by simpa using hRT)
   have xU := hgx.cell HUB.out (by simpa using hUT)
   have xG := hgx.cell hGc (by simpa using hGT)
   obtain ⟨b1, b2, b3, fA, fl, fcc, hbR, hm1, hm2, hm3, hfs⟩ := (HRES.out.below (mask_below hgx (Nat.le_refl _) (Nat.lt_succ_self _))).unm
   have r3 := hbR.cell 3
   have lR := hbR.lt
   simp only [List.getElem?_toArray, List.getElem?_cons_zero, List.getElem?_cons_succ] at r3
   have hal : a < fl := by
    have := hfs.len
    rw [this, List.length_map]
    exact (List.getElem?_eq_some_iff.1 hsa).1
   have hflm : fl ≤ 9223372036854775807 := by have := hfs.le; omega
   obtain ⟨fb, foff, fm, fg, rfl, hfb, hfm, hfc, hfmap⟩ := map_at hfs hal
   have hfx : fm = fieldMap x := by rw [List.getElem?_map, hsa, Option.map_some, Option.some.injEq] at hfm; exact hfm.symm
   subst hfx
   have hget := col_get (fieldNames x) t.path
   have HFM := Lib.hid (hfmap.same (w' := wx.drew) rfl)
   have HOX := Lib.hid hox
   have HGX := Lib.hid hgx
   have h01 : (0 : Int) ≤ (vn : Int) := by omega
   have h02 : (vn : Int) < (fn : Int) := by omega
   have h03 : (0 : Int) ≤ (a : Int) := by omega
   have h04 : (a : Int) < (fl : Int) := by omega
   clear hfs hfm hfmap hbR hm1 hm2 hm3 hox hgx g0 g1 g2 g3 d0 d2 fd2 HF hcfq hVq hcf hne hne2 hGc hfa hfv hsa
   cases hix : idx (fieldNames x) t.path with
   |
    none =>
    rw [hix] at hget
    have HNM := Lib.hid (HP.out none (by rw [hix]; rfl))
    have HNO : Hid (RetTerm base T sz HT n cap cs ot (termP s vars froms t) w (.panicked nothingP) wx.drew) := Lib.hid (retTerm_no HNM.out (grown_drew HGX.out))
    have HF := Lib.hid ((find_no fg _ _ wx.drew HFM.out hget).mono (R' := fun e w' => e = .panicked nothingP ∧ w' = wx.drew) (fun _ _ h => ⟨h.1, h.2.symm⟩))
    clear hix hget
    refine wp_region_still_dies 22 [0, 1, 2, 3, 4, 5, 6, 7, 8, 9, 10, 11, 12, 13, 14, 15, 16, 17, 18, 19, 20, 21] (fun l => l.take 22) (by kernel_rfl) rfl (by kernel_rfl) (fun d u c a h => by cases d <;> exact h) ?_
    simp only [List.take_succ_cons, List.take_zero]
    repeat still_step
    refine wpStill_nil ?_
    refine ⟨_, 189, #[.map (some fg), .string t.path], nothingP, rfl, rfl, ?_, HF.out, rfl, HNO.out⟩
    go_simp
   |
    some g =>
    rw [hix] at hget
    have HYS := Lib.hid (HP.out (some { t with var := (vn : Int), field := (g : Int) }) (by rw [hix]; rfl))
    have HF := Lib.hid ((find_yes fg _ _ (g : Int) wx.drew HFM.out hget).mono (R' := fun e w' => e = .returned (.int .i64 g) ∧ w' = wx.drew) (fun _ _ h => ⟨h.1, h.2.symm⟩))
    clear hix hget
    refine wp_region_still_tail 25 (by kernel_rfl) (by kernel_rfl) ?_
    simp only [List.take_succ_cons, List.take_zero, List.drop_succ_cons, List.drop_zero]
    repeat still_step
    still_call HF.out
    repeat still_step
    refine wpStill_nil ?_
    change wpList _ _ _ _ _ wx.drew
    go_wp2_with fail
    go_end0
    refine retTerm_yes HYS.out (grown_near (grown_drew HGX.out) _ _) ?_
    have := (HOX.out.drew.stored (ot + 3) (.int .i64 g)).1
    have e : ((((cs.set (ot + 2) (.int .i64 (-1))).set (ot + 3) (.int .i64 0)).set (ot + 2) (.int .i64 vn)).set (ot + 3) (.int .i64 g)) = (cs.set (ot + 2) (.int .i64 vn)).set (ot + 3) (.int .i64 g) := by
     rw [List.set_comm _ _ (by omega : ot + 3 ≠ ot + 2), List.set_set, List.set_set]
    rw [e] at this
    exact this
def varsN (l : List QFrom) : Nat → SMap
 | 0 => []
 |
  k + 1 => match l[k]? with
  | some f => putM (varsN l k) f.name (k : Int)
  | none => varsN l k
def varsOf (l : List QFrom) : SMap := varsN l l.length
theorem varsN_app (l r : List QFrom) : ∀ k, k ≤ l.length → varsN (l ++ r) k = varsN l k
 | 0, _ => rfl
 | k + 1, h => by rw [varsN, varsN, varsN_app l r k (by omega), List.getElem?_append_left (by omega)]
theorem varsOf_snoc (l : List QFrom) (f : QFrom) : varsOf (l ++ [f]) = putM (varsOf l) f.name (l.length : Int) := by
 unfold varsOf
 rw [List.length_append]
 show varsN (l ++ [f]) (l.length + 1) = _
 rw [varsN, List.getElem?_append_right (Nat.le_refl _), Nat.sub_self, varsN_app l _ _ (Nat.le_refl _)]
 rfl
theorem varsN_get (l : List QFrom) : ∀ k x v, getM (varsN l k) x = some v → ∃ n : Nat, v = (n : Int) ∧ n < k ∧ ∃ f, l[n]? = some f ∧ f.name = x
 | 0, x, v, h => by simp [varsN, getM_nil] at h
 |
  k + 1, x, v, h => by
  rw [varsN] at h
  cases hk : l[k]? with
  |
   none =>
   rw [hk] at h
   obtain ⟨n, h1, h2, h3⟩ := varsN_get l k x v h
   exact ⟨n, h1, by omega, h3⟩
  |
   some f =>
   rw [hk] at h
   simp only [getM_put] at h
   split at h
   ·
    rename_i e
    exact ⟨k, by simpa using h.symm, by omega, f, hk, e.symm⟩
   ·
    obtain ⟨n, h1, h2, h3⟩ := varsN_get l k x v h
    exact ⟨n, h1, by omega, h3⟩
def fromStep (s : QSource) (out : List QFrom) (f : QFrom) : Option QFrom :=
 match idx (schemaNames s) f.kind with
 | none => none
 | some a => (termP s (varsOf out) out f.of_).map (fun t => { f with schema := (a : Int), of_ := t })
def atomStep (s : QSource) (fo : List QFrom) (a : QAtom) : Option QAtom :=
 match termP s (varsOf fo) fo a.a, termP s (varsOf fo) fo a.b with
 | some x, some y => some { a with a := x, b := y }
 | _, _ => none
def setStep (s : QSource) (xa : QSchema) (fo : List QFrom) (c : QSet) : Option QSet :=
 match idx (fieldNames xa) c.path, termP s (varsOf fo) fo c.term with
 | some n, some t => some { c with field := (n : Int), term := t }
 | _, _ => none
def ruleP (s : QSource) (r : QRule) : Option QRule :=
 match idx (schemaNames s) r.head with
 | none => none
 |
  some a => match allP (fromStep s) r.froms with
  | none => none
  |
   some fo => match allP (fun _ => atomStep s fo) r.where_ with
   | none => none
   |
    some wo => match s.schemas[a]? with
    | none => none
    |
     some xa => match allP (fun _ => setStep s xa fo) r.sets with
     | none => none
     | some so => some { r with schema := (a : Int), froms := fo, where_ := wo, sets := so }
def FromOk (s : QSource) (l : List QFrom) : Prop := ∀ f ∈ l, ∃ (a : Nat) (x : QSchema), f.schema = (a : Int) ∧ s.schemas[a]? = some x
theorem termP_same {s : QSource} {vars : SMap} {fo : List QFrom} {t t' : QTerm} (h : termP s vars fo t = some t') : t' = { t with var := t'.var, field := t'.field } := by
 unfold termP at h
 split at h
 · injection h with h; subst h; rfl
 ·
  split at h
  · cases h
  ·
   split at h
   · cases h
   ·
    split at h
    · cases h
    ·
     simp only [Option.map_eq_some_iff] at h
     obtain ⟨n, _, rfl⟩ := h
     rfl
structure RB (w0 : World) (R G gi Rb Ub V vb : Nat) (wr : World) : Prop where
 gr : w0.grownBy wr (some G)
 rb : wr.cell? ⟨Rb, 0, none⟩ = some (.pointer (some ⟨R, 0, none⟩))
 ub : wr.cell? ⟨Ub, 0, none⟩ = some (.pointer (some ⟨G, gi, none⟩))
 vv : wr.cell? ⟨V, 0, none⟩ = some (.map (some vb))
section
variable {w0 : World} {R G gi Rb Ub V vb : Nat} {wr wr' : World}
theorem RB.far (h : RB w0 R G gi Rb Ub V vb wr) {K : Nat} (hg : wr.grownBy wr' (some K)) (h0 : w0.heap.size ≤ K) (h1 : Rb ≠ K) (h2 : Ub ≠ K) (h3 : V ≠ K) : RB w0 R G gi Rb Ub V vb wr' :=
 ⟨grown_mid h.gr hg h0, hg.cell h.rb (by simpa using h1), hg.cell h.ub (by simpa using h2), hg.cell h.vv (by simpa using h3)⟩
theorem RB.near (h : RB w0 R G gi Rb Ub V vb wr) (hg : wr.grownBy wr' (some G)) (h1 : Rb ≠ G) (h2 : Ub ≠ G) (h3 : V ≠ G) : RB w0 R G gi Rb Ub V vb wr' :=
 ⟨grown_trans h.gr hg, hg.cell h.rb (by simpa using h1), hg.cell h.ub (by simpa using h2), hg.cell h.vv (by simpa using h3)⟩
theorem RB.below (h : RB w0 R G gi Rb Ub V vb wr) (hb : Below wr.heap.size wr wr') : RB w0 R G gi Rb Ub V vb wr' := by
 have hg : wr.grownBy wr' none := grown_of_below hb _
 exact ⟨grown_trans h.gr (grown_of_below hb _), hg.cell h.rb (by simp), hg.cell h.ub (by simp), hg.cell h.vv (by simp)⟩
theorem RB.drew (h : RB w0 R G gi Rb Ub V vb wr) : RB w0 R G gi Rb Ub V vb wr.drew := ⟨grown_drew h.gr, h.rb, h.ub, h.vv⟩
end
theorem res_hide {lo M R G HT : Nat} {s : QSource} {w0 wr : World} (h : ResR (mask lo M w0) R s) (hg : w0.grownBy wr (some G)) (hlo : lo ≤ G) (hGM : G < M) (hHT : w0.heap.size ≤ HT) : ResR (mask HT (HT + 1) wr) R s := by
 have := h.below (mask_old (lo := HT) (M := HT + 1) (mask lo M w0) (mask_below hg hlo hGM) (by rw [mask_size]; exact hHT))
 rw [mask_comm] at this
 exact this.unm
theorem from_put2 {w : World} {cs : List Value} {l : List QFrom} {k : Nat} {u : QFrom} (h : CellsR 8 qFromR w cs l) (hk : l[k]? = some u) (a : Int) : CellsR 8 qFromR w (cs.set (k * 8 + 2) (.int .i64 a)) (l.set k { u with schema := a }) :=
 h.put (by omega) (List.getElem?_eq_some_iff.1 hk).1 (by
  have : chunk cs 8 k = _ := h.chunk hk
  rw [this]; rfl)
theorem from_putT {w : World} {cs : List Value} {l : List QFrom} {k : Nat} {u : QFrom} (h : CellsR 8 qFromR w cs l) (hk : l[k]? = some u) (t : QTerm) (ht : t = { u.of_ with var := t.var, field := t.field }) : CellsR 8 qFromR w ((cs.set (k * 8 + 3 + 2) (.int .i64 t.var)).set (k * 8 + 3 + 3) (.int .i64 t.field)) (l.set k { u with of_ := t }) := by
 have hkl := (List.getElem?_eq_some_iff.1 hk).1
 have h1 : CellsR 8 qFromR w (cs.set (k * 8 + 5) (.int .i64 t.var)) (l.set k { u with of_ := { u.of_ with var := t.var } }) := h.put (by omega) hkl (by
  have : chunk cs 8 k = _ := h.chunk hk
  rw [this]; rfl)
 have h2 := h1.put (i := k) (j := 6) (x' := { u with of_ := { u.of_ with var := t.var, field := t.field } }) (u := .int .i64 t.field) (by omega) (by simpa using hkl) (by
  have : chunk _ 8 k = _ := h1.chunk (i := k) (by rw [List.getElem?_set_self hkl])
  rw [this]; rfl)
 rw [List.set_set, ← ht] at h2
 exact h2
theorem atom_putA {w : World} {cs : List Value} {l : List QAtom} {k : Nat} {u : QAtom} (h : CellsR 11 qAtomR w cs l) (hk : l[k]? = some u) (t : QTerm) (ht : t = { u.a with var := t.var, field := t.field }) : CellsR 11 qAtomR w ((cs.set (k * 11 + 1 + 2) (.int .i64 t.var)).set (k * 11 + 1 + 3) (.int .i64 t.field)) (l.set k { u with a := t }) := by
 have hkl := (List.getElem?_eq_some_iff.1 hk).1
 have h1 : CellsR 11 qAtomR w (cs.set (k * 11 + 3) (.int .i64 t.var)) (l.set k { u with a := { u.a with var := t.var } }) := h.put (by omega) hkl (by
  have : chunk cs 11 k = _ := h.chunk hk
  rw [this]; rfl)
 have h2 := h1.put (i := k) (j := 4) (x' := { u with a := { u.a with var := t.var, field := t.field } }) (u := .int .i64 t.field) (by omega) (by simpa using hkl) (by
  have : chunk _ 11 k = _ := h1.chunk (i := k) (by rw [List.getElem?_set_self hkl])
  rw [this]; rfl)
 rw [List.set_set, ← ht] at h2
 exact h2
theorem atom_putB {w : World} {cs : List Value} {l : List QAtom} {k : Nat} {u : QAtom} (h : CellsR 11 qAtomR w cs l) (hk : l[k]? = some u) (t : QTerm) (ht : t = { u.b with var := t.var, field := t.field }) : CellsR 11 qAtomR w ((cs.set (k * 11 + 6 + 2) (.int .i64 t.var)).set (k * 11 + 6 + 3) (.int .i64 t.field)) (l.set k { u with b := t }) := by
 have hkl := (List.getElem?_eq_some_iff.1 hk).1
 have h1 : CellsR 11 qAtomR w (cs.set (k * 11 + 8) (.int .i64 t.var)) (l.set k { u with b := { u.b with var := t.var } }) := h.put (by omega) hkl (by
  have : chunk cs 11 k = _ := h.chunk hk
  rw [this]; rfl)
 have h2 := h1.put (i := k) (j := 9) (x' := { u with b := { u.b with var := t.var, field := t.field } }) (u := .int .i64 t.field) (by omega) (by simpa using hkl) (by
  have : chunk _ 11 k = _ := h1.chunk (i := k) (by rw [List.getElem?_set_self hkl])
  rw [this]; rfl)
 rw [List.set_set, ← ht] at h2
 exact h2
theorem set_put1 {w : World} {cs : List Value} {l : List QSet} {k : Nat} {u : QSet} (h : CellsR 7 qSetR w cs l) (hk : l[k]? = some u) (a : Int) : CellsR 7 qSetR w (cs.set (k * 7 + 1) (.int .i64 a)) (l.set k { u with field := a }) :=
 h.put (by omega) (List.getElem?_eq_some_iff.1 hk).1 (by
  have : chunk cs 7 k = _ := h.chunk hk
  rw [this]; rfl)
theorem set_putT {w : World} {cs : List Value} {l : List QSet} {k : Nat} {u : QSet} (h : CellsR 7 qSetR w cs l) (hk : l[k]? = some u) (t : QTerm) (ht : t = { u.term with var := t.var, field := t.field }) : CellsR 7 qSetR w ((cs.set (k * 7 + 2 + 2) (.int .i64 t.var)).set (k * 7 + 2 + 3) (.int .i64 t.field)) (l.set k { u with term := t }) := by
 have hkl := (List.getElem?_eq_some_iff.1 hk).1
 have h1 : CellsR 7 qSetR w (cs.set (k * 7 + 4) (.int .i64 t.var)) (l.set k { u with term := { u.term with var := t.var } }) := h.put (by omega) hkl (by
  have : chunk cs 7 k = _ := h.chunk hk
  rw [this]; rfl)
 have h2 := h1.put (i := k) (j := 5) (x' := { u with term := { u.term with var := t.var, field := t.field } }) (u := .int .i64 t.field) (by omega) (by simpa using hkl) (by
  have : chunk _ 7 k = _ := h1.chunk (i := k) (by rw [List.getElem?_set_self hkl])
  rw [this]; rfl)
 rw [List.set_set, ← ht] at h2
 exact h2
theorem chunk_get {cs : List Value} {sz k j : Nat} {c : List Value} {u : Value} (hc : chunk cs sz k = c) (hj : j < sz) (hu : c[j]? = some u) : cs[k * sz + j]? = some u := by
 rw [← chunk_at hj, hc, hu]
theorem froms_look {s : QSource} {w wx : World} {base : Nat} {vA : Option Addr} {vn vc : Nat} {cr : List Value} {fo : List QFrom} (ho : w.ownsRow base 205 8 (.slice vA vn vc) vn cr) (hc : CellsR 8 qFromR wx cr fo) (hl : fo.length = vn) (hp : FromOk s fo) :
 ∃ H, (fo ≠ [] → vA = some ⟨H, 0, none⟩ ∧ base ≤ H ∧ H < w.heap.size) ∧ ∀ (x : ByteArray) (v : Int), getM (varsOf fo) x = some v → ∃ (n a : Nat) (f : QFrom) (sc : QSchema), v = (n : Int) ∧ n < vn ∧ vn ≤ 9223372036854775807 ∧ fo[n]? = some f ∧ f.schema = (a : Int) ∧ s.schemas[a]? = some sc ∧ w.cell? ⟨H, n * 8 + 2, none⟩ = some (.int .i64 a) := by
 rcases own_row ho with ⟨h, h0⟩ | ⟨H, hcap, h, hH, hHw, hn2⟩
 ·
  have : fo = [] := List.eq_nil_of_length_eq_zero (by omega)
  subst this
  exact ⟨0, fun e => absurd rfl e, fun x v hv => by simp [varsOf, varsN, getM_nil] at hv⟩
 ·
  injection h with h1 h2 h3
  subst h1 h3
  refine ⟨H, fun _ => ⟨rfl, hH, hHw⟩, fun x v hv => ?_⟩
  obtain ⟨n, rfl, hn, f, hf, _⟩ := varsN_get fo _ x v hv
  obtain ⟨a, sc, ha, hs⟩ := hp f (List.mem_of_getElem? hf)
  refine ⟨n, a, f, sc, rfl, by omega, by omega, hf, ha, hs, ?_⟩
  have hch : chunk cr 8 n = _ := hc.chunk hf
  have := own_cell ho (show n < vn by omega) (by omega) hch (j := 2) rfl
  rw [ha] at this
  exact this
theorem number_far {w0 w wx : World} {R G gi Rb Ub V vb lo M bz base sz HT n cap ot : Nat} {vA : Option Addr} {vn vc : Nat} {T : TypeId} {cs cr : List Value} {s : QSource} {fo : List QFrom} {t : QTerm}
 (hrb : RB w0 R G gi Rb Ub V vb w) (hG2 : w.cell? ⟨G, gi + 2, none⟩ = some (.slice vA vn vc)) (hof : w.ownsRow bz 205 8 (.slice vA vn vc) vn cr) (hcf : CellsR 8 qFromR wx cr fo) (hl : fo.length = vn) (hok : FromOk s fo) (hm : MapAt strW i64W w vb (varsOf fo))
 (hres : ResR (mask lo M w0) R s) (hlo : lo ≤ G) (hGM : G < M) (hHT : w0.heap.size ≤ HT) (nV : V ≠ HT) (nR : Rb ≠ HT) (nU : Ub ≠ HT) (nG : G ≠ HT) (nF : ∀ r, (Value.slice vA vn vc).ownBlock = some r → r ≠ HT)
 (ho : w.ownsRow base T sz (.slice (some ⟨HT, 0, none⟩) n cap) n cs) (h0 : cs[ot]? = some (.string t.name)) (h1 : cs[ot + 1]? = some (.string t.path)) (h2 : cs[ot + 2]? = some (.int .i64 t.var)) (h3 : cs[ot + 3]? = some (.int .i64 t.field)) :
 Calls Tryz.prog 193 #[.pointer (some ⟨HT, ot, none⟩), .pointer (some ⟨V, 0, none⟩), .pointer (some ⟨Rb, 0, none⟩), .pointer (some ⟨Ub, 0, none⟩)] w (RetTerm base T sz HT n cap cs ot (termP s (varsOf fo) fo t) w) := by
 obtain ⟨H, hne, hlook⟩ := froms_look hof hcf hl hok
 refine number_any V Rb Ub vb R G gi H vn vc base sz HT n cap ot T cs s (varsOf fo) fo t w hrb.vv nV hrb.rb nR hrb.ub nU (fun e => by rw [hG2, (hne e).1]) nG hm (res_hide hres hrb.gr hlo hGM hHT) (fun v hv => ?_) ho h0 h1 h2 h3
 obtain ⟨n', a, f, sc, h1, h2, h3, h4, h5, h6, h7⟩ := hlook t.name v hv
 have hnn : fo ≠ [] := fun e => by rw [e] at h4; simp at h4
 exact ⟨n', a, f, sc, h1, h2, h3, h4, h5, h6, h7, .inl (nF H (by rw [(hne hnn).1]; rfl))⟩
set_option maxHeartbeats 2000000 in
set_option maxRecDepth 100000 in
theorem numberRule_any (R lo M base G n cap i : Nat) (cs : List Value) (s : QSource) (p : QRule) (w : World) (hres : ResR (mask lo M w) R s) (hlo : lo ≤ G) (hGM : G < M) (hMw : M ≤ w.heap.size)
 (ho : w.ownsRow base 83 5 (.slice (some ⟨G, 0, none⟩) n cap) n cs) (hi : i < n) (hp : qRuleR (mask lo M w) (chunk cs 5 i) p) :
 Calls Tryz.prog 124 #[.pointer (some ⟨R, 0, none⟩), .pointer (some ⟨G, i * 5, none⟩)] w (RetElem 83 5 qRuleR base G n cap i cs lo M (ruleP s p) w) := by
 obtain ⟨A1, n1, c1, A2, n2, c2, A3, n3, c3, hch, hfr, hwh, hse⟩ := hp
 have hGw : G < w.heap.size := by omega
 have HRES := Lib.hid hres
 have HO := Lib.hid ho
 have HCH := Lib.hid hch
 have HFR := Lib.hid hfr
 have HWH := Lib.hid hwh
 have HSE := Lib.hid hse
 have HBW := Lib.hid hwh.2
 clear hres ho hch hfr hwh hse
 have hmf : ∀ (fn : Fn) (first cap : Array Value) (w : World), (Instr.makeFunc fn first cap).run Tryz.prog w = .ok (.func fn first cap) w := fun _ _ _ _ => rfl
 go_enter Tryz.func124, Tryz.ntmps124
 go_upto_region 1 with fail
 have hbb : Below w.heap.size w ((w.alloc (.cells #[.pointer (some ⟨R, 0, none⟩)] 164)).alloc (.cells #[.pointer (some ⟨G, i * 5, none⟩)] 184)) := ((Below.refl _ _).alloc (Nat.le_refl _) _).alloc (by simp) _
 have krb : ((w.alloc (.cells #[.pointer (some ⟨R, 0, none⟩)] 164)).alloc (.cells #[.pointer (some ⟨G, i * 5, none⟩)] 184)).cell? ⟨w.heap.size, 0, none⟩ = some (.pointer (some ⟨R, 0, none⟩)) := by simp [go_sem]
 have kub : ((w.alloc (.cells #[.pointer (some ⟨R, 0, none⟩)] 164)).alloc (.cells #[.pointer (some ⟨G, i * 5, none⟩)] 184)).cell? ⟨w.heap.size + 1, 0, none⟩ = some (.pointer (some ⟨G, i * 5, none⟩)) := by simp [go_sem]
 have hszb : ((w.alloc (.cells #[.pointer (some ⟨R, 0, none⟩)] 164)).alloc (.cells #[.pointer (some ⟨G, i * 5, none⟩)] 184)).heap.size = w.heap.size + 2 := by simp
 generalize (w.alloc (.cells #[.pointer (some ⟨R, 0, none⟩)] 164)).alloc (.cells #[.pointer (some ⟨G, i * 5, none⟩)] 184) = wb at hbb krb kub hszb ⊢
 have hgb : w.grownBy wb (some G) := grown_of_below hbb _
 have hob := own_below0 HO.out hbb
 have p0 := own_cell hob hi (by omega) HCH.out (j := 0) rfl
 simp only [Nat.add_zero] at p0
 have p1 := own_cell hob hi (by omega) HCH.out (j := 1) rfl
 have f1 := hob.frozenAt (i * 5 + 1)
 obtain ⟨b1, b2, b3, fA, fn, fc, hbR, hm1, hm2, hm3, hfs⟩ := (HRES.out.below (mask_below hgb hlo hGM)).unm
 have r2 := hbR.cell 2
 have lR := hbR.lt
 simp only [List.getElem?_toArray, List.getElem?_cons_zero, List.getElem?_cons_succ] at r2
 have hget := col_get (schemaNames s) p.head
 have HM3 := Lib.hid (hm3.same (w' := wb.drew) rfl)
 have HGB := Lib.hid hgb
 have HOB := Lib.hid hob
 have HSZB := Lib.hid hszb
 clear hbb hgb hob hbR hm1 hm2 hm3 hfs hszb
 cases hix : idx (schemaNames s) p.head with
 |
  none =>
  rw [hix] at hget
  have HNO : Hid (RetElem 83 5 qRuleR base G n cap i cs lo M (ruleP s p) w (.panicked nothingP) wb.drew) :=
   Lib.hid (retElem_no (by unfold ruleP; rw [hix]) (grown_drew HGB.out))
  have HF := Lib.hid ((find_no b3 _ _ wb.drew HM3.out hget).mono (R' := fun e w' => e = .panicked nothingP ∧ w' = wb.drew) (fun _ _ h => ⟨h.1, h.2.symm⟩))
  clear hix hget
  refine wp_region_still_dies 9 [0, 1, 2, 3, 4, 5, 6, 7, 8] (fun l => l.take 9) (by kernel_rfl) rfl (by kernel_rfl) (fun d u c a h => by cases d <;> exact h) ?_
  simp only [List.take_succ_cons, List.take_zero]
  repeat still_step
  refine wpStill_nil ?_
  refine ⟨_, 189, #[.map (some b3), .string p.head], nothingP, rfl, rfl, ?_, HF.out, rfl, HNO.out⟩
  go_simp
 |
  some a =>
  rw [hix] at hget
  have HIX := Lib.hid hix
  have hal := idx_lt hix
  have HF := Lib.hid ((find_yes b3 _ _ (a : Int) wb.drew HM3.out hget).mono (R' := fun e w' => e = .returned (.int .i64 a) ∧ w' = wb.drew) (fun _ _ h => ⟨h.1, h.2.symm⟩))
  clear hix hget
  obtain ⟨xa, hxa⟩ : ∃ x, s.schemas[a]? = some x := ⟨s.schemas[a]'(by simpa [schemaNames] using hal), List.getElem?_eq_getElem _⟩
  have HXA := Lib.hid hxa
  clear hxa hal
  refine wp_region_still_tail 12 (by kernel_rfl) (by kernel_rfl) ?_
  simp only [List.take_succ_cons, List.take_zero, List.drop_succ_cons, List.drop_zero]
  repeat still_step
  still_call HF.out
  repeat still_step
  refine wpStill_nil ?_
  change wpList _ _ _ _ _ wb.drew
  go_upto_region 2 with fail
  have ho2 := (HOB.out.stored (i * 5 + 1) (.int .i64 a)).1.drew
  have hga : w.grownBy (wb.setCell ⟨G, i * 5 + 1, none⟩ (.int .i64 a)).drew (some G) := grown_drew (grown_near HGB.out _ _)
  have hsza : (wb.setCell ⟨G, i * 5 + 1, none⟩ (.int .i64 a)).drew.heap.size = w.heap.size + 2 := by rw [← HSZB.out]; simp [World.setCell]
  have hga1 : wb.grownBy (wb.setCell ⟨G, i * 5 + 1, none⟩ (.int .i64 a)).drew (some G) := grown_drew (grown_near (World.grownBy.refl _ _) _ _)
  have krb' := hga1.cell krb (by simp; omega)
  have kub' := hga1.cell kub (by simp; omega)
  have hcha : chunk (cs.set (i * 5 + 1) (.int .i64 a)) 5 i = [.string p.head, .int .i64 a, .slice A1 n1 c1, .slice A2 n2 c2, .slice A3 n3 c3] := by
   rw [chunk_set _ (by omega), HCH.out]; rfl
  have hoth : ∀ j, j ≠ i → chunk (cs.set (i * 5 + 1) (.int .i64 a)) 5 j = chunk cs 5 j := fun j hj => by rw [chunk_other _ (by omega) hj]
  generalize (wb.setCell ⟨G, i * 5 + 1, none⟩ (.int .i64 a)).drew = wa at ho2 hga hsza krb' kub' ⊢
  generalize cs.set (i * 5 + 1) (.int .i64 a) = ca at ho2 hcha hoth
  have hfw : SlB 8 96 qFromR wa (.slice A1 n1 c1) p.froms := (HFR.out.mono qFromR_mono (mask_below hga hlo hGM)).unm qFromR_unm
  have hGa : G < wa.heap.size := by rw [hsza]; omega
  have p2 := own_cell ho2 hi (by omega) hcha (j := 2) rfl
  have f2 := ho2.frozenAt (i * 5 + 2)
  have HOA := Lib.hid ho2
  have HGA := Lib.hid hga
  have HCHA := Lib.hid hcha
  have HOTH := Lib.hid hoth
  have HSZ := Lib.hid hsza
  have HFW := Lib.hid (show SlB 8 96 qFromR wa.drew (.slice A1 n1 c1) p.froms from hfw.mono qFromR_mono (Below.refl _ _).drew)
  have hne : ¬ G = w.heap.size + 1 := by omega
  clear ho2 hga hga1 hcha hoth hsza hfw p0 p1 f1 r2 lR HF HM3 HOB HGB HSZB krb kub
  apply wp_via3 (G := fun vA vn vc w2 => ∃ cs1, w2.ownsRow base 83 5 (.slice (some ⟨G, 0, none⟩) n cap) n (ca.set (i * 5 + 2) (.slice vA vn vc)) ∧ w2.ownsRow wa.heap.size 205 8 (.slice vA vn vc) p.froms.length cs1 ∧ CellsR 8 qFromR w cs1 p.froms ∧ vn = p.froms.length ∧
   w.grownBy w2 (some G) ∧ w2.cell? ⟨w.heap.size, 0, none⟩ = some (.pointer (some ⟨R, 0, none⟩)) ∧ w2.cell? ⟨w.heap.size + 1, 0, none⟩ = some (.pointer (some ⟨G, i * 5, none⟩)) ∧ wa.heap.size ≤ w2.heap.size)
  ·
   go_region_law (first
    | (
     refine step_call_any (by rfl) 192 #[.slice A1 n1 c1] (by go_simp) (cloneFrom_any A1 n1 c1 p.froms _ HFW.out) ?_
     rintro e w1 ⟨v, cs1, rfl, hcs1, ho1, hb1⟩
     refine ⟨_, rfl, ?_⟩
     obtain ⟨vA, vn, vc, rfl, hvn⟩ := own_form' ho1
     have q2 : w1.cell? ⟨G, i * 5 + 2, none⟩ = some (.slice A1 n1 c1) := ((bcell hb1).1 _ _ hGa).trans p2
     have hf2 : w1.frozen? ⟨G, i * 5 + 2, none⟩ = false := ((bcell hb1).2 _ _ hGa).trans f2
     have kr1 : w1.cell? ⟨w.heap.size, 0, none⟩ = some (.pointer (some ⟨R, 0, none⟩)) := ((bcell hb1).1 _ _ (by have := HSZ.out; simp; omega)).trans krb'
     have ku1 : w1.cell? ⟨w.heap.size + 1, 0, none⟩ = some (.pointer (some ⟨G, i * 5, none⟩)) := ((bcell hb1).1 _ _ (by have := HSZ.out; simp; omega)).trans kub'
     have HO1 := Lib.hid ho1
     have HC1 := Lib.hid hcs1
     have HB1 := Lib.hid hb1
     have HVN := Lib.hid hvn
     clear ho1 hcs1 hb1 hvn))
   all_goals
    have hg1 : w.grownBy (w1.setCell ⟨G, i * 5 + 2, none⟩ (.slice vA vn vc)) (some G) := grown_near (grown_trans (grown_drew HGA.out) (grown_of_below HB1.out _)) _ _
    have hg2 : w1.grownBy (w1.setCell ⟨G, i * 5 + 2, none⟩ (.slice vA vn vc)) (some G) := grown_near (World.grownBy.refl _ _) _ _
    exact ⟨vA, vn, vc, rfl, cs1, ((own_below0 HOA.out.drew HB1.out).stored (i * 5 + 2) (.slice vA vn vc)).1, own_far HO1.out (by simpa using hGa) _, HC1.out, HVN.out, hg1, hg2.cell kr1 (by simp; omega), hg2.cell ku1 (by simp; omega), by have := HB1.out.size; simp [World.setCell] at this ⊢; exact this⟩
  rintro vA vn vc w2 ⟨cs1, ho2, hi2, hc1, hvn, hg2, kr2, ku2, hsz2⟩
  have hcb : chunk (ca.set (i * 5 + 2) (.slice vA vn vc)) 5 i = [.string p.head, .int .i64 a, .slice vA vn vc, .slice A2 n2 c2, .slice A3 n3 c3] := by
   rw [chunk_set _ (by omega), HCHA.out]; rfl
  have hotb : ∀ j, j ≠ i → chunk (ca.set (i * 5 + 2) (.slice vA vn vc)) 5 j = chunk cs 5 j := fun j hj => by rw [chunk_other _ (by omega) hj]; exact HOTH.out j hj
  generalize ca.set (i * 5 + 2) (.slice vA vn vc) = cb at ho2 hcb hotb
  have g2 := own_cell ho2 hi (by omega) hcb (j := 2) rfl
  have HO2 := Lib.hid ho2
  have HI2 := Lib.hid hi2
  have HC1 := Lib.hid hc1
  have HVN := Lib.hid hvn
  have HG2 := Lib.hid hg2
  have HCB := Lib.hid hcb
  have HOTB := Lib.hid hotb
  clear ho2 hi2 hc1 hvn hg2 hcb hotb HOTH HCHA HOA HFW krb' kub' p2 f2 hne
  have hmm := @run_makeMap Tryz.prog
  go_upto_region 5 with fail
  clear hmm
  have hbc : Below w2.heap.size w2 ((w2.alloc (.map #[] 0)).alloc (.cells #[.map (some w2.heap.size)] 179)) := ((Below.refl _ _).alloc (Nat.le_refl _) _).alloc (by simp) _
  have hmc : MapAt strW i64W ((w2.alloc (.map #[] 0)).alloc (.cells #[.map (some w2.heap.size)] 179)) w2.heap.size (varsOf []) := (MapAt.new strW i64W w2).below ((Below.refl _ _).alloc (Nat.le_refl _) _)
  have hvc : ((w2.alloc (.map #[] 0)).alloc (.cells #[.map (some w2.heap.size)] 179)).cell? ⟨w2.heap.size + 1, 0, none⟩ = some (.map (some w2.heap.size)) := by simp [go_sem]
  have hszc : ((w2.alloc (.map #[] 0)).alloc (.cells #[.map (some w2.heap.size)] 179)).heap.size = w2.heap.size + 2 := by simp
  have hoc := own_below0 HO2.out hbc
  have hic := own_below0 HI2.out hbc
  have hrb : RB w R G (i * 5) w.heap.size (w.heap.size + 1) (w2.heap.size + 1) w2.heap.size ((w2.alloc (.map #[] 0)).alloc (.cells #[.map (some w2.heap.size)] 179)) :=
   ⟨grown_trans HG2.out (grown_of_below hbc _), (bcell hbc).1 _ _ (by have := HSZ.out; omega) |>.trans kr2, (bcell hbc).1 _ _ (by have := HSZ.out; omega) |>.trans ku2, hvc⟩
  have gc2 := own_cell hoc hi (by omega) HCB.out (j := 2) rfl
  have hfb : ∀ r, (Value.slice vA vn vc).ownBlock = some r → w.heap.size + 2 ≤ r ∧ r < w2.heap.size := fun r e => by have := HI2.out.lt r e; have := HSZ.out; omega
  have hwv : w.heap.size + 2 ≤ w2.heap.size := by have := HSZ.out; omega
  generalize (w2.alloc (.map #[] 0)).alloc (.cells #[.map (some w2.heap.size)] 179) = wc at hmc hszc hoc hic hrb gc2 ⊢
  obtain ⟨vb, hvb⟩ : ∃ b, b = w2.heap.size := ⟨_, rfl⟩
  rw [← hvb] at hmc hszc hrb hfb hwv ⊢
  have k1 := hrb.rb
  have k2 := hrb.ub
  have k3 := hrb.vv
  have HMC := Lib.hid hmc
  have HOC := Lib.hid hoc
  have HIC := Lib.hid hic
  have HRB := Lib.hid hrb
  have HFB := Lib.hid hfb
  have hsz3 : w.heap.size + 2 = wa.heap.size := HSZ.out.symm
  have HS3 := Lib.hid hsz3
  clear hmc hoc hic hrb hfb hbc hvc kr2 ku2 g2 hsz2 hszc HO2 HI2 HG2 hsz3 HSZ hvb
  go_wp2_with fail
  clear k1 k2 k3 gc2
  go_loopg [37] vn (fun q j wr => ∃ (k : Nat) (out : List QFrom) (cr : List Value), k ≤ vn ∧ q = vn - k ∧ j = .int .i64 k ∧ allTo (fromStep s) p.froms k = some out ∧ RB w R G (i * 5) w.heap.size (w.heap.size + 1) (vb + 1) vb wr ∧ wr.ownsRow base 83 5 (.slice (some ⟨G, 0, none⟩) n cap) n cb ∧
   wr.ownsRow wa.heap.size 205 8 (.slice vA vn vc) p.froms.length cr ∧ CellsR 8 qFromR w cr (out ++ p.froms.drop k) ∧ MapAt strW i64W wr vb (varsOf out) ∧ FromOk s out)
  case atStart => exact ⟨0, [], cs1, Nat.zero_le _, rfl, rfl, rfl, HRB.out, HOC.out, HIC.out, HC1.out, HMC.out, fun f hf => by simp at hf⟩
  case round =>
   clear HRB HOC HIC HC1 HMC
   obtain ⟨k, out, cr, hk, hq, rfl, hto, hrb, hog, hoh, hcr, hmp, hok⟩ := hrel
   have HQ := Lib.hid hq
   have HTO := Lib.hid hto
   have HOK := Lib.hid hok
   clear hq hto hok
   by_cases hlt : k < vn
   ·
    rcases own_row hoh with ⟨h, h0⟩ | ⟨H, hcap, h, hH, hHw, hn2⟩
    · exfalso; injection h with _ h; omega
    injection h with h1 h2 h3
    subst h1 h3
    clear h2
    have hvn2 : vn ≤ 9223372036854775807 := by have := HVN.out; omega
    have hHb := HFB.out H rfl
    obtain ⟨m, hm⟩ : ∃ m, p.froms[k]? = some m := ⟨p.froms[k]'(by have := HVN.out; omega), List.getElem?_eq_getElem _⟩
    have hlen := allTo_len (by have := HVN.out; omega) HTO.out
    have hat : (out ++ p.froms.drop k)[k]? = some m := by
     rw [List.getElem?_append_right (by omega), List.getElem?_drop, hlen]
     simpa using hm
    have hch : chunk cr 8 k = _ := hcr.chunk hat
    have hoh' : wr.ownsRow wa.heap.size 205 8 (.slice (some ⟨H, 0, none⟩) vn vc) vn cr := by have := HVN.out; rw [this] at hoh ⊢; exact hoh
    have e1 := own_cell hoh' hlt (by omega) hch (j := 1) rfl
    have e2 := own_cell hoh' hlt (by omega) hch (j := 2) rfl
    have f2 := hoh'.frozenAt (k * 8 + 2)
    have g2 := own_cell hog hi (by omega) HCB.out (j := 2) rfl
    have k1 := hrb.rb
    have k2 := hrb.ub
    obtain ⟨b1', b2', b3', fA', fn', fc', hbR', _, _, hm3', _⟩ := (HRES.out.below (mask_below hrb.gr hlo hGM)).unm
    have s2 := hbR'.cell 2
    have lR' := hbR'.lt
    simp only [List.getElem?_toArray, List.getElem?_cons_zero, List.getElem?_cons_succ] at s2
    have hget := col_get (schemaNames s) m.kind
    have HM3 := Lib.hid (hm3'.same (w' := wr.drew) rfl)
    have HRB := Lib.hid hrb
    have HOG := Lib.hid hog
    have HOH := Lib.hid hoh'
    have HCR := Lib.hid hcr
    have HMP := Lib.hid hmp
    have HM := Lib.hid hm
    have HLEN := Lib.hid hlen
    have HAT := Lib.hid hat
    clear hrb hog hoh hoh' hcr hmp hm hlen hat hch hbR' hm3'
    have hkn : (k : Int) < (vn : Int) := by omega
    have hk0 : (0 : Int) ≤ (k : Int) := by omega
    go_upto_region 9 with fail
    cases hix : idx (schemaNames s) m.kind with
    |
     none =>
     rw [hix] at hget
     have HNO : Hid (RetElem 83 5 qRuleR base G n cap i cs lo M (ruleP s p) w (.panicked nothingP) wr.drew) := by
      refine retElem_no ?_ (grown_drew HRB.out.gr)
      unfold ruleP
      rw [HIX.out]
      simp only
      rw [allP_none (k := k + 1) (by have := HVN.out; omega) (allTo_no HTO.out HM.out (by unfold fromStep; rw [hix]))]
     have HF := Lib.hid ((find_no b3' _ _ wr.drew HM3.out hget).mono (R' := fun e w' => e = .panicked nothingP ∧ w' = wr.drew) (fun _ _ h => ⟨h.1, h.2.symm⟩))
     clear hix hget
     refine wp_region_still_dies 9 [0, 1, 2, 3, 4, 5, 6, 7, 8] (fun l => l.take 9) (by kernel_rfl) rfl (by kernel_rfl) (fun d u c a h => by cases d <;> exact h) ?_
     simp only [List.take_succ_cons, List.take_zero]
     repeat still_step
     refine wpStill_nil ?_
     refine ⟨_, 189, #[.map (some b3'), .string m.kind], nothingP, rfl, rfl, ?_, HF.out, rfl, HNO.out⟩
     go_simp
    |
     some b =>
     rw [hix] at hget
     have HF := Lib.hid ((find_yes b3' _ _ (b : Int) wr.drew HM3.out hget).mono (R' := fun e w' => e = .returned (.int .i64 b) ∧ w' = wr.drew) (fun _ _ h => ⟨h.1, h.2.symm⟩))
     have HIB := Lib.hid hix
     have hbl := idx_lt hix
     clear hix hget
     obtain ⟨xb, hxb⟩ : ∃ x, s.schemas[b]? = some x := ⟨s.schemas[b]'(by simpa [schemaNames] using hbl), List.getElem?_eq_getElem _⟩
     have HXB := Lib.hid hxb
     clear hxb hbl
     refine wp_region_still_tail 12 (by kernel_rfl) (by kernel_rfl) ?_
     simp only [List.take_succ_cons, List.take_zero, List.drop_succ_cons, List.drop_zero]
     repeat still_step
     still_call HF.out
     repeat still_step
     refine wpStill_nil ?_
     change wpList _ _ _ _ _ wr.drew
     go_upto_region 10 with fail
     have hoq := (HOH.out.stored (k * 8 + 2) (.int .i64 b)).1.drew
     have hgq : wr.grownBy (wr.setCell ⟨H, k * 8 + 2, none⟩ (.int .i64 b)).drew (some H) := grown_drew (grown_near (World.grownBy.refl _ _) _ _)
     have hcq := from_put2 HCR.out HAT.out (b : Int)
     generalize (wr.setCell ⟨H, k * 8 + 2, none⟩ (.int .i64 b)).drew = wq at hoq hgq ⊢
     generalize cr.set (k * 8 + 2) (.int .i64 b) = cq at hoq hcq
     have hrq := HRB.out.far hgq (by omega) (by omega) (by omega) (by omega)
     have hogq := HOG.out.kept hgq (.inr (by simp [Value.ownBlock]; omega))
     have hmq : MapAt strW i64W wq vb (varsOf out) := HMP.out.keeps (KeepsMaps.grown hgq (fun x e => by cases e; exact own_cells HOH.out))
     have hkl : k < (out ++ p.froms.drop k).length := (List.getElem?_eq_some_iff.1 HAT.out).1
     have hatk : ((out ++ p.froms.drop k).set k { m with schema := (b : Int) })[k]? = some { m with schema := (b : Int) } := List.getElem?_set_self hkl
     have hck : chunk cq 8 k = _ := hcq.chunk hatk
     have gq2 := own_cell hogq hi (by omega) HCB.out (j := 2) rfl
     have HOQ := Lib.hid hoq
     have HCQ := Lib.hid hcq
     have HRQ := Lib.hid hrq
     have HOGQ := Lib.hid hogq
     have HMQ := Lib.hid hmq
     have HATK := Lib.hid hatk
     have HCK := Lib.hid hck
     clear hoq hcq hrq hogq hmq hgq hkl hatk hck e1 e2 f2 g2 k1 k2 s2 lR' HF HM3 HRB HOG HOH HCR HMP
     go_wp2_with fail
     have hnum := number_any (vb + 1) w.heap.size (w.heap.size + 1) vb R G (i * 5) H vn vc wa.heap.size 8 H vn vc (k * 8 + 3) 205 cq s (varsOf out) out m.of_ wq HRQ.out.vv (by omega) HRQ.out.rb (by omega) HRQ.out.ub (by omega) (fun _ => gq2) (by omega) HMQ.out (res_hide HRES.out HRQ.out.gr hlo hGM (by omega))
      (fun v hv => by
       obtain ⟨n', rfl, hn', f, hf, _⟩ := varsN_get out _ _ v hv
       obtain ⟨a', sc, ha', hs'⟩ := HOK.out f (List.mem_of_getElem? hf)
       have hl := HLEN.out
       have hatn : ((out ++ p.froms.drop k).set k { m with schema := (b : Int) })[n']? = some f := by rw [List.getElem?_set_ne (by omega), List.getElem?_append_left (by omega)]; exact hf
       have hcn : chunk cq 8 n' = _ := HCQ.out.chunk hatn
       refine ⟨n', a', f, sc, rfl, by omega, hvn2, hf, ha', hs', ?_, .inr (by omega)⟩
       have := own_cell HOQ.out (show n' < vn by omega) (by omega) hcn (j := 2) rfl
       rw [ha'] at this
       exact this)
      HOQ.out (chunk_get HCK.out (by omega) rfl) (chunk_get HCK.out (by omega) (j := 4) rfl) (chunk_get HCK.out (by omega) (j := 5) rfl) (chunk_get HCK.out (by omega) (j := 6) rfl)
     refine hnum.mono ?_
     clear hnum
     rintro e w' ⟨hg', hr⟩
     cases htp : termP s (varsOf out) out m.of_ with
     |
      none =>
      rw [htp] at hr
      subst hr
      have HNO : Hid (RetElem 83 5 qRuleR base G n cap i cs lo M (ruleP s p) w (.panicked nothingP) w') := by
       refine retElem_no ?_ (grown_mid HRQ.out.gr hg' (by omega))
       unfold ruleP
       rw [HIX.out]
       simp only
       rw [allP_none (k := k + 1) (by have := HVN.out; omega) (allTo_no HTO.out HM.out (by unfold fromStep; rw [HIB.out]; simp only; rw [htp]; rfl))]
      clear htp hg'
      go_wp2
      exact ⟨rfl, HNO.out⟩
     |
      some t' =>
      rw [htp] at hr
      obtain ⟨rfl, ho'⟩ := hr
      have hr' := HRQ.out.far hg' (by omega) (by omega) (by omega) (by omega)
      have hog' := HOGQ.out.kept hg' (.inr (by simp [Value.ownBlock]; omega))
      have hm' : MapAt strW i64W w' vb (varsOf out) := HMQ.out.keeps (KeepsMaps.grown hg' (fun x e => by cases e; exact own_cells HOQ.out))
      have hc' := from_putT HCQ.out HATK.out t' (termP_same htp)
      rw [List.set_set] at hc'
      have hat' : ((out ++ p.froms.drop k).set k { m with schema := (b : Int), of_ := t' })[k]? = some { m with schema := (b : Int), of_ := t' } := List.getElem?_set_self (List.getElem?_eq_some_iff.1 HAT.out).1
      have hck' : chunk _ 8 k = _ := hc'.chunk hat'
      have d0 := own_cell ho' hlt (by omega) hck' (j := 0) rfl
      simp only [Nat.add_zero] at d0
      have k3 := hr'.vv
      obtain ⟨w3, hrun3, hm3, hg3⟩ := run_update_m (keyEq_string Tryz.underlying9) Tryz.underlying179 (hm'.same (w' := w'.drew) rfl) m.name (k : Int)
      have hr3 := hr'.drew.far hg3 (by omega) (by omega) (by omega) (by omega)
      have hog3 := hog'.drew.kept hg3 (.inr (by simp [Value.ownBlock]; omega))
      have ho3 := ho'.drew.kept hg3 (.inr (by simp [Value.ownBlock]; omega))
      have HST : Hid (fromStep s out m = some { m with schema := (b : Int), of_ := t' }) := Lib.hid (by unfold fromStep; rw [HIB.out]; simp only; rw [htp]; rfl)
      have HC' := Lib.hid hc'
      have HR3 := Lib.hid hr3
      have HOG3 := Lib.hid hog3
      have HO3 := Lib.hid ho3
      have HM3 := Lib.hid hm3
      clear hr' hog' hm' hc' hat' hck' ho' hg' hg3 hr3 hog3 ho3 hm3 htp HRQ HOGQ HOQ HMQ HCQ gq2 HATK HCK
      go_wp2_with fail
      go_still_tail 6, (by kernel_rfl)
      change wpList _ _ _ _ _ w'.drew
      go_wp2_with fail
      go_roundg (vn - (k + 1))
      case measure => have := HQ.out; omega
      case rel =>
       refine ⟨k + 1, out ++ [{ m with schema := (b : Int), of_ := t' }], (cq.set (k * 8 + 3 + 2) (.int .i64 t'.var)).set (k * 8 + 3 + 3) (.int .i64 t'.field), by omega, rfl, by go_num, allTo_yes HTO.out HM.out HST.out, HR3.out, HOG3.out, ?_, ?_, ?_, ?_⟩
       rotate_left 1
       · rw [← set_drop HLEN.out HM.out]; exact HC'.out
       · rw [varsOf_snoc, HLEN.out]; exact HM3.out
       ·
        intro f hf
        rw [List.mem_append, List.mem_singleton] at hf
        rcases hf with hf | rfl
        · exact HOK.out f hf
        · exact ⟨b, xb, rfl, HXB.out⟩
       · have h3 := HO3.out; have := HVN.out; rw [this] at h3 ⊢; exact h3
   ·
    have hke : k = p.froms.length := by have := HVN.out; omega
    have hcf : CellsR 8 qFromR w cr out := by rw [hke, List.drop_length, List.append_nil] at hcr; exact hcr
    have HFO : Hid (allP (fromStep s) p.froms = some out) := Lib.hid (by unfold allP; rw [← hke]; exact HTO.out)
    obtain ⟨wz, rfl⟩ : ∃ x, x = wr := ⟨_, rfl⟩
    have hol : out.length = vn := by rw [allTo_len (by omega) HTO.out]; have := HVN.out; omega
    have hoh' : wz.ownsRow wa.heap.size 205 8 (.slice vA vn vc) vn cr := by have := HVN.out; rw [this] at hoh ⊢; exact hoh
    have hGz : G < wz.heap.size := Nat.lt_of_lt_of_le hGw hrb.gr.size
    have hvz : vb + 1 < wz.heap.size := by
     have := hrb.vv
     rcases Nat.lt_or_ge (vb + 1) wz.heap.size with h | h
     · exact h
     · simp [World.cell?, Array.getElem?_eq_none h] at this
    have g3 := own_cell hog hi (by omega) HCB.out (j := 3) rfl
    have fg3 := hog.frozenAt (i * 5 + 3)
    have k2 := hrb.ub
    have HWW := Lib.hid (show SlB 11 120 qAtomR wz.drew (.slice A2 n2 c2) p.where_ from ((HWH.out.mono qAtomR_mono (mask_below hrb.gr hlo hGM)).unm qAtomR_unm).mono qAtomR_mono (Below.refl _ _).drew)
    have HRB := Lib.hid hrb
    have HOG := Lib.hid hog
    have HOH := Lib.hid hoh'
    have HCF := Lib.hid hcf
    have HMP := Lib.hid hmp
    have HOL := Lib.hid hol
    have HVZ := Lib.hid hvz
    clear hrb hog hoh hoh' hcr hcf hmp HTO HQ hol hvz
    go_upto_region 13 with fail
    apply wp_via3 (G := fun xA xn xc w4 => ∃ cs4, RB w R G (i * 5) w.heap.size (w.heap.size + 1) (vb + 1) vb w4 ∧ w4.ownsRow base 83 5 (.slice (some ⟨G, 0, none⟩) n cap) n (cb.set (i * 5 + 3) (.slice xA xn xc)) ∧ w4.ownsRow wz.heap.size 192 11 (.slice xA xn xc) p.where_.length cs4 ∧ CellsR 11 qAtomR w cs4 p.where_ ∧ xn = p.where_.length ∧
     w4.ownsRow wa.heap.size 205 8 (.slice vA vn vc) vn cr ∧ MapAt strW i64W w4 vb (varsOf out) ∧ wz.heap.size ≤ w4.heap.size)
    ·
     go_region_law (first
      | (
       refine step_call_any (by rfl) 194 #[.slice A2 n2 c2] (by go_simp) (cloneAtom_any A2 n2 c2 p.where_ _ HWW.out) ?_
       rintro e w1 ⟨v, cs4, rfl, hcs1, ho1, hb1⟩
       refine ⟨_, rfl, ?_⟩
       obtain ⟨xA, xn, xc, rfl, hxn⟩ := own_form' ho1
       have q2 : w1.cell? ⟨G, i * 5 + 3, none⟩ = some (.slice A2 n2 c2) := ((bcell hb1).1 _ _ hGz).trans g3
       have hf2 : w1.frozen? ⟨G, i * 5 + 3, none⟩ = false := ((bcell hb1).2 _ _ hGz).trans fg3
       have ku1 := ((HRB.out.drew).below hb1).ub
       have HO1 := Lib.hid ho1
       have HC4 := Lib.hid hcs1
       have HB1 := Lib.hid hb1
       have HXN := Lib.hid hxn
       clear ho1 hcs1 hb1 hxn))
     all_goals
      have hg2 : w1.grownBy (w1.setCell ⟨G, i * 5 + 3, none⟩ (.slice xA xn xc)) (some G) := grown_near (World.grownBy.refl _ _) _ _
      exact ⟨xA, xn, xc, rfl, cs4, ((HRB.out.drew).below HB1.out).near hg2 (by omega) (by omega) (by omega), ((own_below0 HOG.out.drew HB1.out).stored (i * 5 + 3) (.slice xA xn xc)).1, own_far HO1.out (by simpa using hGz) _, HC4.out, HXN.out, (own_below0 HOH.out.drew HB1.out).kept hg2 (.inr (fun e => by have := (HFB.out _ e).1; omega)),
       ((HMP.out.same (w' := wz.drew) rfl).below HB1.out).keeps (KeepsMaps.put _ _ _), by have := HB1.out.size; simp [World.setCell] at this ⊢; exact this⟩
    rintro xA xn xc w4 ⟨cs4, hr4, hog4, ho4, hc4, hxn, hof4, hm4, hz4⟩
    have hcc : chunk (cb.set (i * 5 + 3) (.slice xA xn xc)) 5 i = [.string p.head, .int .i64 a, .slice vA vn vc, .slice xA xn xc, .slice A3 n3 c3] := by
     rw [chunk_set _ (by omega), HCB.out]; rfl
    have hotc : ∀ j, j ≠ i → chunk (cb.set (i * 5 + 3) (.slice xA xn xc)) 5 j = chunk cs 5 j := fun j hj => by rw [chunk_other _ (by omega) hj]; exact HOTB.out j hj
    generalize cb.set (i * 5 + 3) (.slice xA xn xc) = cc at hog4 hcc hotc
    have g3' := own_cell hog4 hi (by omega) hcc (j := 3) rfl
    have ku4 := hr4.ub
    have hzz : vb + 1 < wz.heap.size := HVZ.out
    have HR4 := Lib.hid hr4
    have HOG4 := Lib.hid hog4
    have HO4 := Lib.hid ho4
    have HC4 := Lib.hid hc4
    have HXN := Lib.hid hxn
    have HOF4 := Lib.hid hof4
    have HM4 := Lib.hid hm4
    have HCC := Lib.hid hcc
    have HOTC := Lib.hid hotc
    clear hr4 hog4 ho4 hc4 hxn hof4 hm4 hcc hotc HRB HOG HOH HMP HCB HOTB g3 fg3 k2 HWW HWH
    go_wp2_with fail
    clear g3' ku4
    go_loopg [83] xn (fun q j wr => ∃ (k : Nat) (ou : List QAtom) (cr2 : List Value), k ≤ xn ∧ q = xn - k ∧ j = .int .i64 k ∧ allTo (fun _ => atomStep s out) p.where_ k = some ou ∧ RB w R G (i * 5) w.heap.size (w.heap.size + 1) (vb + 1) vb wr ∧ wr.ownsRow base 83 5 (.slice (some ⟨G, 0, none⟩) n cap) n cc ∧
     wr.ownsRow wz.heap.size 192 11 (.slice xA xn xc) p.where_.length cr2 ∧ CellsR 11 qAtomR w cr2 (ou ++ p.where_.drop k) ∧ wr.ownsRow wa.heap.size 205 8 (.slice vA vn vc) vn cr ∧ MapAt strW i64W wr vb (varsOf out))
    case atStart => exact ⟨0, [], cs4, Nat.zero_le _, rfl, rfl, rfl, HR4.out, HOG4.out, HO4.out, HC4.out, HOF4.out, HM4.out⟩
    case round =>
     clear HR4 HOG4 HO4 HC4 HOF4 HM4
     obtain ⟨k', ou, cr2, hk', hq', rfl, hto', hrb, hog, hoh, hcr2, hof, hmp⟩ := hrel
     have HQ := Lib.hid hq'
     have HTO := Lib.hid hto'
     clear hq' hto'
     by_cases hlt' : k' < xn
     ·
      rcases own_row hoh with ⟨h, h0⟩ | ⟨H, hcap, h, hH, hHw, hn2⟩
      · exfalso; injection h with _ h; omega
      injection h with h1 h2 h3
      subst h1 h3
      clear h2
      have hxn2 : xn ≤ 9223372036854775807 := by have := HXN.out; omega
      obtain ⟨m, hm⟩ : ∃ m, p.where_[k']? = some m := ⟨p.where_[k']'(by have := HXN.out; omega), List.getElem?_eq_getElem _⟩
      have hlen := allTo_len (by have := HXN.out; omega) HTO.out
      have hat : (ou ++ p.where_.drop k')[k']? = some m := by
       rw [List.getElem?_append_right (by omega), List.getElem?_drop, hlen]
       simpa using hm
      have hch : chunk cr2 11 k' = _ := hcr2.chunk hat
      have hoh' : wr.ownsRow wz.heap.size 192 11 (.slice (some ⟨H, 0, none⟩) xn xc) xn cr2 := by have := HXN.out; rw [this] at hoh ⊢; exact hoh
      have g2 := own_cell hog hi (by omega) HCC.out (j := 2) rfl
      have g3 := own_cell hog hi (by omega) HCC.out (j := 3) rfl
      have k2 := hrb.ub
      have hnF : ∀ r, (Value.slice vA vn vc).ownBlock = some r → r ≠ H := fun r e => by have := (HFB.out r e).2; omega
      have HNF := Lib.hid hnF
      have HN1 := Lib.hid (number_far (ot := k' * 11 + 1) (t := m.a) hrb g2 hof HCF.out HOL.out HOK.out hmp HRES.out hlo hGM (by omega) (by omega) (by omega) (by omega) (by omega) hnF hoh' (chunk_get hch (by omega) (j := 1) rfl) (chunk_get hch (by omega) (j := 2) rfl) (chunk_get hch (by omega) (j := 3) rfl) (chunk_get hch (by omega) (j := 4) rfl))
      have HRB := Lib.hid hrb
      have HOG := Lib.hid hog
      have HOH := Lib.hid hoh'
      have HCR := Lib.hid hcr2
      have HOF := Lib.hid hof
      have HMP := Lib.hid hmp
      have HM := Lib.hid hm
      have HLEN := Lib.hid hlen
      have HAT := Lib.hid hat
      clear hrb hog hoh hoh' hcr2 hof hmp hm hlen hat hch hnF
      have hkn : (k' : Int) < (xn : Int) := by omega
      have hk0 : (0 : Int) ≤ (k' : Int) := by omega
      go_wp2_with fail
      refine HN1.out.mono ?_
      rintro e w' ⟨hg', hr⟩
      have hNone : (termP s (varsOf out) out m.a = none ∨ termP s (varsOf out) out m.b = none) → ruleP s p = none := fun hh => by
       unfold ruleP
       rw [HIX.out]
       simp only
       rw [HFO.out]
       simp only
       rw [allP_none (k := k' + 1) (by have := HXN.out; omega) (allTo_no HTO.out HM.out (by
        unfold atomStep
        rcases hh with hh | hh
        · rw [hh]
        · rw [hh]; cases termP s (varsOf out) out m.a <;> rfl))]
      have HNONE := Lib.hid hNone
      clear hNone HN1
      cases htp : termP s (varsOf out) out m.a with
      |
       none =>
       rw [htp] at hr
       subst hr
       have HNO : Hid (RetElem 83 5 qRuleR base G n cap i cs lo M (ruleP s p) w (.panicked nothingP) w') := Lib.hid (retElem_no (HNONE.out (.inl htp)) (grown_mid HRB.out.gr hg' (by omega)))
       clear htp hg'
       go_wp2
       exact ⟨rfl, HNO.out⟩
      |
       some t' =>
       rw [htp] at hr
       obtain ⟨rfl, ho'⟩ := hr
       have hr' := HRB.out.far hg' (by omega) (by omega) (by omega) (by omega)
       have hog' := HOG.out.kept hg' (.inr (by simp [Value.ownBlock]; omega))
       have hof' := HOF.out.kept hg' (.inr (fun e => HNF.out _ e rfl))
       have hm' : MapAt strW i64W w' vb (varsOf out) := HMP.out.keeps (KeepsMaps.grown hg' (fun x e => by cases e; exact own_cells HOH.out))
       have hc' := atom_putA HCR.out HAT.out t' (termP_same htp)
       have hat' : ((ou ++ p.where_.drop k').set k' { m with a := t' })[k']? = some { m with a := t' } := List.getElem?_set_self (List.getElem?_eq_some_iff.1 HAT.out).1
       have hck' : chunk _ 11 k' = _ := hc'.chunk hat'
       have g2' := own_cell hog' hi (by omega) HCC.out (j := 2) rfl
       have g3' := own_cell hog' hi (by omega) HCC.out (j := 3) rfl
       have k2' := hr'.ub
       have HN2 := Lib.hid (number_far (ot := k' * 11 + 6) (t := m.b) hr' g2' hof' HCF.out HOL.out HOK.out hm' HRES.out hlo hGM (by omega) (by omega) (by omega) (by omega) (by omega) HNF.out ho' (chunk_get hck' (by omega) (j := 6) rfl) (chunk_get hck' (by omega) (j := 7) rfl) (chunk_get hck' (by omega) (j := 8) rfl) (chunk_get hck' (by omega) (j := 9) rfl))
       have HTA := Lib.hid htp
       have HR' := Lib.hid hr'
       have HOG' := Lib.hid hog'
       have HOF' := Lib.hid hof'
       have HM' := Lib.hid hm'
       have HC' := Lib.hid hc'
       have HAT' := Lib.hid hat'
       have HO' := Lib.hid ho'
       clear hr' hog' hof' hm' hc' hat' hck' htp ho' hg' g2 g3 k2 HRB HOG HOF HMP HCR HOH
       go_wp2_with fail
       refine HN2.out.mono ?_
       rintro e w'' ⟨hg'', hr⟩
       clear HN2
       cases htp : termP s (varsOf out) out m.b with
       |
        none =>
        rw [htp] at hr
        subst hr
        have HNO : Hid (RetElem 83 5 qRuleR base G n cap i cs lo M (ruleP s p) w (.panicked nothingP) w'') := Lib.hid (retElem_no (HNONE.out (.inr htp)) (grown_mid HR'.out.gr hg'' (by omega)))
        clear htp hg''
        go_wp2
        exact ⟨rfl, HNO.out⟩
       |
        some t'' =>
        rw [htp] at hr
        obtain ⟨rfl, ho''⟩ := hr
        have hc'' := atom_putB HC'.out HAT'.out t'' (termP_same htp)
        rw [List.set_set] at hc''
        have HST : Hid (atomStep s out m = some { m with a := t', b := t'' }) := Lib.hid (by unfold atomStep; rw [HTA.out, htp])
        have HC'' := Lib.hid hc''
        have HO'' := Lib.hid ho''
        have HG'' := Lib.hid hg''
        clear hc'' ho'' hg'' htp g2' g3' k2'
        go_wp2_with fail
        go_roundg (xn - (k' + 1))
        case measure => have := HQ.out; omega
        case rel =>
         refine ⟨k' + 1, ou ++ [{ m with a := t', b := t'' }], _, by omega, rfl, by go_num, allTo_yes HTO.out HM.out HST.out, HR'.out.far HG''.out (by omega) (by omega) (by omega) (by omega), HOG'.out.kept HG''.out (.inr (by simp [Value.ownBlock]; omega)), ?_, by rw [← set_drop HLEN.out HM.out]; exact HC''.out, HOF'.out.kept HG''.out (.inr (fun e => HNF.out _ e rfl)), HM'.out.keeps (KeepsMaps.grown HG''.out (fun x e => by cases e; exact own_cells HO'.out))⟩
         have h3 := HO''.out; have := HXN.out; rw [this] at h3 ⊢; exact h3
     ·
      have hke' : k' = p.where_.length := by have := HXN.out; omega
      have hca : CellsR 11 qAtomR w cr2 ou := by rw [hke', List.drop_length, List.append_nil] at hcr2; exact hcr2
      have HAO : Hid (allP (fun _ => atomStep s out) p.where_ = some ou) := Lib.hid (by unfold allP; rw [← hke']; exact HTO.out)
      obtain ⟨wy, rfl⟩ : ∃ x, x = wr := ⟨_, rfl⟩
      have hal2 : ou.length = xn := by rw [allTo_len (by omega) HTO.out]; have := HXN.out; omega
      have hGy : G < wy.heap.size := Nat.lt_of_lt_of_le hGw hrb.gr.size
      have hvy : vb + 1 < wy.heap.size := by
       have := hrb.vv
       rcases Nat.lt_or_ge (vb + 1) wy.heap.size with h | h
       · exact h
       · simp [World.cell?, Array.getElem?_eq_none h] at this
      have hxb : ∀ r, (Value.slice xA xn xc).ownBlock = some r → wz.heap.size ≤ r ∧ r < wy.heap.size := fun r e => hoh.lt r e
      have g4 := own_cell hog hi (by omega) HCC.out (j := 4) rfl
      have fg4 := hog.frozenAt (i * 5 + 4)
      have k2 := hrb.ub
      have HWW := Lib.hid (show SlB 7 80 qSetR wy.drew (.slice A3 n3 c3) p.sets from ((HSE.out.mono qSetR_mono (mask_below hrb.gr hlo hGM)).unm qSetR_unm).mono qSetR_mono (Below.refl _ _).drew)
      have HRB := Lib.hid hrb
      have HOG := Lib.hid hog
      have HOH := Lib.hid hoh
      have HCA := Lib.hid hca
      have HOF := Lib.hid hof
      have HMP := Lib.hid hmp
      have HAL := Lib.hid hal2
      have HVY := Lib.hid hvy
      have HXB := Lib.hid hxb
      clear hrb hog hoh hcr2 hca hof hmp HTO HQ hal2 hvy hxb
      go_upto_region 20 with fail
      apply wp_via3 (G := fun yA yn yc w4 => ∃ cs5, RB w R G (i * 5) w.heap.size (w.heap.size + 1) (vb + 1) vb w4 ∧ w4.ownsRow base 83 5 (.slice (some ⟨G, 0, none⟩) n cap) n (cc.set (i * 5 + 4) (.slice yA yn yc)) ∧ w4.ownsRow wy.heap.size 195 7 (.slice yA yn yc) p.sets.length cs5 ∧ CellsR 7 qSetR w cs5 p.sets ∧ yn = p.sets.length ∧
       w4.ownsRow wa.heap.size 205 8 (.slice vA vn vc) vn cr ∧ MapAt strW i64W w4 vb (varsOf out) ∧ w4.ownsRow wz.heap.size 192 11 (.slice xA xn xc) p.where_.length cr2 ∧ wy.heap.size ≤ w4.heap.size)
      ·
       go_region_law (first
        | (
         refine step_call_any (by rfl) 195 #[.slice A3 n3 c3] (by go_simp) (cloneSet_any A3 n3 c3 p.sets _ HWW.out) ?_
         rintro e w1 ⟨v, cs5, rfl, hcs1, ho1, hb1⟩
         refine ⟨_, rfl, ?_⟩
         obtain ⟨yA, yn, yc, rfl, hyn⟩ := own_form' ho1
         have q2 : w1.cell? ⟨G, i * 5 + 4, none⟩ = some (.slice A3 n3 c3) := ((bcell hb1).1 _ _ hGy).trans g4
         have hf2 : w1.frozen? ⟨G, i * 5 + 4, none⟩ = false := ((bcell hb1).2 _ _ hGy).trans fg4
         have ku1 := ((HRB.out.drew).below hb1).ub
         have HO1 := Lib.hid ho1
         have HC4 := Lib.hid hcs1
         have HB1 := Lib.hid hb1
         have HYN := Lib.hid hyn
         clear ho1 hcs1 hb1 hyn))
       all_goals
        have hg2 : w1.grownBy (w1.setCell ⟨G, i * 5 + 4, none⟩ (.slice yA yn yc)) (some G) := grown_near (World.grownBy.refl _ _) _ _
        exact ⟨yA, yn, yc, rfl, cs5, ((HRB.out.drew).below HB1.out).near hg2 (by omega) (by omega) (by omega), ((own_below0 HOG.out.drew HB1.out).stored (i * 5 + 4) (.slice yA yn yc)).1, own_far HO1.out (by simpa using hGy) _, HC4.out, HYN.out, (own_below0 HOF.out.drew HB1.out).kept hg2 (.inr (fun e => by have := (HFB.out _ e).1; omega)),
         ((HMP.out.same (w' := wy.drew) rfl).below HB1.out).keeps (KeepsMaps.put _ _ _), (own_below0 HOH.out.drew HB1.out).kept hg2 (.inr (fun e => by have := (HXB.out _ e).1; omega)), by have := HB1.out.size; simp [World.setCell] at this ⊢; exact this⟩
      rintro yA yn yc w4 ⟨cs5, hr4, hog4, ho4, hc4, hyn, hof4, hm4, hoa4, hz4⟩
      have hcd : chunk (cc.set (i * 5 + 4) (.slice yA yn yc)) 5 i = [.string p.head, .int .i64 a, .slice vA vn vc, .slice xA xn xc, .slice yA yn yc] := by
       rw [chunk_set _ (by omega), HCC.out]; rfl
      have hotd : ∀ j, j ≠ i → chunk (cc.set (i * 5 + 4) (.slice yA yn yc)) 5 j = chunk cs 5 j := fun j hj => by rw [chunk_other _ (by omega) hj]; exact HOTC.out j hj
      generalize cc.set (i * 5 + 4) (.slice yA yn yc) = cd at hog4 hcd hotd
      have g4' := own_cell hog4 hi (by omega) hcd (j := 4) rfl
      have ku4 := hr4.ub
      have hyy : vb + 1 < wy.heap.size := HVY.out
      have HR4 := Lib.hid hr4
      have HOG4 := Lib.hid hog4
      have HO4 := Lib.hid ho4
      have HC4 := Lib.hid hc4
      have HYN := Lib.hid hyn
      have HOF4 := Lib.hid hof4
      have HM4 := Lib.hid hm4
      have HOA4 := Lib.hid hoa4
      have HCD := Lib.hid hcd
      have HOTD := Lib.hid hotd
      clear hr4 hog4 ho4 hc4 hyn hof4 hm4 hoa4 hcd hotd HRB HOG HOH HOF HMP HCC HOTC g4 fg4 k2 HWW
      go_wp2_with fail
      clear g4' ku4
      go_loopg [118] yn (fun q j wr => ∃ (k : Nat) (ov : List QSet) (cr3 : List Value), k ≤ yn ∧ q = yn - k ∧ j = .int .i64 k ∧ allTo (fun _ => setStep s xa out) p.sets k = some ov ∧ RB w R G (i * 5) w.heap.size (w.heap.size + 1) (vb + 1) vb wr ∧ wr.ownsRow base 83 5 (.slice (some ⟨G, 0, none⟩) n cap) n cd ∧
       wr.ownsRow wy.heap.size 195 7 (.slice yA yn yc) p.sets.length cr3 ∧ CellsR 7 qSetR w cr3 (ov ++ p.sets.drop k) ∧ wr.ownsRow wa.heap.size 205 8 (.slice vA vn vc) vn cr ∧ MapAt strW i64W wr vb (varsOf out) ∧ wr.ownsRow wz.heap.size 192 11 (.slice xA xn xc) p.where_.length cr2)
      case atStart => exact ⟨0, [], cs5, Nat.zero_le _, rfl, rfl, rfl, HR4.out, HOG4.out, HO4.out, HC4.out, HOF4.out, HM4.out, HOA4.out⟩
      case round =>
       clear HR4 HOG4 HO4 HC4 HOF4 HM4 HOA4
       obtain ⟨k2, ov, cr3, hk2, hq2, rfl, hto2, hrb, hog, hoh, hcr3, hof, hmp, hoa⟩ := hrel
       have HQ := Lib.hid hq2
       have HTO := Lib.hid hto2
       clear hq2 hto2
       by_cases hlt2 : k2 < yn
       ·
        rcases own_row hoh with ⟨h, h0⟩ | ⟨H, hcap, h, hH, hHw, hn2⟩
        · exfalso; injection h with _ h; omega
        injection h with h1 h2 h3
        subst h1 h3
        clear h2
        have hyn2 : yn ≤ 9223372036854775807 := by have := HYN.out; omega
        obtain ⟨m, hm⟩ : ∃ m, p.sets[k2]? = some m := ⟨p.sets[k2]'(by have := HYN.out; omega), List.getElem?_eq_getElem _⟩
        have hlen := allTo_len (by have := HYN.out; omega) HTO.out
        have hat : (ov ++ p.sets.drop k2)[k2]? = some m := by
         rw [List.getElem?_append_right (by omega), List.getElem?_drop, hlen]
         simpa using hm
        have hch : chunk cr3 7 k2 = _ := hcr3.chunk hat
        have hoh' : wr.ownsRow wy.heap.size 195 7 (.slice (some ⟨H, 0, none⟩) yn yc) yn cr3 := by have := HYN.out; rw [this] at hoh ⊢; exact hoh
        have e0 := own_cell hoh' hlt2 (by omega) hch (j := 0) rfl
        simp only [Nat.add_zero] at e0
        have e1 := own_cell hoh' hlt2 (by omega) hch (j := 1) rfl
        have f1 := hoh'.frozenAt (k2 * 7 + 1)
        have g1 := own_cell hog hi (by omega) HCD.out (j := 1) rfl
        have g4 := own_cell hog hi (by omega) HCD.out (j := 4) rfl
        have kr := hrb.rb
        have ku := hrb.ub
        obtain ⟨b1', b2', b3', fA', fl, fc', hbR', _, _, _, hfs'⟩ := (HRES.out.below (mask_below hrb.gr hlo hGM)).unm
        have s3 := hbR'.cell 3
        have lR' := hbR'.lt
        simp only [List.getElem?_toArray, List.getElem?_cons_zero, List.getElem?_cons_succ] at s3
        have hafl : a < fl := by
         have := hfs'.len
         rw [this, List.length_map]
         exact (List.getElem?_eq_some_iff.1 HXA.out).1
        have hflm : fl ≤ 9223372036854775807 := by have := hfs'.le; omega
        obtain ⟨fb, foff, fm, fg, rfl, hfb, hfm, hfc, hfmap⟩ := map_at hfs' hafl
        have hfx : fm = fieldMap xa := by rw [List.getElem?_map, HXA.out, Option.map_some, Option.some.injEq] at hfm; exact hfm.symm
        subst hfx
        have hget := col_get (fieldNames xa) m.path
        have HFM := Lib.hid (hfmap.same (w' := wr.drew) rfl)
        have hnF : ∀ r, (Value.slice vA vn vc).ownBlock = some r → r ≠ H := fun r e => by have := (HFB.out r e).2; omega
        have hnA : ∀ r, (Value.slice xA xn xc).ownBlock = some r → r ≠ H := fun r e => by have := (HXB.out r e).2; omega
        have HNF := Lib.hid hnF
        have HNA := Lib.hid hnA
        have HRB := Lib.hid hrb
        have HOG := Lib.hid hog
        have HOH := Lib.hid hoh'
        have HCR := Lib.hid hcr3
        have HOF := Lib.hid hof
        have HMP := Lib.hid hmp
        have HOA := Lib.hid hoa
        have HM := Lib.hid hm
        have HLEN := Lib.hid hlen
        have HAT := Lib.hid hat
        clear hrb hog hoh hoh' hcr3 hof hmp hoa hm hlen hat hch hnF hnA hfs' hfm hfmap hbR'
        have hkn : (k2 : Int) < (yn : Int) := by omega
        have hk0 : (0 : Int) ≤ (k2 : Int) := by omega
        have ha0 : (0 : Int) ≤ (a : Int) := by omega
        have han : (a : Int) < (fl : Int) := by omega
        have hNone : (idx (fieldNames xa) m.path = none ∨ termP s (varsOf out) out m.term = none) → ruleP s p = none := fun hh => by
         unfold ruleP
         rw [HIX.out]
         simp only
         rw [HFO.out]
         simp only
         rw [HAO.out]
         simp only
         rw [HXA.out]
         simp only
         rw [allP_none (k := k2 + 1) (by have := HYN.out; omega) (allTo_no HTO.out HM.out (by
          unfold setStep
          rcases hh with hh | hh
          · rw [hh]
          · rw [hh]; cases idx (fieldNames xa) m.path <;> rfl))]
        have HNONE := Lib.hid hNone
        clear hNone
        go_upto_region 24 with fail
        cases hix : idx (fieldNames xa) m.path with
        |
         none =>
         rw [hix] at hget
         have HNO : Hid (RetElem 83 5 qRuleR base G n cap i cs lo M (ruleP s p) w (.panicked nothingP) wr.drew) := Lib.hid (retElem_no (HNONE.out (.inl hix)) (grown_drew HRB.out.gr))
         have HF := Lib.hid ((find_no fg _ _ wr.drew HFM.out hget).mono (R' := fun e w' => e = .panicked nothingP ∧ w' = wr.drew) (fun _ _ h => ⟨h.1, h.2.symm⟩))
         clear hix hget
         refine wp_region_still_dies 23 [0, 1, 2, 3, 4, 5, 6, 7, 8, 9, 10, 11, 12, 13, 14, 15, 16, 17, 18, 19, 20, 21, 22] (fun l => l.take 23) (by kernel_rfl) rfl (by kernel_rfl) (fun d u c a h => by cases d <;> exact h) ?_
         simp only [List.take_succ_cons, List.take_zero]
         repeat still_step
         refine wpStill_nil ?_
         refine ⟨_, 189, #[.map (some fg), .string m.path], nothingP, rfl, rfl, ?_, HF.out, rfl, HNO.out⟩
         go_simp
        |
         some f =>
         rw [hix] at hget
         have HF := Lib.hid ((find_yes fg _ _ (f : Int) wr.drew HFM.out hget).mono (R' := fun e w' => e = .returned (.int .i64 f) ∧ w' = wr.drew) (fun _ _ h => ⟨h.1, h.2.symm⟩))
         have HIF := Lib.hid hix
         clear hix hget
         refine wp_region_still_tail 26 (by kernel_rfl) (by kernel_rfl) ?_
         simp only [List.take_succ_cons, List.take_zero, List.drop_succ_cons, List.drop_zero]
         repeat still_step
         still_call HF.out
         repeat still_step
         refine wpStill_nil ?_
         change wpList _ _ _ _ _ wr.drew
         go_upto_region 25 with fail
         have hoq := (HOH.out.stored (k2 * 7 + 1) (.int .i64 f)).1.drew
         have hgq : wr.grownBy (wr.setCell ⟨H, k2 * 7 + 1, none⟩ (.int .i64 f)).drew (some H) := grown_drew (grown_near (World.grownBy.refl _ _) _ _)
         have hcq := set_put1 HCR.out HAT.out (f : Int)
         generalize (wr.setCell ⟨H, k2 * 7 + 1, none⟩ (.int .i64 f)).drew = wq at hoq hgq ⊢
         generalize cr3.set (k2 * 7 + 1) (.int .i64 f) = cq at hoq hcq
         have hrq := HRB.out.far hgq (by omega) (by omega) (by omega) (by omega)
         have hogq := HOG.out.kept hgq (.inr (by simp [Value.ownBlock]; omega))
         have hofq := HOF.out.kept hgq (.inr (fun e => HNF.out _ e rfl))
         have hoaq := HOA.out.kept hgq (.inr (fun e => HNA.out _ e rfl))
         have hmq : MapAt strW i64W wq vb (varsOf out) := HMP.out.keeps (KeepsMaps.grown hgq (fun x e => by cases e; exact own_cells HOH.out))
         have hatk : ((ov ++ p.sets.drop k2).set k2 { m with field := (f : Int) })[k2]? = some { m with field := (f : Int) } := List.getElem?_set_self (List.getElem?_eq_some_iff.1 HAT.out).1
         have hck : chunk cq 7 k2 = _ := hcq.chunk hatk
         have gq2 := own_cell hogq hi (by omega) HCD.out (j := 2) rfl
         have gq4 := own_cell hogq hi (by omega) HCD.out (j := 4) rfl
         have kuq := hrq.ub
         have HN1 := Lib.hid (number_far (ot := k2 * 7 + 2) (t := m.term) hrq gq2 hofq HCF.out HOL.out HOK.out hmq HRES.out hlo hGM (by omega) (by omega) (by omega) (by omega) (by omega) HNF.out hoq (chunk_get hck (by omega) (j := 2) rfl) (chunk_get hck (by omega) (j := 3) rfl) (chunk_get hck (by omega) (j := 4) rfl) (chunk_get hck (by omega) (j := 5) rfl))
         have HOQ := Lib.hid hoq
         have HCQ := Lib.hid hcq
         have HRQ := Lib.hid hrq
         have HOGQ := Lib.hid hogq
         have HOFQ := Lib.hid hofq
         have HOAQ := Lib.hid hoaq
         have HMQ := Lib.hid hmq
         have HATK := Lib.hid hatk
         clear hoq hcq hrq hogq hofq hoaq hmq hgq hatk hck e0 e1 f1 g1 g4 kr ku s3 lR' HF HFM HRB HOG HOH HCR HMP HOF HOA gq2 hfc
         go_wp2_with fail
         refine HN1.out.mono ?_
         rintro e w' ⟨hg', hr⟩
         clear HN1
         cases htp : termP s (varsOf out) out m.term with
         |
          none =>
          rw [htp] at hr
          subst hr
          have HNO : Hid (RetElem 83 5 qRuleR base G n cap i cs lo M (ruleP s p) w (.panicked nothingP) w') := Lib.hid (retElem_no (HNONE.out (.inr htp)) (grown_mid HRQ.out.gr hg' (by omega)))
          clear htp hg'
          go_wp2
          exact ⟨rfl, HNO.out⟩
         |
          some t' =>
          rw [htp] at hr
          obtain ⟨rfl, ho'⟩ := hr
          have hc' := set_putT HCQ.out HATK.out t' (termP_same htp)
          rw [List.set_set] at hc'
          have HST : Hid (setStep s xa out m = some { m with field := (f : Int), term := t' }) := Lib.hid (by unfold setStep; rw [HIF.out, htp])
          have HC' := Lib.hid hc'
          have HO' := Lib.hid ho'
          have HG' := Lib.hid hg'
          clear hc' ho' hg' htp gq4 kuq
          go_wp2_with fail
          go_roundg (yn - (k2 + 1))
          case measure => have := HQ.out; omega
          case rel =>
           refine ⟨k2 + 1, ov ++ [{ m with field := (f : Int), term := t' }], _, by omega, rfl, by go_num, allTo_yes HTO.out HM.out HST.out, HRQ.out.far HG'.out (by omega) (by omega) (by omega) (by omega), HOGQ.out.kept HG'.out (.inr (by simp [Value.ownBlock]; omega)), ?_, by rw [← set_drop HLEN.out HM.out]; exact HC'.out, HOFQ.out.kept HG'.out (.inr (fun e => HNF.out _ e rfl)), HMQ.out.keeps (KeepsMaps.grown HG'.out (fun x e => by cases e; exact own_cells HOQ.out)), HOAQ.out.kept HG'.out (.inr (fun e => HNA.out _ e rfl))⟩
           have h3 := HO'.out; have := HYN.out; rw [this] at h3 ⊢; exact h3
       ·
        have hke2 : k2 = p.sets.length := by have := HYN.out; omega
        go_wp2_with fail
        go_end0
        have hP : ruleP s p = some { p with schema := (a : Int), froms := out, where_ := ou, sets := ov } := by
         unfold ruleP
         rw [HIX.out]
         simp only
         rw [HFO.out]
         simp only
         rw [HAO.out]
         simp only
         rw [HXA.out]
         simp only
         unfold allP
         rw [← hke2, HTO.out]
        have hs3 := HS3.out
        refine retElem_yes hP hrb.gr hog HOTD.out ⟨vA, vn, vc, xA, xn, xc, yA, yn, yc, HCD.out, ⟨slR_of_row (mask_own hof (by omega)) ⟨HCF.out.1, HCF.out.2⟩ HOL.out.symm, ?_⟩, ⟨slR_of_row (mask_own hoa (by omega)) ⟨HCA.out.1, HCA.out.2⟩ (by rw [HAL.out, HXN.out]), ?_⟩, ⟨slR_of_row (mask_own hoh (by omega)) ?_ (by rw [allTo_len (by omega) HTO.out, hke2]), ?_⟩⟩
        · have := HFR.out.2; rw [HOL.out, HVN.out]; exact this
        · have := HBW.out; rw [HAL.out, HXN.out]; exact this
        ·
         rw [hke2, List.drop_length, List.append_nil] at hcr3
         exact ⟨hcr3.1, hcr3.2⟩
        · have := HSE.out.2; rw [allTo_len (by omega) HTO.out, hke2]; exact this
end Go.Proofs.YtkgmonplcdnnbaaGreat
