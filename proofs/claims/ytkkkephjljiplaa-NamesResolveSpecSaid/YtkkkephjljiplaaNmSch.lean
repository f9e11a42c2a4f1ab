/- Contract of numberSchema. -/
import Derived.Test.YtkkkephjljiplaaNmSchP
import Derived.Test.YtkkkephjljiplaaDies
import Derived.Test.YtkkkephjljiplaaSteps
namespace Go.Proofs.Ytkkkephjljiplaa
open Go.RowKit

theorem Try.infoInt : (Try.prog.info? 3).map (fun i => (i.zero, i.size, i.bytes)) = some (some (.int .i64 0), 1, 8) := by kernel_rfl

set_option maxHeartbeats 2000000 in
set_option maxRecDepth 100000 in
theorem numberSchema_any (R lo M base G n cap i mb : Nat) (cs : List Value) (s : QSource) (p : QSchema) (w : World) (hres : ResR (mask lo M w) R s) (hlo : lo ≤ G) (hGM : G < M) (hMw : M ≤ w.heap.size)
    (hmb : MapAt strW i64W (mask lo M w) mb (fieldMap p))
    (ho : w.ownsRow base 40 6 (.slice (some ⟨G, 0, none⟩) n cap) n cs) (hi : i < n) (hp : qSchemaR (mask lo M w) (chunk cs 6 i) p) :
    Calls Try.prog 35 #[.pointer (some ⟨R, 0, none⟩), .pointer (some ⟨G, i * 6, none⟩), .map (some mb)] w (RetElem 40 6 qSchemaR base G n cap i cs lo M (schemaP s p) w) := by
  obtain ⟨A1, n1, c1, A2, n2, c2, hch, hfl, hdp⟩ := hp
  have p1 := own_cell ho hi (by omega) hch (j := 1) rfl
  have p2 := own_cell ho hi (by omega) hch (j := 2) rfl
  have p4 := own_cell ho hi (by omega) hch (j := 4) rfl
  have f2 := ho.frozenAt (i * 6 + 2)
  have hGw : G < w.heap.size := by omega
  obtain ⟨b1, b2, b3, fA, fn, fc, hbR, hm1, hm2, hm3, hfs⟩ := hres.unm
  have r0 := hbR.cell 0
  have lR := hbR.lt
  simp only [List.getElem?_toArray, List.getElem?_cons_zero] at r0
  have hget := col_get s.issuers p.by_
  have HRES := Lib.hid hres
  have HO := Lib.hid ho
  have HCH := Lib.hid hch
  have HFL := Lib.hid hfl
  have HDP := Lib.hid hdp
  have HBF := Lib.hid hfl.2
  have HBD := Lib.hid hdp.2
  have HMB := Lib.hid hmb
  have HM1 := Lib.hid (hm1.same (w' := w.drew) rfl)
  clear hres ho hch hfl hdp hmb hbR hm1 hm2 hm3 hfs
  go_enter Try.func35, Try.ntmps35
  go_wp2_with fail
  cases hix : idx s.issuers p.by_ with
  | none =>
    rw [hix] at hget
    have HNO : Hid (RetElem 40 6 qSchemaR base G n cap i cs lo M (schemaP s p) w (.panicked nothingP) w.drew) :=
      retElem_no (by unfold schemaP; rw [hix]) (grown_drew (World.grownBy.refl _ _))
    have HGET := Lib.hid hget
    clear hix hget
    go_region_dies
    all_goals
      refine (find_no b1 _ _ _ HM1.out HGET.out).mono ?_
      rintro e w' ⟨rfl, rfl⟩
      exact ⟨rfl, HNO.out⟩
  | some a =>
    rw [hix] at hget
    have HIX := Lib.hid hix
    have HF := Lib.hid ((find_yes b1 _ _ (a : Int) w.drew HM1.out hget).mono (R' := fun e w' => e = .returned (.int .i64 a) ∧ w' = w.drew) (fun _ _ h => ⟨h.1, h.2.symm⟩))
    clear hix hget
    refine wp_region_still_tail 12 (by kernel_rfl) (by kernel_rfl) ?_
    simp only [List.take_succ_cons, List.take_zero, List.drop_succ_cons, List.drop_zero]
    repeat still_step
    still_call HF.out
    repeat still_step
    refine wpStill_nil ?_
    change wpList _ _ _ _ _ w.drew
    go_wp2_with fail
    have ho2 := (HO.out.stored (i * 6 + 2) (.int .i64 a)).1.drew
    have hga : w.grownBy (w.setCell ⟨G, i * 6 + 2, none⟩ (.int .i64 a)).drew (some G) := grown_drew (grown_near (World.grownBy.refl _ _) _ _)
    have hsza : (w.setCell ⟨G, i * 6 + 2, none⟩ (.int .i64 a)).drew.heap.size = w.heap.size := by simp [World.setCell]
    have hcha : chunk (cs.set (i * 6 + 2) (.int .i64 a)) 6 i = [.string p.name, .string p.by_, .int .i64 a, .int .i64 p.version, .slice A1 n1 c1, .slice A2 n2 c2] := by
      rw [chunk_set _ (by omega), HCH.out]; rfl
    have hoth : ∀ j, j ≠ i → chunk (cs.set (i * 6 + 2) (.int .i64 a)) 6 j = chunk cs 6 j := fun j hj => by rw [chunk_other _ (by omega) hj]
    generalize (w.setCell ⟨G, i * 6 + 2, none⟩ (.int .i64 a)).drew = wa at ho2 hga hsza ⊢
    generalize cs.set (i * 6 + 2) (.int .i64 a) = ca at ho2 hcha hoth
    have hfw : SlB 11 120 (fun _ => qFieldR (mask lo M wa)) wa (.slice A1 n1 c1) p.fields := ⟨(HFL.out.mono qFieldR_mono (mask_below hga hlo hGM)).1.unm_fix, HFL.out.2⟩
    have hGa : G < wa.heap.size := by rw [hsza]; exact hGw
    have HOA := Lib.hid ho2
    have HGA := Lib.hid hga
    have HCHA := Lib.hid hcha
    have HOTH := Lib.hid hoth
    have HSZ := Lib.hid hsza
    clear ho2 hga hcha hoth hsza p1 p2 p4 f2 r0 lR HF HM1 HO HCH
    refine (cloneField_g (fun _ => qFieldR_one _) A1 n1 c1 p.fields _ hfw).mono ?_
    rintro e w1 ⟨v, cs1, rfl, hcs1, ho1, hb1⟩
    obtain ⟨vA, vn, vc, rfl, hvn⟩ := own_form' ho1
    have p4 := own_cell HOA.out hi (by omega) HCHA.out (j := 4) rfl
    have q1 : w1.cell? ⟨G, i * 6 + 4, none⟩ = some (.slice A1 n1 c1) := ((bcell hb1).1 _ _ hGa).trans p4
    have hf1 : w1.frozen? ⟨G, i * 6 + 4, none⟩ = false := ((bcell hb1).2 _ _ hGa).trans (HOA.out.frozenAt _)
    have hG1 : G < w1.heap.size := Nat.lt_of_lt_of_le hGa hb1.size
    have HO1 := Lib.hid ho1
    have HC1 : Hid (CellsR 11 qFieldR (mask lo M wa) cs1 p.fields) := Lib.hid ⟨hcs1.1, hcs1.2⟩
    have HB1 := Lib.hid hb1
    have HVN := Lib.hid hvn
    clear ho1 hcs1 hb1 p4 hfw hvn
    go_wp2_with fail
    have ho2 : (w1.setCell ⟨G, i * 6 + 4, none⟩ (.slice vA vn vc)).ownsRow base 40 6 (.slice (some ⟨G, 0, none⟩) n cap) n (ca.set (i * 6 + 4) (.slice vA vn vc)) := ((own_below0 HOA.out HB1.out).stored (i * 6 + 4) (.slice vA vn vc)).1
    have hi2 : (w1.setCell ⟨G, i * 6 + 4, none⟩ (.slice vA vn vc)).ownsRow wa.heap.size 45 11 (.slice vA vn vc) p.fields.length cs1 := own_far HO1.out (by simpa using hGa) _
    have hg2 : w.grownBy (w1.setCell ⟨G, i * 6 + 4, none⟩ (.slice vA vn vc)) (some G) := grown_near (grown_trans HGA.out (grown_of_below HB1.out _)) _ _
    have hcb : chunk (ca.set (i * 6 + 4) (.slice vA vn vc)) 6 i = [.string p.name, .string p.by_, .int .i64 a, .int .i64 p.version, .slice vA vn vc, .slice A2 n2 c2] := by
      rw [chunk_set _ (by omega), HCHA.out]; rfl
    have hotb : ∀ j, j ≠ i → chunk (ca.set (i * 6 + 4) (.slice vA vn vc)) 6 j = chunk cs 6 j := fun j hj => by rw [chunk_other _ (by omega) hj]; exact HOTH.out j hj
    generalize w1.setCell ⟨G, i * 6 + 4, none⟩ (.slice vA vn vc) = w2 at ho2 hi2 hg2 ⊢
    generalize ca.set (i * 6 + 4) (.slice vA vn vc) = cb at ho2 hcb hotb
    have HO2 := Lib.hid ho2
    have HI2 := Lib.hid hi2
    have HG2 := Lib.hid hg2
    have HCB := Lib.hid hcb
    have HOTB := Lib.hid hotb
    clear ho2 hi2 hg2 hcb hotb q1 hf1 hG1 HO1 HB1 HOTH HCHA HOA
    go_loopg [37] vn (fun q j wr => ∃ (k : Nat) (out : List QField) (cr : List Value), k ≤ vn ∧ q = vn - k ∧ j = .int .i64 k ∧ allTo (fun _ => fieldStep s) p.fields k = some out ∧ w.grownBy wr (some G) ∧ wr.ownsRow base 40 6 (.slice (some ⟨G, 0, none⟩) n cap) n cb ∧
        wr.ownsRow wa.heap.size 45 11 (.slice vA vn vc) p.fields.length cr ∧ CellsR 11 qFieldR (mask lo M wa) cr (out ++ p.fields.drop k))
    case atStart => exact ⟨0, [], cs1, Nat.zero_le _, rfl, rfl, rfl, HG2.out, HO2.out, HI2.out, HC1.out⟩
    case round =>
      clear HO2 HI2 HG2 HC1
      obtain ⟨k, out, cr, hk, hq, rfl, hto, hgr, hog, hoh, hcr⟩ := hrel
      have HQ := Lib.hid hq
      have HTO := Lib.hid hto
      clear hq hto
      by_cases hlt : k < vn
      · rcases own_row hoh with ⟨h, h0⟩ | ⟨H, hcap, h, hH, hHw, hn2⟩
        · exfalso; injection h with _ h; omega
        injection h with h1 h2 h3
        subst h1 h3
        clear h2
        have hvn2 : vn ≤ 9223372036854775807 := by have := HVN.out; omega
        have hHw2 : w.heap.size ≤ H := by have := HSZ.out; omega
        obtain ⟨m, hm⟩ : ∃ m, p.fields[k]? = some m := ⟨p.fields[k]'(by have := HVN.out; omega), List.getElem?_eq_getElem _⟩
        have hlen := allTo_len (by have := HVN.out; omega) HTO.out
        have hat : (out ++ p.fields.drop k)[k]? = some m := by
          rw [List.getElem?_append_right (by omega), List.getElem?_drop, hlen]
          simpa using hm
        obtain ⟨B1, m1, d1, hch, hnm⟩ := hcr.chunk hat
        have hoh' : wr.ownsRow wa.heap.size 45 11 (.slice (some ⟨H, 0, none⟩) vn vc) vn cr := by have := HVN.out; rw [this] at hoh ⊢; exact hoh
        have e1 := own_cell hoh' hlt (by omega) hch (j := 1) rfl
        have e4 := own_cell hoh' hlt (by omega) hch (j := 4) rfl
        have e5 := own_cell hoh' hlt (by omega) hch (j := 5) rfl
        have f5 := hoh'.frozenAt (k * 11 + 5)
        have g4 := own_cell hog hi (by omega) HCB.out (j := 4) rfl
        have HGR := Lib.hid hgr
        have HOG := Lib.hid hog
        have HOH := Lib.hid hoh'
        have HCR := Lib.hid hcr
        have HM := Lib.hid hm
        have HLEN := Lib.hid hlen
        have HAT := Lib.hid hat
        clear hgr hog hoh hoh' hcr hm hlen hat hch hnm
        have hkn : (k : Int) < (vn : Int) := by omega
        have hk0 : (0 : Int) ≤ (k : Int) := by omega
        have hput : CellsR 11 qFieldR (mask lo M wa) (cr.set (k * 11 + 5) (.int .i64 (-1))) ((out ++ p.fields.drop k).set k { m with type := { m.type with unit := -1 } }) := field_put HCR.out HAT.out (-1)
        have hoq := (HOH.out.stored (k * 11 + 5) (.int .i64 (-1))).1
        have hgq : w.grownBy (wr.setCell ⟨H, k * 11 + 5, none⟩ (.int .i64 (-1))) (some G) := grown_far HGR.out (by simpa using hHw2) _
        have hogq := own_ne HOG.out (p := ⟨H, k * 11 + 5, none⟩) (by simp; omega) (.int .i64 (-1))
        have HPUT := Lib.hid hput
        have HOQ := Lib.hid hoq
        have HGQ := Lib.hid hgq
        have HOGQ := Lib.hid hogq
        clear hput hoq hgq hogq
        by_cases hkd : m.type.kind = 1 ∧ m.type.of_ ≠ noStr
        · obtain ⟨hk1, hof⟩ := hkd
          have t1 : m.type.of_.toList.isEmpty = false := noStr_ne hof
          have t2 : ¬ m.type.of_.toList = [] := by intro e; rw [e] at t1; cases t1
          have HKD := Lib.hid (show m.type.kind = 1 ∧ m.type.of_ ≠ noStr from ⟨hk1, hof⟩)
          clear hof
          go_upto_region 8 with fail
          have HB := Lib.hid (HRES.out.below (mask_below HGQ.out hlo hGM)).unm
          generalize wr.setCell ⟨H, k * 11 + 5, none⟩ (.int .i64 (-1)) = wq at HOQ HGQ HOGQ HB ⊢
          have hkl : k < (out ++ p.fields.drop k).length := (List.getElem?_eq_some_iff.1 HAT.out).1
          have hatk : ((out ++ p.fields.drop k).set k { m with type := { m.type with unit := -1 } })[k]? = some { m with type := { m.type with unit := -1 } } := List.getElem?_set_self hkl
          obtain ⟨B2, m2, d2, hck, hnm⟩ := HPUT.out.chunk hatk
          have d4 := own_cell HOQ.out hlt (by omega) hck (j := 4) rfl
          have d5 := own_cell HOQ.out hlt (by omega) hck (j := 5) rfl
          have fd5 := HOQ.out.frozenAt (k * 11 + 5)
          obtain ⟨b1', b2', b3', fA', fn', fc', hbR', _, hm2', _, _⟩ := HB.out
          have s1 := hbR'.cell 1
          have lR' := hbR'.lt
          simp only [List.getElem?_toArray, List.getElem?_cons_zero, List.getElem?_cons_succ] at s1
          have hget := col_get (unitNames s) m.type.of_
          have HM2 := Lib.hid (hm2'.same (w' := wq.drew) rfl)
          have HATK := Lib.hid hatk
          clear hbR' hm2' hkl hatk hck hnm HB e1 e4 e5 f5 g4
          cases hix : idx (unitNames s) m.type.of_ with
          | none =>
            rw [hix] at hget
            have HNO : Hid (RetElem 40 6 qSchemaR base G n cap i cs lo M (schemaP s p) w (.panicked nothingP) wq.drew) := by
              refine retElem_no ?_ (grown_drew HGQ.out)
              unfold schemaP
              rw [HIX.out]
              simp only
              rw [allP_none (k := k + 1) (by have := HVN.out; omega) (allTo_no HTO.out HM.out (by unfold fieldStep; rw [if_pos HKD.out, hix]; rfl))]
            have HGET := Lib.hid hget
            clear hix hget
            go_region_dies
            all_goals
              refine (find_no b2' _ _ _ HM2.out HGET.out).mono ?_
              rintro e w' ⟨rfl, rfl⟩
              exact ⟨rfl, HNO.out⟩
          | some f =>
            rw [hix] at hget
            have HST : Hid (fieldStep s m = some { m with type := { m.type with unit := (f : Int) } }) := Lib.hid (by unfold fieldStep; rw [if_pos HKD.out, hix]; rfl)
            have HF := Lib.hid ((find_yes b2' _ _ (f : Int) wq.drew HM2.out hget).mono (R' := fun e w' => e = .returned (.int .i64 f) ∧ w' = wq.drew) (fun _ _ h => ⟨h.1, h.2.symm⟩))
            clear hix hget
            refine wp_region_still_tail 12 (by kernel_rfl) (by kernel_rfl) ?_
            simp only [List.take_succ_cons, List.take_zero, List.drop_succ_cons, List.drop_zero]
            repeat still_step
            still_call HF.out
            repeat still_step
            refine wpStill_nil ?_
            change wpList _ _ _ _ _ wq.drew
            go_wp2_with fail
            go_roundg (vn - (k + 1))
            case measure => have := HQ.out; omega
            case rel =>
              have ho3 := (HOQ.out.drew.stored (k * 11 + 5) (.int .i64 f)).1
              have hc3 := field_put HPUT.out HATK.out (f : Int)
              rw [List.set_set, List.set_set] at hc3
              refine ⟨k + 1, _, _, by omega, rfl, by go_num, allTo_yes HTO.out HM.out HST.out, grown_far (grown_drew HGQ.out) (by simpa using hHw2) _, own_ne HOGQ.out.drew (by simp; omega) _, ?_, by rw [← set_drop HLEN.out HM.out]; exact hc3⟩
              rw [List.set_set] at ho3
              have := HVN.out; rw [this] at ho3 ⊢; exact ho3
        · have HST : Hid (fieldStep s m = some { m with type := { m.type with unit := -1 } }) := Lib.hid (by unfold fieldStep; rw [if_neg hkd])
          by_cases hk1 : m.type.kind = 1
          · have hof : m.type.of_ = noStr := Decidable.byContradiction fun h => hkd ⟨hk1, h⟩
            have t1 : m.type.of_.toList.isEmpty = true := by rw [hof, noStr_list]; rfl
            have t2 : m.type.of_.toList = [] := by rw [hof, noStr_list]
            clear hof hkd
            go_wp2_with fail
            go_roundg (vn - (k + 1))
            case measure => have := HQ.out; omega
            case rel =>
              refine ⟨k + 1, _, _, by omega, rfl, by go_num, allTo_yes HTO.out HM.out HST.out, HGQ.out, HOGQ.out, ?_, by rw [← set_drop HLEN.out HM.out]; exact HPUT.out⟩
              have := HVN.out; have h3 := HOQ.out; rw [this] at h3 ⊢; exact h3
          · have t0 : decide (m.type.kind = 1) = false := by simpa using hk1
            clear hkd
            go_wp2_with fail
            go_roundg (vn - (k + 1))
            case measure => have := HQ.out; omega
            case rel =>
              refine ⟨k + 1, _, _, by omega, rfl, by go_num, allTo_yes HTO.out HM.out HST.out, HGQ.out, HOGQ.out, ?_, by rw [← set_drop HLEN.out HM.out]; exact HPUT.out⟩
              have := HVN.out; have h3 := HOQ.out; rw [this] at h3 ⊢; exact h3
      · have hke : k = p.fields.length := by have := HVN.out; omega
        have hcf : CellsR 11 qFieldR (mask lo M wa) cr out := by rw [hke, List.drop_length, List.append_nil] at hcr; exact hcr
        have HFS : Hid (allP (fun _ => fieldStep s) p.fields = some out) := Lib.hid (by unfold allP; rw [← hke]; exact HTO.out)
        obtain ⟨wz, rfl⟩ : ∃ x, x = wr := ⟨_, rfl⟩
        have hdw : SlB 4 72 (fun _ => qDepR (mask lo M wz)) wz (.slice A2 n2 c2) p.deps := ⟨(HDP.out.mono qDepR_mono (mask_below hgr hlo hGM)).1.unm_fix, HDP.out.2⟩
        have g5 := own_cell hog hi (by omega) HCB.out (j := 5) rfl
        have hGz : G < wz.heap.size := Nat.lt_of_lt_of_le hGw hgr.size
        have HGR := Lib.hid hgr
        have HOG := Lib.hid hog
        have HOH := Lib.hid hoh
        have HCF := Lib.hid hcf
        have HOL := Lib.hid (allTo_len (by omega) HTO.out)
        clear hgr hog hoh hcr hcf HTO HQ
        go_wp2_with fail
        refine (cloneDep_g (fun _ => qDepR_one _) A2 n2 c2 p.deps _ hdw).mono ?_
        rintro e w3 ⟨v, cs3, rfl, hcs3, ho3, hb3⟩
        obtain ⟨xA, xn, xc, rfl, hxn⟩ := own_form' ho3
        have q5 : w3.cell? ⟨G, i * 6 + 5, none⟩ = some (.slice A2 n2 c2) := ((bcell hb3).1 _ _ hGz).trans g5
        have hf5 : w3.frozen? ⟨G, i * 6 + 5, none⟩ = false := ((bcell hb3).2 _ _ hGz).trans (HOG.out.frozenAt _)
        have hG3 : G < w3.heap.size := Nat.lt_of_lt_of_le hGz hb3.size
        have HO3 := Lib.hid ho3
        have HC3 : Hid (CellsR 4 qDepR (mask lo M wz) cs3 p.deps) := Lib.hid ⟨hcs3.1, hcs3.2⟩
        have HB3 := Lib.hid hb3
        have HXN := Lib.hid hxn
        clear ho3 hcs3 hb3 g5 hdw hxn
        go_wp2_with fail
        have hog4 : (w3.setCell ⟨G, i * 6 + 5, none⟩ (.slice xA xn xc)).ownsRow base 40 6 (.slice (some ⟨G, 0, none⟩) n cap) n (cb.set (i * 6 + 5) (.slice xA xn xc)) := ((own_below0 HOG.out HB3.out).stored (i * 6 + 5) (.slice xA xn xc)).1
        have hfr4 : (w3.setCell ⟨G, i * 6 + 5, none⟩ (.slice xA xn xc)).ownsRow wa.heap.size 45 11 (.slice vA vn vc) p.fields.length cr := own_far (own_below0 HOH.out HB3.out) (by simpa using hGa) _
        have hdr4 : (w3.setCell ⟨G, i * 6 + 5, none⟩ (.slice xA xn xc)).ownsRow wz.heap.size 50 4 (.slice xA xn xc) p.deps.length cs3 := own_far HO3.out (by simpa using hGz) _
        have hgz4 : wz.grownBy (w3.setCell ⟨G, i * 6 + 5, none⟩ (.slice xA xn xc)) (some G) := grown_near (grown_of_below HB3.out _) _ _
        have hg4 : w.grownBy (w3.setCell ⟨G, i * 6 + 5, none⟩ (.slice xA xn xc)) (some G) := grown_trans HGR.out hgz4
        have hcc : chunk (cb.set (i * 6 + 5) (.slice xA xn xc)) 6 i = [.string p.name, .string p.by_, .int .i64 a, .int .i64 p.version, .slice vA vn vc, .slice xA xn xc] := by
          rw [chunk_set _ (by omega), HCB.out]; rfl
        have hotc : ∀ j, j ≠ i → chunk (cb.set (i * 6 + 5) (.slice xA xn xc)) 6 j = chunk cs 6 j := fun j hj => by rw [chunk_other _ (by omega) hj]; exact HOTB.out j hj
        have hfb : ∀ r, (Value.slice vA vn vc).ownBlock = some r → r < wz.heap.size := fun r e => (HOH.out.lt r e).2
        generalize w3.setCell ⟨G, i * 6 + 5, none⟩ (.slice xA xn xc) = w4 at hog4 hfr4 hdr4 hgz4 hg4 ⊢
        generalize cb.set (i * 6 + 5) (.slice xA xn xc) = cc at hog4 hcc hotc
        have hc4 : CellsR 4 qDepR (hideV (.slice xA xn xc) (mask lo M w4)) cs3 p.deps :=
          HC3.out.mono qDepR_mono (hideV_old (mask_below hgz4 hlo hGM) (fun H e => by rw [mask_size]; exact (hdr4.lt H e).1))
        have HOG4 := Lib.hid hog4
        have HFR4 := Lib.hid hfr4
        have HDR4 := Lib.hid hdr4
        have HG4 := Lib.hid hg4
        have HCC := Lib.hid hcc
        have HOTC := Lib.hid hotc
        have HFB := Lib.hid hfb
        have HC4 := Lib.hid hc4
        have hwz : w.heap.size ≤ wz.heap.size := HGR.out.size
        have HZ4 := Lib.hid hgz4.size
        clear hog4 hfr4 hdr4 hgz4 hg4 hcc hotc hfb hc4 q5 hf5 hG3 HO3 HC3 HB3 HOG HOH HCB HOTB HDP HFL HGR
        go_loopg [88] xn (fun q j wr => ∃ (k : Nat) (ou : List QDep) (cd : List Value), k ≤ xn ∧ q = xn - k ∧ j = .int .i64 k ∧ allTo (fun _ => depStep p) p.deps k = some ou ∧ w.grownBy wr (some G) ∧ wz.heap.size ≤ wr.heap.size ∧ wr.ownsRow base 40 6 (.slice (some ⟨G, 0, none⟩) n cap) n cc ∧
            wr.ownsRow wa.heap.size 45 11 (.slice vA vn vc) p.fields.length cr ∧ wr.ownsRow wz.heap.size 50 4 (.slice xA xn xc) p.deps.length cd ∧ CellsR 4 qDepR (hideV (.slice xA xn xc) (mask lo M wr)) cd (ou ++ p.deps.drop k))
        case atStart => exact ⟨0, [], cs3, Nat.zero_le _, rfl, rfl, rfl, HG4.out, HZ4.out, HOG4.out, HFR4.out, HDR4.out, HC4.out⟩
        case round =>
          clear HOG4 HFR4 HDR4 HG4 HC4
          obtain ⟨k', ou, cd, hk', hq', rfl, hto', hgr, hzr, hog, hof, hod, hcd⟩ := hrel
          have HQ := Lib.hid hq'
          have HTO := Lib.hid hto'
          clear hq' hto'
          by_cases hlt' : k' < xn
          · rcases own_row hod with ⟨h, h0⟩ | ⟨H, hcap, h, hH, hHw, hn2⟩
            · exfalso; injection h with _ h; omega
            injection h with h1 h2 h3
            subst h1 h3
            clear h2
            have hxn2 : xn ≤ 9223372036854775807 := by have := HXN.out; omega
            have hHw2 : w.heap.size ≤ H := by omega
            obtain ⟨d, hd⟩ : ∃ m, p.deps[k']? = some m := ⟨p.deps[k']'(by have := HXN.out; omega), List.getElem?_eq_getElem _⟩
            have hlen := allTo_len (by have := HXN.out; omega) HTO.out
            have hat : (ou ++ p.deps.drop k')[k']? = some d := by
              rw [List.getElem?_append_right (by omega), List.getElem?_drop, hlen]
              simpa using hd
            obtain ⟨B1, m1, d1, B2, m2, d2, hch, hnm, hsrc⟩ := hcd.chunk hat
            have hod' : wr.ownsRow wz.heap.size 50 4 (.slice (some ⟨H, 0, none⟩) xn xc) xn cd := by have := HXN.out; rw [this] at hod ⊢; exact hod
            have e0 := own_cell hod' hlt' (by omega) hch (j := 0) rfl
            simp only [Nat.add_zero] at e0
            have e2 := own_cell hod' hlt' (by omega) hch (j := 2) rfl
            have f2 := hod'.frozenAt (k' * 4 + 2)
            have g5 := own_cell hog hi (by omega) HCC.out (j := 5) rfl
            have hnl := hnm.1.len
            have hod1 := (hod'.stored (k' * 4 + 2) (.slice none 0 0)).1
            have hgr1 : wr.grownBy (wr.setCell ⟨H, k' * 4 + 2, none⟩ (.slice none 0 0)) (some H) := grown_near (World.grownBy.refl _ _) _ _
            obtain ⟨wy, rfl⟩ : ∃ x, x = wr := ⟨_, rfl⟩
            have HGR := Lib.hid hgr
            have HOG := Lib.hid hog
            have HOF := Lib.hid hof
            have HOD := Lib.hid hod'
            have HCD := Lib.hid hcd
            have HD := Lib.hid hd
            have HLEN := Lib.hid hlen
            have HAT := Lib.hid hat
            have HCH := Lib.hid hch
            have HNM := Lib.hid hnm
            have HNL := Lib.hid hnl
            have HOD1 := Lib.hid hod1
            have HGR1 := Lib.hid hgr1
            clear hgr hog hof hod hod' hcd hd hlen hat hch hnm hsrc hnl hod1 hgr1
            have hkn : (k' : Int) < (xn : Int) := by omega
            have hk0 : (0 : Int) ≤ (k' : Int) := by omega
            go_wp2_with fail
            go_loopg [105] m1 (fun q j wr => ∃ (k2 : Nat) (o3 : List Int) (fA : Option Addr) (fn fc : Nat), k2 ≤ m1 ∧ q = m1 - k2 ∧ j = .int .i64 k2 ∧ allTo (fun _ => idxI (fieldNames p)) d.names k2 = some o3 ∧ wy.grownBy wr (some H) ∧
                wr.ownsRow wz.heap.size 50 4 (.slice (some ⟨H, 0, none⟩) xn xc) xn (cd.set (k' * 4 + 2) (.slice fA fn fc)) ∧ wr.ownsRow wy.heap.size 3 1 (.slice fA fn fc) k2 (o3.map i64W))
            case atStart => exact ⟨0, [], none, 0, 0, Nat.zero_le _, rfl, rfl, rfl, HGR1.out, HOD1.out, World.ownsRow_nil _ _ _ _⟩
            case round =>
              clear HOD1 HGR1 e0 e2 f2 g5
              obtain ⟨k2, o3, fA', fn', fc', hk2, hq2, rfl, hto2, hgi, hodi, hofi⟩ := hrel
              have HQ2 := Lib.hid hq2
              have HTO2 := Lib.hid hto2
              clear hq2 hto2
              have hwi : w.grownBy wr (some G) := grown_mid HGR.out hgi hHw2
              have hHy : H < wy.heap.size := hHw
              have hHi : H < wr.heap.size := Nat.lt_of_lt_of_le hHy hgi.size
              have hchi : chunk (cd.set (k' * 4 + 2) (.slice fA' fn' fc')) 4 k' = [.slice B1 m1 d1, .string d.name, .slice fA' fn' fc', .int .i64 d.dst] := by rw [chunk_set _ (by omega), HCH.out]; rfl
              have i1 := own_cell hodi hlt' (by omega) hchi (j := 1) rfl
              have i2 := own_cell hodi hlt' (by omega) hchi (j := 2) rfl
              have i3 := own_cell hodi hlt' (by omega) hchi (j := 3) rfl
              have fi2 := hodi.frozenAt (k' * 4 + 2)
              have fi3 := hodi.frozenAt (k' * 4 + 3)
              have hmi := mask_map (HMB.out.below (mask_below hwi hlo hGM))
              have HMI := Lib.hid (hmi.same (w' := wr.drew) rfl)
              have HMJ := Lib.hid hmi
              have HWI := Lib.hid hwi
              have HGI := Lib.hid hgi
              have HODI := Lib.hid hodi
              have HOFI := Lib.hid hofi
              clear hmi hwi hgi hodi hofi hchi
              by_cases hlt2 : k2 < m1
              · obtain ⟨nb, noff, nm, rfl, hnb, hnk, hnc⟩ := str_at ((hideV_sl (v := .slice (some ⟨H, 0, none⟩) xn xc) strR_unm (HNM.out.1.mono strR_mono (hideV_below (mask_grown HGI.out)))).unm strR_unm) hlt2
                have hget := col_get (fieldNames p) nm
                have hkn2 : (k2 : Int) < (m1 : Int) := by omega
                have hk02 : (0 : Int) ≤ (k2 : Int) := by omega
                have hm12 : m1 * 16 ≤ 140737488355328 := by rw [HNL.out]; exact HNM.out.2
                have HNK := Lib.hid hnk
                clear hnk
                go_wp2_with fail
                cases hix : idx (fieldNames p) nm with
                | none =>
                  rw [hix] at hget
                  have HNO : Hid (RetElem 40 6 qSchemaR base G n cap i cs lo M (schemaP s p) w (.panicked nothingP) wr.drew) := by
                    refine retElem_no ?_ (grown_drew HWI.out)
                    unfold schemaP
                    rw [HIX.out]
                    simp only
                    rw [HFS.out]
                    simp only
                    rw [allP_none (k := k' + 1) (by have := HXN.out; omega) (allTo_no HTO.out HD.out (by
                      unfold depStep
                      rw [allP_none (k := k2 + 1) (by have := HNL.out; omega) (allTo_no HTO2.out HNK.out (by unfold idxI; rw [hix]; rfl))]))]
                  have HGET := Lib.hid hget
                  clear hix hget
                  go_region_dies
                  all_goals
                    refine (find_no mb _ _ _ HMI.out HGET.out).mono ?_
                    rintro e w' ⟨rfl, rfl⟩
                    exact ⟨rfl, HNO.out⟩
                | some f =>
                  rw [hix] at hget
                  have HIF : Hid (idxI (fieldNames p) nm = some (f : Int)) := Lib.hid (by unfold idxI; rw [hix]; rfl)
                  have HF := Lib.hid ((find_yes mb _ _ (f : Int) wr.drew HMI.out hget).mono (R' := fun e w' => e = .returned (.int .i64 f) ∧ w' = wr.drew) (fun _ _ h => ⟨h.1, h.2.symm⟩))
                  clear hix hget
                  obtain ⟨i0, hi0, hz0, hz1, hz2⟩ := info_parts Try.infoInt
                  have hyr : wy.heap.size ≤ wr.heap.size := HGI.out.size
                  go_region_law (first
                    | (refine step_append_own_at _ (by rfl) (.tmp 113) (.tmp 117) 48 (by rfl) wy.heap.size 3 i0 (.int .i64 0) 1 8 Try.underlying48 hi0 hz0 hz1 hz2 rfl (by decide) (.slice fA' fn' fc') k2 (o3.map i64W) (by rfl) (HOFI.out.drew.alloc _) ⟨wr.heap.size, 0, none⟩ 1 1 [.int .i64 f] (by rfl) rfl (cell_one_new _ _ _) (by simp [Value.oneCell']) (by unfold maxLen; omega) (by omega) (by simp; omega) ?_
                       intro v' w5 hown' hgrow hat'
                       obtain ⟨zA, zn, zc, rfl, hzn⟩ := own_form' hown'
                       have hod5 := (HODI.out.drew.alloc (.cells #[.int .i64 f] 3)).kept hgrow (.inr (fun e => own_apart HOFI.out hHy e.symm))
                       have hgy5 : wy.grownBy w5 (some H) := grown_own (grown_alloc0 (grown_drew HGI.out) _) hgrow (fun r e => (HOFI.out.lt r e).1)
                       have hch5 : chunk (cd.set (k' * 4 + 2) (.slice fA' fn' fc')) 4 k' = [.slice (some ⟨nb, noff, none⟩) m1 d1, .string d.name, .slice fA' fn' fc', .int .i64 d.dst] := by rw [chunk_set _ (by omega), HCH.out]; rfl
                       have j2 := own_cell hod5 hlt' (by omega) hch5 (j := 2) rfl
                       have fj2 := hod5.frozenAt (k' * 4 + 2)
                       have HOD5 := Lib.hid hod5
                       have HGY5 := Lib.hid hgy5
                       have HOW5 := Lib.hid hown'
                       clear hod5 hgy5 hown' hgrow hat' hch5 hzn)
                    | (refine step_call_still (by rfl) 71 #[.map (some mb), .string nm] (by go_simp) HF.out ?_))
                  all_goals
                    go_wp2_with fail
                    go_roundg (m1 - (k2 + 1))
                    case measure => have := HQ2.out; omega
                    case rel =>
                      have ho6 := (HOD5.out.stored (k' * 4 + 2) (.slice zA zn zc)).1
                      rw [List.set_set] at ho6
                      refine ⟨k2 + 1, o3 ++ [(f : Int)], zA, zn, zc, by omega, rfl, by go_num, allTo_yes HTO2.out HNK.out HIF.out, grown_near HGY5.out _ _, ho6, ?_⟩
                      have := own_far HOW5.out (p := ⟨H, k' * 4 + 2, none⟩) (by simpa using hHy) (.slice zA zn zc)
                      rw [List.map_append]
                      exact this
              · have hke2 : k2 = d.names.length := by have := HNL.out; omega
                have HSRC : Hid (allP (fun _ => idxI (fieldNames p)) d.names = some o3) := Lib.hid (by unfold allP; rw [← hke2]; exact HTO2.out)
                have hget := col_get (fieldNames p) d.name
                go_wp2_with fail
                cases hix : idx (fieldNames p) d.name with
                | none =>
                  rw [hix] at hget
                  have HNO : Hid (RetElem 40 6 qSchemaR base G n cap i cs lo M (schemaP s p) w (.panicked nothingP) wr) := by
                    refine retElem_no ?_ HWI.out
                    unfold schemaP
                    rw [HIX.out]
                    simp only
                    rw [HFS.out]
                    simp only
                    rw [allP_none (k := k' + 1) (by have := HXN.out; omega) (allTo_no HTO.out HD.out (by
                      unfold depStep idxI
                      rw [hix]
                      cases allP (fun _ x => Option.map (fun n : Nat => (n : Int)) (idx (fieldNames p) x)) d.names <;> rfl))]
                  refine (find_no mb _ _ wr HMJ.out hget).mono ?_
                  rintro e w' ⟨rfl, rfl⟩
                  clear hix hget
                  go_wp2
                  exact ⟨rfl, HNO.out⟩
                | some f =>
                  rw [hix] at hget
                  have HDS : Hid (depStep p d = some { d with src := o3, dst := (f : Int) }) := Lib.hid (by
                    unfold depStep
                    rw [HSRC.out]
                    unfold idxI
                    rw [hix]; rfl)
                  refine (find_yes mb _ _ (f : Int) wr HMJ.out hget).mono ?_
                  rintro e w' ⟨rfl, rfl⟩
                  clear hix hget
                  go_wp2_with fail
                  go_roundg (xn - (k' + 1))
                  case measure => have := HQ.out; omega
                  case rel =>
                    have hHy : H < wy.heap.size := hHw
                    have ho6 := (HODI.out.stored (k' * 4 + 3) (.int .i64 f)).1
                    have hgn : wy.grownBy (wr.setCell ⟨H, k' * 4 + 3, none⟩ (.int .i64 f)) (some H) := grown_near HGI.out _ _
                    have hfb := HFB.out
                    refine ⟨k' + 1, ou ++ [{ d with src := o3, dst := (f : Int) }], (cd.set (k' * 4 + 2) (.slice fA' fn' fc')).set (k' * 4 + 3) (.int .i64 f), by omega, rfl, by go_num, allTo_yes HTO.out HD.out HDS.out, grown_far HWI.out (by simpa using hHw2) _, by have := HGI.out.size; simp [World.setCell]; omega, own_ne (HOG.out.kept HGI.out (.inr (by simp [Value.ownBlock]; omega))) (by simp; omega) _, own_set (HOF.out.kept HGI.out (.inr (fun e => by have := hfb _ e; omega))) (fun e => by have := hfb _ e; simp at this; omega) _, ?_, ?_⟩
                    · have := HXN.out; rw [this] at ho6 ⊢; exact ho6
                    · have hsl : SlB 1 8 iR (hideV (.slice (some ⟨H, 0, none⟩) xn xc) (mask lo M (wr.setCell ⟨H, k' * 4 + 3, none⟩ (.int .i64 f)))) (.slice fA' fn' fc') o3 := by
                        have hl3 := allTo_len (by omega) HTO2.out
                        refine ⟨slR_of_row (hideV_own (mask_own (own_far HOFI.out (p := ⟨H, k' * 4 + 3, none⟩) (by simpa using hHy) (.int .i64 f)) (by omega)) (fun H' e => by simp [Value.ownBlock] at e; omega)) (cellsI _ _) (by rw [hl3]), ?_⟩
                        have := HNM.out.2
                        rw [hl3, hke2]; omega
                      have hc6 := dep_put3 (dep_put2 (HCD.out.mono qDepR_mono (hideV_below (mask_grown hgn))) HAT.out rfl hsl) (List.getElem?_set_self (List.getElem?_eq_some_iff.1 HAT.out).1) (f : Int)
                      rw [List.set_set] at hc6
                      rw [← set_drop HLEN.out HD.out]
                      exact hc6
          · have hke' : k' = p.deps.length := by have := HXN.out; omega
            go_wp2_with fail
            go_end0
            have hP : schemaP s p = some { p with issuer := (a : Int), fields := out, deps := ou } := by
              unfold schemaP
              rw [HIX.out]
              simp only
              rw [HFS.out]
              simp only
              unfold allP
              rw [← hke', HTO.out]
            have hwa : wa.grownBy wr (some G) := grown_back HGA.out hgr HSZ.out
            refine retElem_yes hP hgr hog HOTC.out ⟨vA, vn, vc, xA, xn, xc, HCC.out, ⟨slR_of_row (mask_own hof (by rw [HSZ.out]; exact hMw)) (HCF.out.mono qFieldR_mono (mask_below hwa hlo hGM)) (by rw [HOL.out, hke]), ?_⟩, ⟨slR_of_row (mask_own hod (by omega)) ?_ (by rw [allTo_len (by omega) HTO.out, hke']), ?_⟩⟩
            · rw [HOL.out, hke]; exact HBF.out
            · rw [hke', List.drop_length, List.append_nil] at hcd
              exact hideV_unm qDepR_unm hcd
            · rw [allTo_len (by omega) HTO.out, hke']; exact HBD.out

end Go.Proofs.Ytkkkephjljiplaa
