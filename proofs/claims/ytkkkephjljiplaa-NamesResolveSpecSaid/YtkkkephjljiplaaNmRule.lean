/- Contract of numberRule. -/
import Derived.Test.YtkkkephjljiplaaNmRuleP
import Derived.Test.YtkkkephjljiplaaSteps
namespace Go.Proofs.Ytkkkephjljiplaa
open Go.RowKit

set_option maxHeartbeats 2000000 in
set_option maxRecDepth 100000 in
theorem numberRule_any (R lo M base G n cap i : Nat) (cs : List Value) (s : QSource) (p : QRule) (w : World) (hres : ResR (mask lo M w) R s) (hlo : lo ≤ G) (hGM : G < M) (hMw : M ≤ w.heap.size)
    (ho : w.ownsRow base 56 5 (.slice (some ⟨G, 0, none⟩) n cap) n cs) (hi : i < n) (hp : qRuleR (mask lo M w) (chunk cs 5 i) p) :
    Calls Try.prog 36 #[.pointer (some ⟨R, 0, none⟩), .pointer (some ⟨G, i * 5, none⟩)] w (RetElem 56 5 qRuleR base G n cap i cs lo M (ruleP s p) w) := by
  obtain ⟨A1, n1, c1, A2, n2, c2, A3, n3, c3, hch, hfr, hwh, hse⟩ := hp
  have hGw : G < w.heap.size := by omega
  have HRES := Lib.hid hres
  have HO := Lib.hid ho
  have HCH := Lib.hid hch
  have HFR := Lib.hid hfr
  have HWH := Lib.hid hwh
  have HSE := Lib.hid hse
  have HBW := Lib.hid hwh.2
  clear hres ho hch hfr hwh hse
  have hmf : ∀ (fn : Fn) (first cap : Array Value) (w : World), (Instr.makeFunc fn first cap).run Try.prog w = .ok (.func fn first cap) w := fun _ _ _ _ => rfl
  go_enter Try.func36, Try.ntmps36
  go_upto_region 1 with fail
  have hbb : Below w.heap.size w ((w.alloc (.cells #[.pointer (some ⟨R, 0, none⟩)] 83)).alloc (.cells #[.pointer (some ⟨G, i * 5, none⟩)] 103)) := ((Below.refl _ _).alloc (Nat.le_refl _) _).alloc (by simp) _
  have krb : ((w.alloc (.cells #[.pointer (some ⟨R, 0, none⟩)] 83)).alloc (.cells #[.pointer (some ⟨G, i * 5, none⟩)] 103)).cell? ⟨w.heap.size, 0, none⟩ = some (.pointer (some ⟨R, 0, none⟩)) := by simp [go_sem]
  have kub : ((w.alloc (.cells #[.pointer (some ⟨R, 0, none⟩)] 83)).alloc (.cells #[.pointer (some ⟨G, i * 5, none⟩)] 103)).cell? ⟨w.heap.size + 1, 0, none⟩ = some (.pointer (some ⟨G, i * 5, none⟩)) := by simp [go_sem]
  have hszb : ((w.alloc (.cells #[.pointer (some ⟨R, 0, none⟩)] 83)).alloc (.cells #[.pointer (some ⟨G, i * 5, none⟩)] 103)).heap.size = w.heap.size + 2 := by simp
  generalize (w.alloc (.cells #[.pointer (some ⟨R, 0, none⟩)] 83)).alloc (.cells #[.pointer (some ⟨G, i * 5, none⟩)] 103) = wb at hbb krb kub hszb ⊢
  have hgb : w.grownBy wb (some G) := grown_of_below hbb _
  have hob := own_below0 HO.out hbb
  have p0 := own_cell hob hi (by omega) HCH.out (j := 0) rfl
  simp only [Nat.add_zero] at p0
  have p1 := own_cell hob hi (by omega) HCH.out (j := 1) rfl
  have f1 := hob.frozenAt (i * 5 + 1)
  obtain ⟨b1, b2, b3, fA, fn, fc, hbR, hm1, hm2, hm3, hfs⟩ := (HRES.out.below (mask_below hgb hlo hGM)).unm
  have r2 := hbR.cell 2
  have lR := hbR.lt
  simp only [List.getElem?_toArray, List.getElem?_cons_zero, List.getElem?_cons_succ] at r2
  have hget := col_get (schemaNames s) p.head
  have HM3 := Lib.hid (hm3.same (w' := wb.drew) rfl)
  have HGB := Lib.hid hgb
  have HOB := Lib.hid hob
  have HSZB := Lib.hid hszb
  clear hbb hgb hob hbR hm1 hm2 hm3 hfs hszb
  cases hix : idx (schemaNames s) p.head with
  | none =>
    rw [hix] at hget
    have HNO : Hid (RetElem 56 5 qRuleR base G n cap i cs lo M (ruleP s p) w (.panicked nothingP) wb.drew) :=
      Lib.hid (retElem_no (by unfold ruleP; rw [hix]) (grown_drew HGB.out))
    have HF := Lib.hid ((find_no b3 _ _ wb.drew HM3.out hget).mono (R' := fun e w' => e = .panicked nothingP ∧ w' = wb.drew) (fun _ _ h => ⟨h.1, h.2.symm⟩))
    clear hix hget
    refine wp_region_still_dies 9 [0, 1, 2, 3, 4, 5, 6, 7, 8] (fun l => l.take 9) (by kernel_rfl) rfl (by kernel_rfl) (fun d u c a h => by cases d <;> exact h) ?_
    simp only [List.take_succ_cons, List.take_zero]
    repeat still_step
    refine wpStill_nil ?_
    refine ⟨_, 71, #[.map (some b3), .string p.head], nothingP, rfl, rfl, ?_, HF.out, rfl, HNO.out⟩
    go_simp
  | some a =>
    rw [hix] at hget
    have HIX := Lib.hid hix
    have hal := idx_lt hix
    have HF := Lib.hid ((find_yes b3 _ _ (a : Int) wb.drew HM3.out hget).mono (R' := fun e w' => e = .returned (.int .i64 a) ∧ w' = wb.drew) (fun _ _ h => ⟨h.1, h.2.symm⟩))
    clear hix hget
    obtain ⟨xa, hxa⟩ : ∃ x, s.schemas[a]? = some x := ⟨s.schemas[a]'(by simpa [schemaNames] using hal), List.getElem?_eq_getElem _⟩
    have HXA := Lib.hid hxa
    clear hxa hal
    refine wp_region_still_tail 12 (by kernel_rfl) (by kernel_rfl) ?_
    simp only [List.take_succ_cons, List.take_zero, List.drop_succ_cons, List.drop_zero]
    repeat still_step
    still_call HF.out
    repeat still_step
    refine wpStill_nil ?_
    change wpList _ _ _ _ _ wb.drew
    go_upto_region 2 with fail
    have ho2 := (HOB.out.stored (i * 5 + 1) (.int .i64 a)).1.drew
    have hga : w.grownBy (wb.setCell ⟨G, i * 5 + 1, none⟩ (.int .i64 a)).drew (some G) := grown_drew (grown_near HGB.out _ _)
    have hsza : (wb.setCell ⟨G, i * 5 + 1, none⟩ (.int .i64 a)).drew.heap.size = w.heap.size + 2 := by rw [← HSZB.out]; simp [World.setCell]
    have hga1 : wb.grownBy (wb.setCell ⟨G, i * 5 + 1, none⟩ (.int .i64 a)).drew (some G) := grown_drew (grown_near (World.grownBy.refl _ _) _ _)
    have krb' := hga1.cell krb (by simp; omega)
    have kub' := hga1.cell kub (by simp; omega)
    have hcha : chunk (cs.set (i * 5 + 1) (.int .i64 a)) 5 i = [.string p.head, .int .i64 a, .slice A1 n1 c1, .slice A2 n2 c2, .slice A3 n3 c3] := by
      rw [chunk_set _ (by omega), HCH.out]; rfl
    have hoth : ∀ j, j ≠ i → chunk (cs.set (i * 5 + 1) (.int .i64 a)) 5 j = chunk cs 5 j := fun j hj => by rw [chunk_other _ (by omega) hj]
    generalize (wb.setCell ⟨G, i * 5 + 1, none⟩ (.int .i64 a)).drew = wa at ho2 hga hsza krb' kub' ⊢
    generalize cs.set (i * 5 + 1) (.int .i64 a) = ca at ho2 hcha hoth
    have hfw : SlB 8 96 qFromR wa (.slice A1 n1 c1) p.froms := (HFR.out.mono qFromR_mono (mask_below hga hlo hGM)).unm qFromR_unm
    have hGa : G < wa.heap.size := by rw [hsza]; omega
    have p2 := own_cell ho2 hi (by omega) hcha (j := 2) rfl
    have f2 := ho2.frozenAt (i * 5 + 2)
    have HOA := Lib.hid ho2
    have HGA := Lib.hid hga
    have HCHA := Lib.hid hcha
    have HOTH := Lib.hid hoth
    have HSZ := Lib.hid hsza
    have HFW := Lib.hid (show SlB 8 96 qFromR wa.drew (.slice A1 n1 c1) p.froms from hfw.mono qFromR_mono (Below.refl _ _).drew)
    have hne : ¬ G = w.heap.size + 1 := by omega
    clear ho2 hga hga1 hcha hoth hsza hfw p0 p1 f1 r2 lR HF HM3 HOB HGB HSZB krb kub
    apply wp_via3 (G := fun vA vn vc w2 => ∃ cs1, w2.ownsRow base 56 5 (.slice (some ⟨G, 0, none⟩) n cap) n (ca.set (i * 5 + 2) (.slice vA vn vc)) ∧ w2.ownsRow wa.heap.size 61 8 (.slice vA vn vc) p.froms.length cs1 ∧ CellsR 8 qFromR w cs1 p.froms ∧ vn = p.froms.length ∧
      w.grownBy w2 (some G) ∧ w2.cell? ⟨w.heap.size, 0, none⟩ = some (.pointer (some ⟨R, 0, none⟩)) ∧ w2.cell? ⟨w.heap.size + 1, 0, none⟩ = some (.pointer (some ⟨G, i * 5, none⟩)) ∧ wa.heap.size ≤ w2.heap.size)
    · go_region_law (first
        | (refine step_call_any (by rfl) 74 #[.slice A1 n1 c1] (by go_simp) (cloneFrom_any A1 n1 c1 p.froms _ HFW.out) ?_
           rintro e w1 ⟨v, cs1, rfl, hcs1, ho1, hb1⟩
           refine ⟨_, rfl, ?_⟩
           obtain ⟨vA, vn, vc, rfl, hvn⟩ := own_form' ho1
           have q2 : w1.cell? ⟨G, i * 5 + 2, none⟩ = some (.slice A1 n1 c1) := ((bcell hb1).1 _ _ hGa).trans p2
           have hf2 : w1.frozen? ⟨G, i * 5 + 2, none⟩ = false := ((bcell hb1).2 _ _ hGa).trans f2
           have kr1 : w1.cell? ⟨w.heap.size, 0, none⟩ = some (.pointer (some ⟨R, 0, none⟩)) := ((bcell hb1).1 _ _ (by have := HSZ.out; simp; omega)).trans krb'
           have ku1 : w1.cell? ⟨w.heap.size + 1, 0, none⟩ = some (.pointer (some ⟨G, i * 5, none⟩)) := ((bcell hb1).1 _ _ (by have := HSZ.out; simp; omega)).trans kub'
           have HO1 := Lib.hid ho1
           have HC1 := Lib.hid hcs1
           have HB1 := Lib.hid hb1
           have HVN := Lib.hid hvn
           clear ho1 hcs1 hb1 hvn))
      all_goals
        have hg1 : w.grownBy (w1.setCell ⟨G, i * 5 + 2, none⟩ (.slice vA vn vc)) (some G) := grown_near (grown_trans (grown_drew HGA.out) (grown_of_below HB1.out _)) _ _
        have hg2 : w1.grownBy (w1.setCell ⟨G, i * 5 + 2, none⟩ (.slice vA vn vc)) (some G) := grown_near (World.grownBy.refl _ _) _ _
        exact ⟨vA, vn, vc, rfl, cs1, ((own_below0 HOA.out.drew HB1.out).stored (i * 5 + 2) (.slice vA vn vc)).1, own_far HO1.out (by simpa using hGa) _, HC1.out, HVN.out, hg1, hg2.cell kr1 (by simp; omega), hg2.cell ku1 (by simp; omega), by have := HB1.out.size; simp [World.setCell] at this ⊢; exact this⟩
    rintro vA vn vc w2 ⟨cs1, ho2, hi2, hc1, hvn, hg2, kr2, ku2, hsz2⟩
    have hcb : chunk (ca.set (i * 5 + 2) (.slice vA vn vc)) 5 i = [.string p.head, .int .i64 a, .slice vA vn vc, .slice A2 n2 c2, .slice A3 n3 c3] := by
      rw [chunk_set _ (by omega), HCHA.out]; rfl
    have hotb : ∀ j, j ≠ i → chunk (ca.set (i * 5 + 2) (.slice vA vn vc)) 5 j = chunk cs 5 j := fun j hj => by rw [chunk_other _ (by omega) hj]; exact HOTH.out j hj
    generalize ca.set (i * 5 + 2) (.slice vA vn vc) = cb at ho2 hcb hotb
    have g2 := own_cell ho2 hi (by omega) hcb (j := 2) rfl
    have HO2 := Lib.hid ho2
    have HI2 := Lib.hid hi2
    have HC1 := Lib.hid hc1
    have HVN := Lib.hid hvn
    have HG2 := Lib.hid hg2
    have HCB := Lib.hid hcb
    have HOTB := Lib.hid hotb
    clear ho2 hi2 hc1 hvn hg2 hcb hotb HOTH HCHA HOA HFW krb' kub' p2 f2 hne
    have hmm := @run_makeMap Try.prog
    go_upto_region 5 with fail
    clear hmm
    have hbc : Below w2.heap.size w2 ((w2.alloc (.map #[] 0)).alloc (.cells #[.map (some w2.heap.size)] 98)) := ((Below.refl _ _).alloc (Nat.le_refl _) _).alloc (by simp) _
    have hmc : MapAt strW i64W ((w2.alloc (.map #[] 0)).alloc (.cells #[.map (some w2.heap.size)] 98)) w2.heap.size (varsOf []) := (MapAt.new strW i64W w2).below ((Below.refl _ _).alloc (Nat.le_refl _) _)
    have hvc : ((w2.alloc (.map #[] 0)).alloc (.cells #[.map (some w2.heap.size)] 98)).cell? ⟨w2.heap.size + 1, 0, none⟩ = some (.map (some w2.heap.size)) := by simp [go_sem]
    have hszc : ((w2.alloc (.map #[] 0)).alloc (.cells #[.map (some w2.heap.size)] 98)).heap.size = w2.heap.size + 2 := by simp
    have hoc := own_below0 HO2.out hbc
    have hic := own_below0 HI2.out hbc
    have hrb : RB w R G (i * 5) w.heap.size (w.heap.size + 1) (w2.heap.size + 1) w2.heap.size ((w2.alloc (.map #[] 0)).alloc (.cells #[.map (some w2.heap.size)] 98)) :=
      ⟨grown_trans HG2.out (grown_of_below hbc _), (bcell hbc).1 _ _ (by have := HSZ.out; omega) |>.trans kr2, (bcell hbc).1 _ _ (by have := HSZ.out; omega) |>.trans ku2, hvc⟩
    have gc2 := own_cell hoc hi (by omega) HCB.out (j := 2) rfl
    have hfb : ∀ r, (Value.slice vA vn vc).ownBlock = some r → w.heap.size + 2 ≤ r ∧ r < w2.heap.size := fun r e => by have := HI2.out.lt r e; have := HSZ.out; omega
    have hwv : w.heap.size + 2 ≤ w2.heap.size := by have := HSZ.out; omega
    generalize (w2.alloc (.map #[] 0)).alloc (.cells #[.map (some w2.heap.size)] 98) = wc at hmc hszc hoc hic hrb gc2 ⊢
    obtain ⟨vb, hvb⟩ : ∃ b, b = w2.heap.size := ⟨_, rfl⟩
    rw [← hvb] at hmc hszc hrb hfb hwv ⊢
    have k1 := hrb.rb
    have k2 := hrb.ub
    have k3 := hrb.vv
    have HMC := Lib.hid hmc
    have HOC := Lib.hid hoc
    have HIC := Lib.hid hic
    have HRB := Lib.hid hrb
    have HFB := Lib.hid hfb
    have hsz3 : w.heap.size + 2 = wa.heap.size := HSZ.out.symm
    have HS3 := Lib.hid hsz3
    clear hmc hoc hic hrb hfb hbc hvc kr2 ku2 g2 hsz2 hszc HO2 HI2 HG2 hsz3 HSZ hvb
    go_wp2_with fail
    clear k1 k2 k3 gc2
    go_loopg [37] vn (fun q j wr => ∃ (k : Nat) (out : List QFrom) (cr : List Value), k ≤ vn ∧ q = vn - k ∧ j = .int .i64 k ∧ allTo (fromStep s) p.froms k = some out ∧ RB w R G (i * 5) w.heap.size (w.heap.size + 1) (vb + 1) vb wr ∧ wr.ownsRow base 56 5 (.slice (some ⟨G, 0, none⟩) n cap) n cb ∧
        wr.ownsRow wa.heap.size 61 8 (.slice vA vn vc) p.froms.length cr ∧ CellsR 8 qFromR w cr (out ++ p.froms.drop k) ∧ MapAt strW i64W wr vb (varsOf out) ∧ FromOk s out)
    case atStart => exact ⟨0, [], cs1, Nat.zero_le _, rfl, rfl, rfl, HRB.out, HOC.out, HIC.out, HC1.out, HMC.out, fun f hf => by simp at hf⟩
    case round =>
      clear HRB HOC HIC HC1 HMC
      obtain ⟨k, out, cr, hk, hq, rfl, hto, hrb, hog, hoh, hcr, hmp, hok⟩ := hrel
      have HQ := Lib.hid hq
      have HTO := Lib.hid hto
      have HOK := Lib.hid hok
      clear hq hto hok
      by_cases hlt : k < vn
      · rcases own_row hoh with ⟨h, h0⟩ | ⟨H, hcap, h, hH, hHw, hn2⟩
        · exfalso; injection h with _ h; omega
        injection h with h1 h2 h3
        subst h1 h3
        clear h2
        have hvn2 : vn ≤ 9223372036854775807 := by have := HVN.out; omega
        have hHb := HFB.out H rfl
        obtain ⟨m, hm⟩ : ∃ m, p.froms[k]? = some m := ⟨p.froms[k]'(by have := HVN.out; omega), List.getElem?_eq_getElem _⟩
        have hlen := allTo_len (by have := HVN.out; omega) HTO.out
        have hat : (out ++ p.froms.drop k)[k]? = some m := by
          rw [List.getElem?_append_right (by omega), List.getElem?_drop, hlen]
          simpa using hm
        have hch : chunk cr 8 k = _ := hcr.chunk hat
        have hoh' : wr.ownsRow wa.heap.size 61 8 (.slice (some ⟨H, 0, none⟩) vn vc) vn cr := by have := HVN.out; rw [this] at hoh ⊢; exact hoh
        have e1 := own_cell hoh' hlt (by omega) hch (j := 1) rfl
        have e2 := own_cell hoh' hlt (by omega) hch (j := 2) rfl
        have f2 := hoh'.frozenAt (k * 8 + 2)
        have g2 := own_cell hog hi (by omega) HCB.out (j := 2) rfl
        have k1 := hrb.rb
        have k2 := hrb.ub
        obtain ⟨b1', b2', b3', fA', fn', fc', hbR', _, _, hm3', _⟩ := (HRES.out.below (mask_below hrb.gr hlo hGM)).unm
        have s2 := hbR'.cell 2
        have lR' := hbR'.lt
        simp only [List.getElem?_toArray, List.getElem?_cons_zero, List.getElem?_cons_succ] at s2
        have hget := col_get (schemaNames s) m.kind
        have HM3 := Lib.hid (hm3'.same (w' := wr.drew) rfl)
        have HRB := Lib.hid hrb
        have HOG := Lib.hid hog
        have HOH := Lib.hid hoh'
        have HCR := Lib.hid hcr
        have HMP := Lib.hid hmp
        have HM := Lib.hid hm
        have HLEN := Lib.hid hlen
        have HAT := Lib.hid hat
        clear hrb hog hoh hoh' hcr hmp hm hlen hat hch hbR' hm3'
        have hkn : (k : Int) < (vn : Int) := by omega
        have hk0 : (0 : Int) ≤ (k : Int) := by omega
        go_upto_region 9 with fail
        cases hix : idx (schemaNames s) m.kind with
        | none =>
          rw [hix] at hget
          have HNO : Hid (RetElem 56 5 qRuleR base G n cap i cs lo M (ruleP s p) w (.panicked nothingP) wr.drew) := by
            refine retElem_no ?_ (grown_drew HRB.out.gr)
            unfold ruleP
            rw [HIX.out]
            simp only
            rw [allP_none (k := k + 1) (by have := HVN.out; omega) (allTo_no HTO.out HM.out (by unfold fromStep; rw [hix]))]
          have HF := Lib.hid ((find_no b3' _ _ wr.drew HM3.out hget).mono (R' := fun e w' => e = .panicked nothingP ∧ w' = wr.drew) (fun _ _ h => ⟨h.1, h.2.symm⟩))
          clear hix hget
          refine wp_region_still_dies 9 [0, 1, 2, 3, 4, 5, 6, 7, 8] (fun l => l.take 9) (by kernel_rfl) rfl (by kernel_rfl) (fun d u c a h => by cases d <;> exact h) ?_
          simp only [List.take_succ_cons, List.take_zero]
          repeat still_step
          refine wpStill_nil ?_
          refine ⟨_, 71, #[.map (some b3'), .string m.kind], nothingP, rfl, rfl, ?_, HF.out, rfl, HNO.out⟩
          go_simp
        | some b =>
          rw [hix] at hget
          have HF := Lib.hid ((find_yes b3' _ _ (b : Int) wr.drew HM3.out hget).mono (R' := fun e w' => e = .returned (.int .i64 b) ∧ w' = wr.drew) (fun _ _ h => ⟨h.1, h.2.symm⟩))
          have HIB := Lib.hid hix
          have hbl := idx_lt hix
          clear hix hget
          obtain ⟨xb, hxb⟩ : ∃ x, s.schemas[b]? = some x := ⟨s.schemas[b]'(by simpa [schemaNames] using hbl), List.getElem?_eq_getElem _⟩
          have HXB := Lib.hid hxb
          clear hxb hbl
          refine wp_region_still_tail 12 (by kernel_rfl) (by kernel_rfl) ?_
          simp only [List.take_succ_cons, List.take_zero, List.drop_succ_cons, List.drop_zero]
          repeat still_step
          still_call HF.out
          repeat still_step
          refine wpStill_nil ?_
          change wpList _ _ _ _ _ wr.drew
          go_upto_region 10 with fail
          have hoq := (HOH.out.stored (k * 8 + 2) (.int .i64 b)).1.drew
          have hgq : wr.grownBy (wr.setCell ⟨H, k * 8 + 2, none⟩ (.int .i64 b)).drew (some H) := grown_drew (grown_near (World.grownBy.refl _ _) _ _)
          have hcq := from_put2 HCR.out HAT.out (b : Int)
          generalize (wr.setCell ⟨H, k * 8 + 2, none⟩ (.int .i64 b)).drew = wq at hoq hgq ⊢
          generalize cr.set (k * 8 + 2) (.int .i64 b) = cq at hoq hcq
          have hrq := HRB.out.far hgq (by omega) (by omega) (by omega) (by omega)
          have hogq := HOG.out.kept hgq (.inr (by simp [Value.ownBlock]; omega))
          have hmq : MapAt strW i64W wq vb (varsOf out) := HMP.out.keeps (KeepsMaps.grown hgq (fun x e => by cases e; exact own_cells HOH.out))
          have hkl : k < (out ++ p.froms.drop k).length := (List.getElem?_eq_some_iff.1 HAT.out).1
          have hatk : ((out ++ p.froms.drop k).set k { m with schema := (b : Int) })[k]? = some { m with schema := (b : Int) } := List.getElem?_set_self hkl
          have hck : chunk cq 8 k = _ := hcq.chunk hatk
          have gq2 := own_cell hogq hi (by omega) HCB.out (j := 2) rfl
          have HOQ := Lib.hid hoq
          have HCQ := Lib.hid hcq
          have HRQ := Lib.hid hrq
          have HOGQ := Lib.hid hogq
          have HMQ := Lib.hid hmq
          have HATK := Lib.hid hatk
          have HCK := Lib.hid hck
          clear hoq hcq hrq hogq hmq hgq hkl hatk hck e1 e2 f2 g2 k1 k2 s2 lR' HF HM3 HRB HOG HOH HCR HMP
          go_wp2_with fail
          have hnum := number_any (vb + 1) w.heap.size (w.heap.size + 1) vb R G (i * 5) H vn vc wa.heap.size 8 H vn vc (k * 8 + 3) 61 cq s (varsOf out) out m.of_ wq HRQ.out.vv (by omega) HRQ.out.rb (by omega) HRQ.out.ub (by omega) (fun _ => gq2) (by omega) HMQ.out (res_hide HRES.out HRQ.out.gr hlo hGM (by omega))
            (fun v hv => by
              obtain ⟨n', rfl, hn', f, hf, _⟩ := varsN_get out _ _ v hv
              obtain ⟨a', sc, ha', hs'⟩ := HOK.out f (List.mem_of_getElem? hf)
              have hl := HLEN.out
              have hatn : ((out ++ p.froms.drop k).set k { m with schema := (b : Int) })[n']? = some f := by rw [List.getElem?_set_ne (by omega), List.getElem?_append_left (by omega)]; exact hf
              have hcn : chunk cq 8 n' = _ := HCQ.out.chunk hatn
              refine ⟨n', a', f, sc, rfl, by omega, hvn2, hf, ha', hs', ?_, .inr (by omega)⟩
              have := own_cell HOQ.out (show n' < vn by omega) (by omega) hcn (j := 2) rfl
              rw [ha'] at this
              exact this)
            HOQ.out (chunk_get HCK.out (by omega) rfl) (chunk_get HCK.out (by omega) (j := 4) rfl) (chunk_get HCK.out (by omega) (j := 5) rfl) (chunk_get HCK.out (by omega) (j := 6) rfl)
          refine hnum.mono ?_
          clear hnum
          rintro e w' ⟨hg', hr⟩
          cases htp : termP s (varsOf out) out m.of_ with
          | none =>
            rw [htp] at hr
            subst hr
            have HNO : Hid (RetElem 56 5 qRuleR base G n cap i cs lo M (ruleP s p) w (.panicked nothingP) w') := by
              refine retElem_no ?_ (grown_mid HRQ.out.gr hg' (by omega))
              unfold ruleP
              rw [HIX.out]
              simp only
              rw [allP_none (k := k + 1) (by have := HVN.out; omega) (allTo_no HTO.out HM.out (by unfold fromStep; rw [HIB.out]; simp only; rw [htp]; rfl))]
            clear htp hg'
            go_wp2
            exact ⟨rfl, HNO.out⟩
          | some t' =>
            rw [htp] at hr
            obtain ⟨rfl, ho'⟩ := hr
            have hr' := HRQ.out.far hg' (by omega) (by omega) (by omega) (by omega)
            have hog' := HOGQ.out.kept hg' (.inr (by simp [Value.ownBlock]; omega))
            have hm' : MapAt strW i64W w' vb (varsOf out) := HMQ.out.keeps (KeepsMaps.grown hg' (fun x e => by cases e; exact own_cells HOQ.out))
            have hc' := from_putT HCQ.out HATK.out t' (termP_same htp)
            rw [List.set_set] at hc'
            have hat' : ((out ++ p.froms.drop k).set k { m with schema := (b : Int), of_ := t' })[k]? = some { m with schema := (b : Int), of_ := t' } := List.getElem?_set_self (List.getElem?_eq_some_iff.1 HAT.out).1
            have hck' : chunk _ 8 k = _ := hc'.chunk hat'
            have d0 := own_cell ho' hlt (by omega) hck' (j := 0) rfl
            simp only [Nat.add_zero] at d0
            have k3 := hr'.vv
            obtain ⟨w3, hrun3, hm3, hg3⟩ := run_update_m (keyEq_string Try.underlying9) Try.underlying98 (hm'.same (w' := w'.drew) rfl) m.name (k : Int)
            have hr3 := hr'.drew.far hg3 (by omega) (by omega) (by omega) (by omega)
            have hog3 := hog'.drew.kept hg3 (.inr (by simp [Value.ownBlock]; omega))
            have ho3 := ho'.drew.kept hg3 (.inr (by simp [Value.ownBlock]; omega))
            have HST : Hid (fromStep s out m = some { m with schema := (b : Int), of_ := t' }) := Lib.hid (by unfold fromStep; rw [HIB.out]; simp only; rw [htp]; rfl)
            have HC' := Lib.hid hc'
            have HR3 := Lib.hid hr3
            have HOG3 := Lib.hid hog3
            have HO3 := Lib.hid ho3
            have HM3 := Lib.hid hm3
            clear hr' hog' hm' hc' hat' hck' ho' hg' hg3 hr3 hog3 ho3 hm3 htp HRQ HOGQ HOQ HMQ HCQ gq2 HATK HCK
            go_wp2_with fail
            go_still_tail 6, (by kernel_rfl)
            change wpList _ _ _ _ _ w'.drew
            go_wp2_with fail
            go_roundg (vn - (k + 1))
            case measure => have := HQ.out; omega
            case rel =>
              refine ⟨k + 1, out ++ [{ m with schema := (b : Int), of_ := t' }], (cq.set (k * 8 + 3 + 2) (.int .i64 t'.var)).set (k * 8 + 3 + 3) (.int .i64 t'.field), by omega, rfl, by go_num, allTo_yes HTO.out HM.out HST.out, HR3.out, HOG3.out, ?_, ?_, ?_, ?_⟩
              rotate_left 1
              · rw [← set_drop HLEN.out HM.out]; exact HC'.out
              · rw [varsOf_snoc, HLEN.out]; exact HM3.out
              · intro f hf
                rw [List.mem_append, List.mem_singleton] at hf
                rcases hf with hf | rfl
                · exact HOK.out f hf
                · exact ⟨b, xb, rfl, HXB.out⟩
              · have h3 := HO3.out; have := HVN.out; rw [this] at h3 ⊢; exact h3
      · have hke : k = p.froms.length := by have := HVN.out; omega
        have hcf : CellsR 8 qFromR w cr out := by rw [hke, List.drop_length, List.append_nil] at hcr; exact hcr
        have HFO : Hid (allP (fromStep s) p.froms = some out) := Lib.hid (by unfold allP; rw [← hke]; exact HTO.out)
        obtain ⟨wz, rfl⟩ : ∃ x, x = wr := ⟨_, rfl⟩
        have hol : out.length = vn := by rw [allTo_len (by omega) HTO.out]; have := HVN.out; omega
        have hoh' : wz.ownsRow wa.heap.size 61 8 (.slice vA vn vc) vn cr := by have := HVN.out; rw [this] at hoh ⊢; exact hoh
        have hGz : G < wz.heap.size := Nat.lt_of_lt_of_le hGw hrb.gr.size
        have hvz : vb + 1 < wz.heap.size := by
          have := hrb.vv
          rcases Nat.lt_or_ge (vb + 1) wz.heap.size with h | h
          · exact h
          · simp [World.cell?, Array.getElem?_eq_none h] at this
        have g3 := own_cell hog hi (by omega) HCB.out (j := 3) rfl
        have fg3 := hog.frozenAt (i * 5 + 3)
        have k2 := hrb.ub
        have HWW := Lib.hid (show SlB 11 120 qAtomR wz.drew (.slice A2 n2 c2) p.where_ from ((HWH.out.mono qAtomR_mono (mask_below hrb.gr hlo hGM)).unm qAtomR_unm).mono qAtomR_mono (Below.refl _ _).drew)
        have HRB := Lib.hid hrb
        have HOG := Lib.hid hog
        have HOH := Lib.hid hoh'
        have HCF := Lib.hid hcf
        have HMP := Lib.hid hmp
        have HOL := Lib.hid hol
        have HVZ := Lib.hid hvz
        clear hrb hog hoh hoh' hcr hcf hmp HTO HQ hol hvz
        go_upto_region 13 with fail
        apply wp_via3 (G := fun xA xn xc w4 => ∃ cs4, RB w R G (i * 5) w.heap.size (w.heap.size + 1) (vb + 1) vb w4 ∧ w4.ownsRow base 56 5 (.slice (some ⟨G, 0, none⟩) n cap) n (cb.set (i * 5 + 3) (.slice xA xn xc)) ∧ w4.ownsRow wz.heap.size 64 11 (.slice xA xn xc) p.where_.length cs4 ∧ CellsR 11 qAtomR w cs4 p.where_ ∧ xn = p.where_.length ∧
          w4.ownsRow wa.heap.size 61 8 (.slice vA vn vc) vn cr ∧ MapAt strW i64W w4 vb (varsOf out) ∧ wz.heap.size ≤ w4.heap.size)
        · go_region_law (first
            | (refine step_call_any (by rfl) 76 #[.slice A2 n2 c2] (by go_simp) (cloneAtom_any A2 n2 c2 p.where_ _ HWW.out) ?_
               rintro e w1 ⟨v, cs4, rfl, hcs1, ho1, hb1⟩
               refine ⟨_, rfl, ?_⟩
               obtain ⟨xA, xn, xc, rfl, hxn⟩ := own_form' ho1
               have q2 : w1.cell? ⟨G, i * 5 + 3, none⟩ = some (.slice A2 n2 c2) := ((bcell hb1).1 _ _ hGz).trans g3
               have hf2 : w1.frozen? ⟨G, i * 5 + 3, none⟩ = false := ((bcell hb1).2 _ _ hGz).trans fg3
               have ku1 := ((HRB.out.drew).below hb1).ub
               have HO1 := Lib.hid ho1
               have HC4 := Lib.hid hcs1
               have HB1 := Lib.hid hb1
               have HXN := Lib.hid hxn
               clear ho1 hcs1 hb1 hxn))
          all_goals
            have hg2 : w1.grownBy (w1.setCell ⟨G, i * 5 + 3, none⟩ (.slice xA xn xc)) (some G) := grown_near (World.grownBy.refl _ _) _ _
            exact ⟨xA, xn, xc, rfl, cs4, ((HRB.out.drew).below HB1.out).near hg2 (by omega) (by omega) (by omega), ((own_below0 HOG.out.drew HB1.out).stored (i * 5 + 3) (.slice xA xn xc)).1, own_far HO1.out (by simpa using hGz) _, HC4.out, HXN.out, (own_below0 HOH.out.drew HB1.out).kept hg2 (.inr (fun e => by have := (HFB.out _ e).1; omega)),
              ((HMP.out.same (w' := wz.drew) rfl).below HB1.out).keeps (KeepsMaps.put _ _ _), by have := HB1.out.size; simp [World.setCell] at this ⊢; exact this⟩
        rintro xA xn xc w4 ⟨cs4, hr4, hog4, ho4, hc4, hxn, hof4, hm4, hz4⟩
        have hcc : chunk (cb.set (i * 5 + 3) (.slice xA xn xc)) 5 i = [.string p.head, .int .i64 a, .slice vA vn vc, .slice xA xn xc, .slice A3 n3 c3] := by
          rw [chunk_set _ (by omega), HCB.out]; rfl
        have hotc : ∀ j, j ≠ i → chunk (cb.set (i * 5 + 3) (.slice xA xn xc)) 5 j = chunk cs 5 j := fun j hj => by rw [chunk_other _ (by omega) hj]; exact HOTB.out j hj
        generalize cb.set (i * 5 + 3) (.slice xA xn xc) = cc at hog4 hcc hotc
        have g3' := own_cell hog4 hi (by omega) hcc (j := 3) rfl
        have ku4 := hr4.ub
        have hzz : vb + 1 < wz.heap.size := HVZ.out
        have HR4 := Lib.hid hr4
        have HOG4 := Lib.hid hog4
        have HO4 := Lib.hid ho4
        have HC4 := Lib.hid hc4
        have HXN := Lib.hid hxn
        have HOF4 := Lib.hid hof4
        have HM4 := Lib.hid hm4
        have HCC := Lib.hid hcc
        have HOTC := Lib.hid hotc
        clear hr4 hog4 ho4 hc4 hxn hof4 hm4 hcc hotc HRB HOG HOH HMP HCB HOTB g3 fg3 k2 HWW HWH
        go_wp2_with fail
        clear g3' ku4
        go_loopg [83] xn (fun q j wr => ∃ (k : Nat) (ou : List QAtom) (cr2 : List Value), k ≤ xn ∧ q = xn - k ∧ j = .int .i64 k ∧ allTo (fun _ => atomStep s out) p.where_ k = some ou ∧ RB w R G (i * 5) w.heap.size (w.heap.size + 1) (vb + 1) vb wr ∧ wr.ownsRow base 56 5 (.slice (some ⟨G, 0, none⟩) n cap) n cc ∧
            wr.ownsRow wz.heap.size 64 11 (.slice xA xn xc) p.where_.length cr2 ∧ CellsR 11 qAtomR w cr2 (ou ++ p.where_.drop k) ∧ wr.ownsRow wa.heap.size 61 8 (.slice vA vn vc) vn cr ∧ MapAt strW i64W wr vb (varsOf out))
        case atStart => exact ⟨0, [], cs4, Nat.zero_le _, rfl, rfl, rfl, HR4.out, HOG4.out, HO4.out, HC4.out, HOF4.out, HM4.out⟩
        case round =>
          clear HR4 HOG4 HO4 HC4 HOF4 HM4
          obtain ⟨k', ou, cr2, hk', hq', rfl, hto', hrb, hog, hoh, hcr2, hof, hmp⟩ := hrel
          have HQ := Lib.hid hq'
          have HTO := Lib.hid hto'
          clear hq' hto'
          by_cases hlt' : k' < xn
          · rcases own_row hoh with ⟨h, h0⟩ | ⟨H, hcap, h, hH, hHw, hn2⟩
            · exfalso; injection h with _ h; omega
            injection h with h1 h2 h3
            subst h1 h3
            clear h2
            have hxn2 : xn ≤ 9223372036854775807 := by have := HXN.out; omega
            obtain ⟨m, hm⟩ : ∃ m, p.where_[k']? = some m := ⟨p.where_[k']'(by have := HXN.out; omega), List.getElem?_eq_getElem _⟩
            have hlen := allTo_len (by have := HXN.out; omega) HTO.out
            have hat : (ou ++ p.where_.drop k')[k']? = some m := by
              rw [List.getElem?_append_right (by omega), List.getElem?_drop, hlen]
              simpa using hm
            have hch : chunk cr2 11 k' = _ := hcr2.chunk hat
            have hoh' : wr.ownsRow wz.heap.size 64 11 (.slice (some ⟨H, 0, none⟩) xn xc) xn cr2 := by have := HXN.out; rw [this] at hoh ⊢; exact hoh
            have g2 := own_cell hog hi (by omega) HCC.out (j := 2) rfl
            have g3 := own_cell hog hi (by omega) HCC.out (j := 3) rfl
            have k2 := hrb.ub
            have hnF : ∀ r, (Value.slice vA vn vc).ownBlock = some r → r ≠ H := fun r e => by have := (HFB.out r e).2; omega
            have HNF := Lib.hid hnF
            have HN1 := Lib.hid (number_far (ot := k' * 11 + 1) (t := m.a) hrb g2 hof HCF.out HOL.out HOK.out hmp HRES.out hlo hGM (by omega) (by omega) (by omega) (by omega) (by omega) hnF hoh' (chunk_get hch (by omega) (j := 1) rfl) (chunk_get hch (by omega) (j := 2) rfl) (chunk_get hch (by omega) (j := 3) rfl) (chunk_get hch (by omega) (j := 4) rfl))
            have HRB := Lib.hid hrb
            have HOG := Lib.hid hog
            have HOH := Lib.hid hoh'
            have HCR := Lib.hid hcr2
            have HOF := Lib.hid hof
            have HMP := Lib.hid hmp
            have HM := Lib.hid hm
            have HLEN := Lib.hid hlen
            have HAT := Lib.hid hat
            clear hrb hog hoh hoh' hcr2 hof hmp hm hlen hat hch hnF
            have hkn : (k' : Int) < (xn : Int) := by omega
            have hk0 : (0 : Int) ≤ (k' : Int) := by omega
            go_wp2_with fail
            refine HN1.out.mono ?_
            rintro e w' ⟨hg', hr⟩
            have hNone : (termP s (varsOf out) out m.a = none ∨ termP s (varsOf out) out m.b = none) → ruleP s p = none := fun hh => by
              unfold ruleP
              rw [HIX.out]
              simp only
              rw [HFO.out]
              simp only
              rw [allP_none (k := k' + 1) (by have := HXN.out; omega) (allTo_no HTO.out HM.out (by
                unfold atomStep
                rcases hh with hh | hh
                · rw [hh]
                · rw [hh]; cases termP s (varsOf out) out m.a <;> rfl))]
            have HNONE := Lib.hid hNone
            clear hNone HN1
            cases htp : termP s (varsOf out) out m.a with
            | none =>
              rw [htp] at hr
              subst hr
              have HNO : Hid (RetElem 56 5 qRuleR base G n cap i cs lo M (ruleP s p) w (.panicked nothingP) w') := Lib.hid (retElem_no (HNONE.out (.inl htp)) (grown_mid HRB.out.gr hg' (by omega)))
              clear htp hg'
              go_wp2
              exact ⟨rfl, HNO.out⟩
            | some t' =>
              rw [htp] at hr
              obtain ⟨rfl, ho'⟩ := hr
              have hr' := HRB.out.far hg' (by omega) (by omega) (by omega) (by omega)
              have hog' := HOG.out.kept hg' (.inr (by simp [Value.ownBlock]; omega))
              have hof' := HOF.out.kept hg' (.inr (fun e => HNF.out _ e rfl))
              have hm' : MapAt strW i64W w' vb (varsOf out) := HMP.out.keeps (KeepsMaps.grown hg' (fun x e => by cases e; exact own_cells HOH.out))
              have hc' := atom_putA HCR.out HAT.out t' (termP_same htp)
              have hat' : ((ou ++ p.where_.drop k').set k' { m with a := t' })[k']? = some { m with a := t' } := List.getElem?_set_self (List.getElem?_eq_some_iff.1 HAT.out).1
              have hck' : chunk _ 11 k' = _ := hc'.chunk hat'
              have g2' := own_cell hog' hi (by omega) HCC.out (j := 2) rfl
              have g3' := own_cell hog' hi (by omega) HCC.out (j := 3) rfl
              have k2' := hr'.ub
              have HN2 := Lib.hid (number_far (ot := k' * 11 + 6) (t := m.b) hr' g2' hof' HCF.out HOL.out HOK.out hm' HRES.out hlo hGM (by omega) (by omega) (by omega) (by omega) (by omega) HNF.out ho' (chunk_get hck' (by omega) (j := 6) rfl) (chunk_get hck' (by omega) (j := 7) rfl) (chunk_get hck' (by omega) (j := 8) rfl) (chunk_get hck' (by omega) (j := 9) rfl))
              have HTA := Lib.hid htp
              have HR' := Lib.hid hr'
              have HOG' := Lib.hid hog'
              have HOF' := Lib.hid hof'
              have HM' := Lib.hid hm'
              have HC' := Lib.hid hc'
              have HAT' := Lib.hid hat'
              have HO' := Lib.hid ho'
              clear hr' hog' hof' hm' hc' hat' hck' htp ho' hg' g2 g3 k2 HRB HOG HOF HMP HCR HOH
              go_wp2_with fail
              refine HN2.out.mono ?_
              rintro e w'' ⟨hg'', hr⟩
              clear HN2
              cases htp : termP s (varsOf out) out m.b with
              | none =>
                rw [htp] at hr
                subst hr
                have HNO : Hid (RetElem 56 5 qRuleR base G n cap i cs lo M (ruleP s p) w (.panicked nothingP) w'') := Lib.hid (retElem_no (HNONE.out (.inr htp)) (grown_mid HR'.out.gr hg'' (by omega)))
                clear htp hg''
                go_wp2
                exact ⟨rfl, HNO.out⟩
              | some t'' =>
                rw [htp] at hr
                obtain ⟨rfl, ho''⟩ := hr
                have hc'' := atom_putB HC'.out HAT'.out t'' (termP_same htp)
                rw [List.set_set] at hc''
                have HST : Hid (atomStep s out m = some { m with a := t', b := t'' }) := Lib.hid (by unfold atomStep; rw [HTA.out, htp])
                have HC'' := Lib.hid hc''
                have HO'' := Lib.hid ho''
                have HG'' := Lib.hid hg''
                clear hc'' ho'' hg'' htp g2' g3' k2'
                go_wp2_with fail
                go_roundg (xn - (k' + 1))
                case measure => have := HQ.out; omega
                case rel =>
                  refine ⟨k' + 1, ou ++ [{ m with a := t', b := t'' }], _, by omega, rfl, by go_num, allTo_yes HTO.out HM.out HST.out, HR'.out.far HG''.out (by omega) (by omega) (by omega) (by omega), HOG'.out.kept HG''.out (.inr (by simp [Value.ownBlock]; omega)), ?_, by rw [← set_drop HLEN.out HM.out]; exact HC''.out, HOF'.out.kept HG''.out (.inr (fun e => HNF.out _ e rfl)), HM'.out.keeps (KeepsMaps.grown HG''.out (fun x e => by cases e; exact own_cells HO'.out))⟩
                  have h3 := HO''.out; have := HXN.out; rw [this] at h3 ⊢; exact h3
          · have hke' : k' = p.where_.length := by have := HXN.out; omega
            have hca : CellsR 11 qAtomR w cr2 ou := by rw [hke', List.drop_length, List.append_nil] at hcr2; exact hcr2
            have HAO : Hid (allP (fun _ => atomStep s out) p.where_ = some ou) := Lib.hid (by unfold allP; rw [← hke']; exact HTO.out)
            obtain ⟨wy, rfl⟩ : ∃ x, x = wr := ⟨_, rfl⟩
            have hal2 : ou.length = xn := by rw [allTo_len (by omega) HTO.out]; have := HXN.out; omega
            have hGy : G < wy.heap.size := Nat.lt_of_lt_of_le hGw hrb.gr.size
            have hvy : vb + 1 < wy.heap.size := by
              have := hrb.vv
              rcases Nat.lt_or_ge (vb + 1) wy.heap.size with h | h
              · exact h
              · simp [World.cell?, Array.getElem?_eq_none h] at this
            have hxb : ∀ r, (Value.slice xA xn xc).ownBlock = some r → wz.heap.size ≤ r ∧ r < wy.heap.size := fun r e => hoh.lt r e
            have g4 := own_cell hog hi (by omega) HCC.out (j := 4) rfl
            have fg4 := hog.frozenAt (i * 5 + 4)
            have k2 := hrb.ub
            have HWW := Lib.hid (show SlB 7 80 qSetR wy.drew (.slice A3 n3 c3) p.sets from ((HSE.out.mono qSetR_mono (mask_below hrb.gr hlo hGM)).unm qSetR_unm).mono qSetR_mono (Below.refl _ _).drew)
            have HRB := Lib.hid hrb
            have HOG := Lib.hid hog
            have HOH := Lib.hid hoh
            have HCA := Lib.hid hca
            have HOF := Lib.hid hof
            have HMP := Lib.hid hmp
            have HAL := Lib.hid hal2
            have HVY := Lib.hid hvy
            have HXB := Lib.hid hxb
            clear hrb hog hoh hcr2 hca hof hmp HTO HQ hal2 hvy hxb
            go_upto_region 20 with fail
            apply wp_via3 (G := fun yA yn yc w4 => ∃ cs5, RB w R G (i * 5) w.heap.size (w.heap.size + 1) (vb + 1) vb w4 ∧ w4.ownsRow base 56 5 (.slice (some ⟨G, 0, none⟩) n cap) n (cc.set (i * 5 + 4) (.slice yA yn yc)) ∧ w4.ownsRow wy.heap.size 66 7 (.slice yA yn yc) p.sets.length cs5 ∧ CellsR 7 qSetR w cs5 p.sets ∧ yn = p.sets.length ∧
              w4.ownsRow wa.heap.size 61 8 (.slice vA vn vc) vn cr ∧ MapAt strW i64W w4 vb (varsOf out) ∧ w4.ownsRow wz.heap.size 64 11 (.slice xA xn xc) p.where_.length cr2 ∧ wy.heap.size ≤ w4.heap.size)
            · go_region_law (first
                | (refine step_call_any (by rfl) 77 #[.slice A3 n3 c3] (by go_simp) (cloneSet_any A3 n3 c3 p.sets _ HWW.out) ?_
                   rintro e w1 ⟨v, cs5, rfl, hcs1, ho1, hb1⟩
                   refine ⟨_, rfl, ?_⟩
                   obtain ⟨yA, yn, yc, rfl, hyn⟩ := own_form' ho1
                   have q2 : w1.cell? ⟨G, i * 5 + 4, none⟩ = some (.slice A3 n3 c3) := ((bcell hb1).1 _ _ hGy).trans g4
                   have hf2 : w1.frozen? ⟨G, i * 5 + 4, none⟩ = false := ((bcell hb1).2 _ _ hGy).trans fg4
                   have ku1 := ((HRB.out.drew).below hb1).ub
                   have HO1 := Lib.hid ho1
                   have HC4 := Lib.hid hcs1
                   have HB1 := Lib.hid hb1
                   have HYN := Lib.hid hyn
                   clear ho1 hcs1 hb1 hyn))
              all_goals
                have hg2 : w1.grownBy (w1.setCell ⟨G, i * 5 + 4, none⟩ (.slice yA yn yc)) (some G) := grown_near (World.grownBy.refl _ _) _ _
                exact ⟨yA, yn, yc, rfl, cs5, ((HRB.out.drew).below HB1.out).near hg2 (by omega) (by omega) (by omega), ((own_below0 HOG.out.drew HB1.out).stored (i * 5 + 4) (.slice yA yn yc)).1, own_far HO1.out (by simpa using hGy) _, HC4.out, HYN.out, (own_below0 HOF.out.drew HB1.out).kept hg2 (.inr (fun e => by have := (HFB.out _ e).1; omega)),
                  ((HMP.out.same (w' := wy.drew) rfl).below HB1.out).keeps (KeepsMaps.put _ _ _), (own_below0 HOH.out.drew HB1.out).kept hg2 (.inr (fun e => by have := (HXB.out _ e).1; omega)), by have := HB1.out.size; simp [World.setCell] at this ⊢; exact this⟩
            rintro yA yn yc w4 ⟨cs5, hr4, hog4, ho4, hc4, hyn, hof4, hm4, hoa4, hz4⟩
            have hcd : chunk (cc.set (i * 5 + 4) (.slice yA yn yc)) 5 i = [.string p.head, .int .i64 a, .slice vA vn vc, .slice xA xn xc, .slice yA yn yc] := by
              rw [chunk_set _ (by omega), HCC.out]; rfl
            have hotd : ∀ j, j ≠ i → chunk (cc.set (i * 5 + 4) (.slice yA yn yc)) 5 j = chunk cs 5 j := fun j hj => by rw [chunk_other _ (by omega) hj]; exact HOTC.out j hj
            generalize cc.set (i * 5 + 4) (.slice yA yn yc) = cd at hog4 hcd hotd
            have g4' := own_cell hog4 hi (by omega) hcd (j := 4) rfl
            have ku4 := hr4.ub
            have hyy : vb + 1 < wy.heap.size := HVY.out
            have HR4 := Lib.hid hr4
            have HOG4 := Lib.hid hog4
            have HO4 := Lib.hid ho4
            have HC4 := Lib.hid hc4
            have HYN := Lib.hid hyn
            have HOF4 := Lib.hid hof4
            have HM4 := Lib.hid hm4
            have HOA4 := Lib.hid hoa4
            have HCD := Lib.hid hcd
            have HOTD := Lib.hid hotd
            clear hr4 hog4 ho4 hc4 hyn hof4 hm4 hoa4 hcd hotd HRB HOG HOH HOF HMP HCC HOTC g4 fg4 k2 HWW
            go_wp2_with fail
            clear g4' ku4
            go_loopg [118] yn (fun q j wr => ∃ (k : Nat) (ov : List QSet) (cr3 : List Value), k ≤ yn ∧ q = yn - k ∧ j = .int .i64 k ∧ allTo (fun _ => setStep s xa out) p.sets k = some ov ∧ RB w R G (i * 5) w.heap.size (w.heap.size + 1) (vb + 1) vb wr ∧ wr.ownsRow base 56 5 (.slice (some ⟨G, 0, none⟩) n cap) n cd ∧
                wr.ownsRow wy.heap.size 66 7 (.slice yA yn yc) p.sets.length cr3 ∧ CellsR 7 qSetR w cr3 (ov ++ p.sets.drop k) ∧ wr.ownsRow wa.heap.size 61 8 (.slice vA vn vc) vn cr ∧ MapAt strW i64W wr vb (varsOf out) ∧ wr.ownsRow wz.heap.size 64 11 (.slice xA xn xc) p.where_.length cr2)
            case atStart => exact ⟨0, [], cs5, Nat.zero_le _, rfl, rfl, rfl, HR4.out, HOG4.out, HO4.out, HC4.out, HOF4.out, HM4.out, HOA4.out⟩
            case round =>
              clear HR4 HOG4 HO4 HC4 HOF4 HM4 HOA4
              obtain ⟨k2, ov, cr3, hk2, hq2, rfl, hto2, hrb, hog, hoh, hcr3, hof, hmp, hoa⟩ := hrel
              have HQ := Lib.hid hq2
              have HTO := Lib.hid hto2
              clear hq2 hto2
              by_cases hlt2 : k2 < yn
              · rcases own_row hoh with ⟨h, h0⟩ | ⟨H, hcap, h, hH, hHw, hn2⟩
                · exfalso; injection h with _ h; omega
                injection h with h1 h2 h3
                subst h1 h3
                clear h2
                have hyn2 : yn ≤ 9223372036854775807 := by have := HYN.out; omega
                obtain ⟨m, hm⟩ : ∃ m, p.sets[k2]? = some m := ⟨p.sets[k2]'(by have := HYN.out; omega), List.getElem?_eq_getElem _⟩
                have hlen := allTo_len (by have := HYN.out; omega) HTO.out
                have hat : (ov ++ p.sets.drop k2)[k2]? = some m := by
                  rw [List.getElem?_append_right (by omega), List.getElem?_drop, hlen]
                  simpa using hm
                have hch : chunk cr3 7 k2 = _ := hcr3.chunk hat
                have hoh' : wr.ownsRow wy.heap.size 66 7 (.slice (some ⟨H, 0, none⟩) yn yc) yn cr3 := by have := HYN.out; rw [this] at hoh ⊢; exact hoh
                have e0 := own_cell hoh' hlt2 (by omega) hch (j := 0) rfl
                simp only [Nat.add_zero] at e0
                have e1 := own_cell hoh' hlt2 (by omega) hch (j := 1) rfl
                have f1 := hoh'.frozenAt (k2 * 7 + 1)
                have g1 := own_cell hog hi (by omega) HCD.out (j := 1) rfl
                have g4 := own_cell hog hi (by omega) HCD.out (j := 4) rfl
                have kr := hrb.rb
                have ku := hrb.ub
                obtain ⟨b1', b2', b3', fA', fl, fc', hbR', _, _, _, hfs'⟩ := (HRES.out.below (mask_below hrb.gr hlo hGM)).unm
                have s3 := hbR'.cell 3
                have lR' := hbR'.lt
                simp only [List.getElem?_toArray, List.getElem?_cons_zero, List.getElem?_cons_succ] at s3
                have hafl : a < fl := by
                  have := hfs'.len
                  rw [this, List.length_map]
                  exact (List.getElem?_eq_some_iff.1 HXA.out).1
                have hflm : fl ≤ 9223372036854775807 := by have := hfs'.le; omega
                obtain ⟨fb, foff, fm, fg, rfl, hfb, hfm, hfc, hfmap⟩ := map_at hfs' hafl
                have hfx : fm = fieldMap xa := by rw [List.getElem?_map, HXA.out, Option.map_some, Option.some.injEq] at hfm; exact hfm.symm
                subst hfx
                have hget := col_get (fieldNames xa) m.path
                have HFM := Lib.hid (hfmap.same (w' := wr.drew) rfl)
                have hnF : ∀ r, (Value.slice vA vn vc).ownBlock = some r → r ≠ H := fun r e => by have := (HFB.out r e).2; omega
                have hnA : ∀ r, (Value.slice xA xn xc).ownBlock = some r → r ≠ H := fun r e => by have := (HXB.out r e).2; omega
                have HNF := Lib.hid hnF
                have HNA := Lib.hid hnA
                have HRB := Lib.hid hrb
                have HOG := Lib.hid hog
                have HOH := Lib.hid hoh'
                have HCR := Lib.hid hcr3
                have HOF := Lib.hid hof
                have HMP := Lib.hid hmp
                have HOA := Lib.hid hoa
                have HM := Lib.hid hm
                have HLEN := Lib.hid hlen
                have HAT := Lib.hid hat
                clear hrb hog hoh hoh' hcr3 hof hmp hoa hm hlen hat hch hnF hnA hfs' hfm hfmap hbR'
                have hkn : (k2 : Int) < (yn : Int) := by omega
                have hk0 : (0 : Int) ≤ (k2 : Int) := by omega
                have ha0 : (0 : Int) ≤ (a : Int) := by omega
                have han : (a : Int) < (fl : Int) := by omega
                have hNone : (idx (fieldNames xa) m.path = none ∨ termP s (varsOf out) out m.term = none) → ruleP s p = none := fun hh => by
                  unfold ruleP
                  rw [HIX.out]
                  simp only
                  rw [HFO.out]
                  simp only
                  rw [HAO.out]
                  simp only
                  rw [HXA.out]
                  simp only
                  rw [allP_none (k := k2 + 1) (by have := HYN.out; omega) (allTo_no HTO.out HM.out (by
                    unfold setStep
                    rcases hh with hh | hh
                    · rw [hh]
                    · rw [hh]; cases idx (fieldNames xa) m.path <;> rfl))]
                have HNONE := Lib.hid hNone
                clear hNone
                go_upto_region 24 with fail
                cases hix : idx (fieldNames xa) m.path with
                | none =>
                  rw [hix] at hget
                  have HNO : Hid (RetElem 56 5 qRuleR base G n cap i cs lo M (ruleP s p) w (.panicked nothingP) wr.drew) := Lib.hid (retElem_no (HNONE.out (.inl hix)) (grown_drew HRB.out.gr))
                  have HF := Lib.hid ((find_no fg _ _ wr.drew HFM.out hget).mono (R' := fun e w' => e = .panicked nothingP ∧ w' = wr.drew) (fun _ _ h => ⟨h.1, h.2.symm⟩))
                  clear hix hget
                  refine wp_region_still_dies 23 [0, 1, 2, 3, 4, 5, 6, 7, 8, 9, 10, 11, 12, 13, 14, 15, 16, 17, 18, 19, 20, 21, 22] (fun l => l.take 23) (by kernel_rfl) rfl (by kernel_rfl) (fun d u c a h => by cases d <;> exact h) ?_
                  simp only [List.take_succ_cons, List.take_zero]
                  repeat still_step
                  refine wpStill_nil ?_
                  refine ⟨_, 71, #[.map (some fg), .string m.path], nothingP, rfl, rfl, ?_, HF.out, rfl, HNO.out⟩
                  go_simp
                | some f =>
                  rw [hix] at hget
                  have HF := Lib.hid ((find_yes fg _ _ (f : Int) wr.drew HFM.out hget).mono (R' := fun e w' => e = .returned (.int .i64 f) ∧ w' = wr.drew) (fun _ _ h => ⟨h.1, h.2.symm⟩))
                  have HIF := Lib.hid hix
                  clear hix hget
                  refine wp_region_still_tail 26 (by kernel_rfl) (by kernel_rfl) ?_
                  simp only [List.take_succ_cons, List.take_zero, List.drop_succ_cons, List.drop_zero]
                  repeat still_step
                  still_call HF.out
                  repeat still_step
                  refine wpStill_nil ?_
                  change wpList _ _ _ _ _ wr.drew
                  go_upto_region 25 with fail
                  have hoq := (HOH.out.stored (k2 * 7 + 1) (.int .i64 f)).1.drew
                  have hgq : wr.grownBy (wr.setCell ⟨H, k2 * 7 + 1, none⟩ (.int .i64 f)).drew (some H) := grown_drew (grown_near (World.grownBy.refl _ _) _ _)
                  have hcq := set_put1 HCR.out HAT.out (f : Int)
                  generalize (wr.setCell ⟨H, k2 * 7 + 1, none⟩ (.int .i64 f)).drew = wq at hoq hgq ⊢
                  generalize cr3.set (k2 * 7 + 1) (.int .i64 f) = cq at hoq hcq
                  have hrq := HRB.out.far hgq (by omega) (by omega) (by omega) (by omega)
                  have hogq := HOG.out.kept hgq (.inr (by simp [Value.ownBlock]; omega))
                  have hofq := HOF.out.kept hgq (.inr (fun e => HNF.out _ e rfl))
                  have hoaq := HOA.out.kept hgq (.inr (fun e => HNA.out _ e rfl))
                  have hmq : MapAt strW i64W wq vb (varsOf out) := HMP.out.keeps (KeepsMaps.grown hgq (fun x e => by cases e; exact own_cells HOH.out))
                  have hatk : ((ov ++ p.sets.drop k2).set k2 { m with field := (f : Int) })[k2]? = some { m with field := (f : Int) } := List.getElem?_set_self (List.getElem?_eq_some_iff.1 HAT.out).1
                  have hck : chunk cq 7 k2 = _ := hcq.chunk hatk
                  have gq2 := own_cell hogq hi (by omega) HCD.out (j := 2) rfl
                  have gq4 := own_cell hogq hi (by omega) HCD.out (j := 4) rfl
                  have kuq := hrq.ub
                  have HN1 := Lib.hid (number_far (ot := k2 * 7 + 2) (t := m.term) hrq gq2 hofq HCF.out HOL.out HOK.out hmq HRES.out hlo hGM (by omega) (by omega) (by omega) (by omega) (by omega) HNF.out hoq (chunk_get hck (by omega) (j := 2) rfl) (chunk_get hck (by omega) (j := 3) rfl) (chunk_get hck (by omega) (j := 4) rfl) (chunk_get hck (by omega) (j := 5) rfl))
                  have HOQ := Lib.hid hoq
                  have HCQ := Lib.hid hcq
                  have HRQ := Lib.hid hrq
                  have HOGQ := Lib.hid hogq
                  have HOFQ := Lib.hid hofq
                  have HOAQ := Lib.hid hoaq
                  have HMQ := Lib.hid hmq
                  have HATK := Lib.hid hatk
                  clear hoq hcq hrq hogq hofq hoaq hmq hgq hatk hck e0 e1 f1 g1 g4 kr ku s3 lR' HF HFM HRB HOG HOH HCR HMP HOF HOA gq2 hfc
                  go_wp2_with fail
                  refine HN1.out.mono ?_
                  rintro e w' ⟨hg', hr⟩
                  clear HN1
                  cases htp : termP s (varsOf out) out m.term with
                  | none =>
                    rw [htp] at hr
                    subst hr
                    have HNO : Hid (RetElem 56 5 qRuleR base G n cap i cs lo M (ruleP s p) w (.panicked nothingP) w') := Lib.hid (retElem_no (HNONE.out (.inr htp)) (grown_mid HRQ.out.gr hg' (by omega)))
                    clear htp hg'
                    go_wp2
                    exact ⟨rfl, HNO.out⟩
                  | some t' =>
                    rw [htp] at hr
                    obtain ⟨rfl, ho'⟩ := hr
                    have hc' := set_putT HCQ.out HATK.out t' (termP_same htp)
                    rw [List.set_set] at hc'
                    have HST : Hid (setStep s xa out m = some { m with field := (f : Int), term := t' }) := Lib.hid (by unfold setStep; rw [HIF.out, htp])
                    have HC' := Lib.hid hc'
                    have HO' := Lib.hid ho'
                    have HG' := Lib.hid hg'
                    clear hc' ho' hg' htp gq4 kuq
                    go_wp2_with fail
                    go_roundg (yn - (k2 + 1))
                    case measure => have := HQ.out; omega
                    case rel =>
                      refine ⟨k2 + 1, ov ++ [{ m with field := (f : Int), term := t' }], _, by omega, rfl, by go_num, allTo_yes HTO.out HM.out HST.out, HRQ.out.far HG'.out (by omega) (by omega) (by omega) (by omega), HOGQ.out.kept HG'.out (.inr (by simp [Value.ownBlock]; omega)), ?_, by rw [← set_drop HLEN.out HM.out]; exact HC'.out, HOFQ.out.kept HG'.out (.inr (fun e => HNF.out _ e rfl)), HMQ.out.keeps (KeepsMaps.grown HG'.out (fun x e => by cases e; exact own_cells HOQ.out)), HOAQ.out.kept HG'.out (.inr (fun e => HNA.out _ e rfl))⟩
                      have h3 := HO'.out; have := HYN.out; rw [this] at h3 ⊢; exact h3
              · have hke2 : k2 = p.sets.length := by have := HYN.out; omega
                go_wp2_with fail
                go_end0
                have hP : ruleP s p = some { p with schema := (a : Int), froms := out, where_ := ou, sets := ov } := by
                  unfold ruleP
                  rw [HIX.out]
                  simp only
                  rw [HFO.out]
                  simp only
                  rw [HAO.out]
                  simp only
                  rw [HXA.out]
                  simp only
                  unfold allP
                  rw [← hke2, HTO.out]
                have hs3 := HS3.out
                refine retElem_yes hP hrb.gr hog HOTD.out ⟨vA, vn, vc, xA, xn, xc, yA, yn, yc, HCD.out, ⟨slR_of_row (mask_own hof (by omega)) ⟨HCF.out.1, HCF.out.2⟩ HOL.out.symm, ?_⟩, ⟨slR_of_row (mask_own hoa (by omega)) ⟨HCA.out.1, HCA.out.2⟩ (by rw [HAL.out, HXN.out]), ?_⟩, ⟨slR_of_row (mask_own hoh (by omega)) ?_ (by rw [allTo_len (by omega) HTO.out, hke2]), ?_⟩⟩
                · have := HFR.out.2; rw [HOL.out, HVN.out]; exact this
                · have := HBW.out; rw [HAL.out, HXN.out]; exact this
                · rw [hke2, List.drop_length, List.append_nil] at hcr3
                  exact ⟨hcr3.1, hcr3.2⟩
                · have := HSE.out.2; rw [allTo_len (by omega) HTO.out, hke2]; exact this

end Go.Proofs.Ytkkkephjljiplaa
