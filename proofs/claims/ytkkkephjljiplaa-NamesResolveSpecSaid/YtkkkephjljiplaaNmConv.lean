/- Contract of numberConvert. -/
import Derived.Test.YtkkkephjljiplaaNmPurp
import Derived.Test.YtkkkephjljiplaaTail
namespace Go.Proofs.Ytkkkephjljiplaa
open Go.RowKit

def moveStep (xa xb : QSchema) (m : QMove) : Option QMove :=
  match idx (fieldNames xa) m.from_, idx (fieldNames xb) m.to_ with
  | some a, some b => some { m with a := (a : Int), b := (b : Int) }
  | _, _ => none
def convertP (s : QSource) (c : QConvert) : Option QConvert :=
  match idx (schemaNames s) c.from_, idx (schemaNames s) c.to_ with
  | some a, some b => match s.schemas[a]?, s.schemas[b]? with
    | some xa, some xb => (allP (fun _ => moveStep xa xb) c.moves).map (fun l => { c with a := (a : Int), b := (b : Int), moves := l })
    | _, _ => none
  | _, _ => none

theorem move_put {w : World} {cs : List Value} {l : List QMove} {k : Nat} {u : QMove} (h : CellsR 5 qMoveR w cs l) (hk : l[k]? = some u) (x y : Int) : CellsR 5 qMoveR w ((cs.set (k * 5 + 3) (.int .i64 x)).set (k * 5 + 2) (.int .i64 y)) (l.set k { u with a := x, b := y }) := by
  have hkl := (List.getElem?_eq_some_iff.1 hk).1
  have h1 : CellsR 5 qMoveR w (cs.set (k * 5 + 3) (.int .i64 x)) (l.set k { u with a := x }) := h.put (by omega) hkl (by
    have : chunk cs 5 k = _ := h.chunk hk
    rw [this]; rfl)
  have h2 := h1.put (i := k) (j := 2) (x' := { u with a := x, b := y }) (u := .int .i64 y) (by omega) (by simpa using hkl) (by
    have : chunk _ 5 k = _ := h1.chunk (i := k) (by rw [List.getElem?_set_self hkl])
    rw [this]; rfl)
  rwa [List.set_set] at h2

set_option maxHeartbeats 2000000 in
set_option maxRecDepth 100000 in
theorem numberConvert_any (R lo M base G n cap i : Nat) (cs : List Value) (s : QSource) (p : QConvert) (w : World) (hres : ResR (mask lo M w) R s) (hlo : lo ≤ G) (hGM : G < M) (hMw : M ≤ w.heap.size)
    (ho : w.ownsRow base 69 5 (.slice (some ⟨G, 0, none⟩) n cap) n cs) (hi : i < n) (hp : qConvertR (mask lo M w) (chunk cs 5 i) p) :
    Calls Try.prog 37 #[.pointer (some ⟨R, 0, none⟩), .pointer (some ⟨G, i * 5, none⟩)] w (RetElem 69 5 qConvertR base G n cap i cs lo M (convertP s p) w) := by
  obtain ⟨A1, n1, c1, hch, hmay⟩ := hp
  have p0 := own_cell ho hi (by omega) hch (j := 0) rfl
  simp only [Nat.add_zero] at p0
  have p1 := own_cell ho hi (by omega) hch (j := 1) rfl
  have p2 := own_cell ho hi (by omega) hch (j := 2) rfl
  have p3 := own_cell ho hi (by omega) hch (j := 3) rfl
  have p4 := own_cell ho hi (by omega) hch (j := 4) rfl
  have f2 := ho.frozenAt (i * 5 + 2)
  have f3 := ho.frozenAt (i * 5 + 3)
  have hGw : G < w.heap.size := by omega
  obtain ⟨b1, b2, b3, fA, fn, fc, hbR, hm1, hm2, hm3, hfs⟩ := hres.unm
  have r2 := hbR.cell 2
  have lR := hbR.lt
  simp only [List.getElem?_toArray, List.getElem?_cons_zero, List.getElem?_cons_succ] at r2
  have hget1 := col_get (schemaNames s) p.from_
  have hget2 := col_get (schemaNames s) p.to_
  have HRES := Lib.hid hres
  have HO := Lib.hid ho
  have HCH := Lib.hid hch
  have HMAY := Lib.hid hmay
  have HM3 := Lib.hid (hm3.same (w' := w.drew) rfl)
  clear hres ho hch hmay hbR hm1 hm2 hm3 hfs
  go_enter Try.func37, Try.ntmps37
  go_wp2_with fail
  cases hix1 : idx (schemaNames s) p.from_ with
  | none =>
    rw [hix1] at hget1
    have HNO : Hid (RetElem 69 5 qConvertR base G n cap i cs lo M (convertP s p) w (.panicked nothingP) w.drew) :=
      retElem_no (by unfold convertP; rw [hix1]) (grown_drew (World.grownBy.refl _ _))
    have HF := Lib.hid ((find_no b3 _ _ w.drew HM3.out hget1).mono (R' := fun e w' => e = .panicked nothingP ∧ w' = w.drew) (fun _ _ h => ⟨h.1, h.2.symm⟩))
    clear hix1 hget1 hget2
    refine wp_region_still_dies 10 [0, 1, 2, 3, 4, 5, 6, 7, 8, 9, 11, 12, 13, 14, 15, 16, 17, 18] (fun l => l.take 10 ++ (l.drop 11).take 8) (by kernel_rfl) rfl (by kernel_rfl) (fun d u c a h => by cases d <;> exact h) ?_
    simp only [List.take_succ_cons, List.take_zero, List.drop_succ_cons, List.drop_zero, List.cons_append, List.nil_append]
    repeat still_step
    refine wpStill_nil ?_
    refine ⟨_, 71, #[.map (some b3), .string p.from_], nothingP, rfl, rfl, ?_, HF.out, rfl, HNO.out⟩
    go_simp
  | some a =>
    rw [hix1] at hget1
    have HF1 := Lib.hid ((find_yes b3 _ _ (a : Int) w.drew HM3.out hget1).mono (R' := fun e w' => e = .returned (.int .i64 a) ∧ w' = w.drew) (fun _ _ h => ⟨h.1, h.2.symm⟩))
    have HIX1 := Lib.hid hix1
    have hal := idx_lt hix1
    clear hix1 hget1
    cases hix2 : idx (schemaNames s) p.to_ with
    | none =>
      rw [hix2] at hget2
      have HNO : Hid (RetElem 69 5 qConvertR base G n cap i cs lo M (convertP s p) w (.panicked nothingP) w.drew) :=
        retElem_no (by unfold convertP; rw [HIX1.out, hix2]) (grown_drew (World.grownBy.refl _ _))
      have HF := Lib.hid ((find_no b3 _ _ w.drew HM3.out hget2).mono (R' := fun e w' => e = .panicked nothingP ∧ w' = w.drew) (fun _ _ h => ⟨h.1, h.2.symm⟩))
      clear hix2 hget2
      refine wp_region_still_dies 19 [0, 1, 2, 3, 4, 5, 6, 7, 8, 9, 10, 11, 12, 13, 14, 15, 16, 17, 18] (fun l => l.take 19) (by kernel_rfl) rfl (by kernel_rfl) (fun d u c a h => by cases d <;> exact h) ?_
      simp only [List.take_succ_cons, List.take_zero]
      repeat still_step
      still_call HF1.out
      repeat still_step
      refine wpStill_nil ?_
      refine ⟨_, 71, #[.map (some b3), .string p.to_], nothingP, rfl, rfl, ?_, HF.out, rfl, HNO.out⟩
      go_simp
    | some b =>
      rw [hix2] at hget2
      have HF2 := Lib.hid ((find_yes b3 _ _ (b : Int) w.drew HM3.out hget2).mono (R' := fun e w' => e = .returned (.int .i64 b) ∧ w' = w.drew) (fun _ _ h => ⟨h.1, h.2.symm⟩))
      have HIX2 := Lib.hid hix2
      have hbl := idx_lt hix2
      clear hix2 hget2
      refine wp_region_float 22 1 _ (.pointer (some ⟨G, i * 5, none⟩)) [0, 2, 3, 4, 5, 6, 7, 8, 9, 10, 11, 12, 13, 14, 15, 16, 17, 18, 19, 20, 21] (fun l => l.take 1 ++ (l.drop 2).take 20) (by kernel_rfl) rfl (by omega) (by decide) rfl (by kernel_rfl) (by kernel_rfl) (by kernel_rfl) (by kernel_rfl) (fun _ _ _ h => h) (.inl ⟨rfl, fun _ => rfl⟩) rfl (by kernel_rfl) ?_
      simp only [List.take_succ_cons, List.take_zero, List.drop_succ_cons, List.drop_zero, List.cons_append, List.nil_append]
      repeat still_step
      still_call HF1.out
      repeat still_step
      still_call HF2.out
      repeat still_step
      refine wpStill_nil ?_
      change wpList _ _ _ _ _ w.drew
      go_wp2_with fail
      have ho1 := HO.out.stored (i * 5 + 2) (.int .i64 a)
      have ho2 := (ho1.1.stored (i * 5 + 3) (.int .i64 b)).1.drew
      have hga : w.grownBy ((w.setCell ⟨G, i * 5 + 2, none⟩ (.int .i64 a)).setCell ⟨G, i * 5 + 3, none⟩ (.int .i64 b)).drew (some G) := grown_drew (grown_near (grown_near (World.grownBy.refl _ _) _ _) _ _)
      have hsza : ((w.setCell ⟨G, i * 5 + 2, none⟩ (.int .i64 a)).setCell ⟨G, i * 5 + 3, none⟩ (.int .i64 b)).drew.heap.size = w.heap.size := by simp [World.setCell]
      have hcha : chunk ((cs.set (i * 5 + 2) (.int .i64 a)).set (i * 5 + 3) (.int .i64 b)) 5 i = [.string p.from_, .string p.to_, .int .i64 a, .int .i64 b, .slice A1 n1 c1] := by
        rw [chunk_set _ (by omega), chunk_set _ (by omega), HCH.out]; rfl
      have hoth : ∀ j, j ≠ i → chunk ((cs.set (i * 5 + 2) (.int .i64 a)).set (i * 5 + 3) (.int .i64 b)) 5 j = chunk cs 5 j := fun j hj => by rw [chunk_other _ (by omega) hj, chunk_other _ (by omega) hj]
      generalize ((w.setCell ⟨G, i * 5 + 2, none⟩ (.int .i64 a)).setCell ⟨G, i * 5 + 3, none⟩ (.int .i64 b)).drew = wa at ho2 hga hsza ⊢
      generalize (cs.set (i * 5 + 2) (.int .i64 a)).set (i * 5 + 3) (.int .i64 b) = ca at ho2 hcha hoth
      have q2 := own_cell ho2 hi (by omega) hcha (j := 2) rfl
      have hmw := (HMAY.out.mono qMoveR_mono (mask_below hga hlo hGM)).unm qMoveR_unm
      obtain ⟨xa, hxa⟩ : ∃ x, s.schemas[a]? = some x := ⟨s.schemas[a]'(by simpa [schemaNames] using hal), List.getElem?_eq_getElem _⟩
      obtain ⟨xb, hxb⟩ : ∃ x, s.schemas[b]? = some x := ⟨s.schemas[b]'(by simpa [schemaNames] using hbl), List.getElem?_eq_getElem _⟩
      have HXA := Lib.hid hxa
      have HXB := Lib.hid hxb
      have HOA := Lib.hid ho2
      have HGA := Lib.hid hga
      have HCHA := Lib.hid hcha
      have HOTH := Lib.hid hoth
      have HSZ := Lib.hid hsza
      have HBD := Lib.hid HMAY.out.2
      have hGa : G < wa.heap.size := by rw [hsza]; exact hGw
      clear ho1 ho2 hga hcha hoth hsza hxa hxb p0 p1 p2 p3 p4 f2 f3 r2 lR q2 HF1 HF2 HM3
      refine (cloneMove_any A1 n1 c1 p.moves _ hmw).mono ?_
      rintro e w1 ⟨v, cs1, rfl, hcs1, ho1, hb1⟩
      obtain ⟨vA, vn, vc, rfl⟩ : ∃ A m c, v = .slice A m c := by
        rcases own_row ho1 with ⟨rfl, _⟩ | ⟨g, cap, rfl, _⟩
        · exact ⟨_, _, _, rfl⟩
        · exact ⟨_, _, _, rfl⟩
      have p4 := own_cell HOA.out hi (by omega) HCHA.out (j := 4) rfl
      have q1 : w1.cell? ⟨G, i * 5 + 4, none⟩ = some (.slice A1 n1 c1) := ((bcell hb1).1 _ _ hGa).trans p4
      have hf1 : w1.frozen? ⟨G, i * 5 + 4, none⟩ = false := ((bcell hb1).2 _ _ hGa).trans (HOA.out.frozenAt _)
      have hG1 : G < w1.heap.size := Nat.lt_of_lt_of_le hGa hb1.size
      have HO1 := Lib.hid ho1
      have HC1 := Lib.hid hcs1
      have HB1 := Lib.hid hb1
      clear ho1 hcs1 hb1 p4 hmw
      go_wp2_with fail
      have ho2 : (w1.setCell ⟨G, i * 5 + 4, none⟩ (.slice vA vn vc)).ownsRow base 69 5 (.slice (some ⟨G, 0, none⟩) n cap) n (ca.set (i * 5 + 4) (.slice vA vn vc)) := ((own_below0 HOA.out HB1.out).stored (i * 5 + 4) (.slice vA vn vc)).1
      have hi2 : (w1.setCell ⟨G, i * 5 + 4, none⟩ (.slice vA vn vc)).ownsRow wa.heap.size 71 5 (.slice vA vn vc) p.moves.length cs1 := own_far HO1.out (by simpa using hGa) _
      have hg2 : w.grownBy (w1.setCell ⟨G, i * 5 + 4, none⟩ (.slice vA vn vc)) (some G) := grown_near (grown_trans HGA.out (grown_of_below HB1.out _)) _ _
      generalize w1.setCell ⟨G, i * 5 + 4, none⟩ (.slice vA vn vc) = w2 at ho2 hi2 hg2 ⊢
      have hvn : vn = p.moves.length := by
        rcases own_row hi2 with ⟨h, h0⟩ | ⟨g, cap, h, _⟩
        · injection h with _ h; omega
        · injection h
      have HO2 := Lib.hid ho2
      have HI2 := Lib.hid hi2
      have HG2 := Lib.hid hg2
      have HVN := Lib.hid hvn
      clear ho2 hi2 hg2 hvn q1 hf1 hG1 HO1 HB1
      go_loopg [43] vn (fun q j wr => ∃ (k : Nat) (out : List QMove) (cr : List Value), k ≤ vn ∧ q = vn - k ∧ j = .int .i64 k ∧ allTo (fun _ => moveStep xa xb) p.moves k = some out ∧ w.grownBy wr (some G) ∧ wr.ownsRow base 69 5 (.slice (some ⟨G, 0, none⟩) n cap) n (ca.set (i * 5 + 4) (.slice vA vn vc)) ∧
          wr.ownsRow wa.heap.size 71 5 (.slice vA vn vc) p.moves.length cr ∧ CellsR 5 qMoveR wa cr (out ++ p.moves.drop k))
      case atStart => exact ⟨0, [], cs1, Nat.zero_le _, rfl, rfl, rfl, HG2.out, HO2.out, HI2.out, HC1.out⟩
      case round =>
        clear HO2 HI2 HG2 HC1
        obtain ⟨k, out, cr, hk, hq, rfl, hto, hgr, hog, hoh, hcr⟩ := hrel
        have HQ := Lib.hid hq
        have HTO := Lib.hid hto
        clear hq hto
        by_cases hlt : k < vn
        · rcases own_row hoh with ⟨h, h0⟩ | ⟨H, hcap, h, hH, hHw, hn2⟩
          · exfalso; injection h with _ h; omega
          injection h with h1 h2 h3
          subst h1 h3
          clear h2
          have hvn2 : vn ≤ 9223372036854775807 := by have := HVN.out; omega
          have hHw2 : w.heap.size ≤ H := by have := HSZ.out; omega
          obtain ⟨m, hm⟩ : ∃ m, p.moves[k]? = some m := ⟨p.moves[k]'(by have := HVN.out; omega), List.getElem?_eq_getElem _⟩
          have hlen := allTo_len (by have := HVN.out; omega) HTO.out
          have hat : (out ++ p.moves.drop k)[k]? = some m := by
            rw [List.getElem?_append_right (by omega), List.getElem?_drop, hlen]
            simpa using hm
          have hch : chunk cr 5 k = [.string m.to_, .string m.from_, .int .i64 m.b, .int .i64 m.a, .int .i64 m.shift] := hcr.chunk hat
          have hoh' : wr.ownsRow wa.heap.size 71 5 (.slice (some ⟨H, 0, none⟩) vn vc) vn cr := by have := HVN.out; rw [this] at hoh ⊢; exact hoh
          have e0 := own_cell hoh' hlt (by omega) hch (j := 0) rfl
          simp only [Nat.add_zero] at e0
          have e1 := own_cell hoh' hlt (by omega) hch (j := 1) rfl
          have e2 := own_cell hoh' hlt (by omega) hch (j := 2) rfl
          have e3 := own_cell hoh' hlt (by omega) hch (j := 3) rfl
          have f2 := hoh'.frozenAt (k * 5 + 2)
          have f3 := hoh'.frozenAt (k * 5 + 3)
          have hchG : chunk (ca.set (i * 5 + 4) (.slice (some ⟨H, 0, none⟩) vn vc)) 5 i = [.string p.from_, .string p.to_, .int .i64 a, .int .i64 b, .slice (some ⟨H, 0, none⟩) vn vc] := by rw [chunk_set _ (by omega), HCHA.out]; rfl
          have g2 := own_cell hog hi (by omega) hchG (j := 2) rfl
          have g3 := own_cell hog hi (by omega) hchG (j := 3) rfl
          have g4 := own_cell hog hi (by omega) hchG (j := 4) rfl
          obtain ⟨b1', b2', b3', fA', fn', fc', hbR', _, _, _, hfs'⟩ := (HRES.out.below (mask_below hgr hlo hGM)).unm
          have s3 := hbR'.cell 3
          have lR' := hbR'.lt
          simp only [List.getElem?_toArray, List.getElem?_cons_zero, List.getElem?_cons_succ] at s3
          have hfn : fn' = s.schemas.length := by have := hfs'.len; simpa using this
          have hal' : a < fn' := by rw [hfn]; simpa [schemaNames] using hal
          have hbl' : b < fn' := by rw [hfn]; simpa [schemaNames] using hbl
          obtain ⟨fb, foff, fm, fg, rfl, hfb, hfm, hfc, hfmap⟩ := map_at hfs' hal'
          obtain ⟨fb2, foff2, fm2, fg2, efb, hfb2, hfm2, hfc2, hfmap2⟩ := map_at hfs' hbl'
          injection efb with efb
          injection efb with ef1 ef2
          subst ef1 ef2
          have hfx : fm = fieldMap xa := by rw [List.getElem?_map, HXA.out, Option.map_some, Option.some.injEq] at hfm; exact hfm.symm
          have hfx2 : fm2 = fieldMap xb := by rw [List.getElem?_map, HXB.out, Option.map_some, Option.some.injEq] at hfm2; exact hfm2.symm
          subst hfx hfx2
          have hget1 := col_get (fieldNames xa) m.from_
          have hget2 := col_get (fieldNames xb) m.to_
          have HGR := Lib.hid hgr
          have HOG := Lib.hid hog
          have HOH := Lib.hid hoh'
          have HCR := Lib.hid hcr
          have HM := Lib.hid hm
          have HLEN := Lib.hid hlen
          have HAT := Lib.hid hat
          have HFM := Lib.hid (hfmap.same (w' := wr.drew) rfl)
          have HFM2 := Lib.hid (hfmap2.same (w' := wr.drew) rfl)
          clear hgr hog hoh hoh' hcr hm hlen hat hch hchG hbR' hfs' hfm hfm2 hfmap hfmap2 hfn
          have hkn : (k : Int) < (vn : Int) := by omega
          have hk0 : (0 : Int) ≤ (k : Int) := by omega
          have ha0 : (0 : Int) ≤ (a : Int) := by omega
          have han : (a : Int) < (fn' : Int) := by omega
          have hb0 : (0 : Int) ≤ (b : Int) := by omega
          have hbn : (b : Int) < (fn' : Int) := by omega
          go_wp2_with fail
          cases hix1 : idx (fieldNames xa) m.from_ with
          | none =>
            rw [hix1] at hget1
            have HNO : Hid (RetElem 69 5 qConvertR base G n cap i cs lo M (convertP s p) w (.panicked nothingP) wr.drew) := by
              refine retElem_no ?_ (grown_drew HGR.out)
              unfold convertP
              rw [HIX1.out, HIX2.out]
              simp only [HXA.out, HXB.out]
              rw [allP_none (k := k + 1) (by have := HVN.out; omega) (allTo_no HTO.out HM.out (by unfold moveStep; rw [hix1]))]
              rfl
            have HF := Lib.hid ((find_no fg _ _ wr.drew HFM.out hget1).mono (R' := fun e w' => e = .panicked nothingP ∧ w' = wr.drew) (fun _ _ h => ⟨h.1, h.2.symm⟩))
            clear hix1 hget1 hget2
            refine wp_region_still_dies 16 [0, 1, 2, 3, 4, 5, 6, 7, 8, 9, 10, 11, 12, 13, 14, 15, 17, 18, 19, 20, 21, 22, 23, 24, 25, 26, 27, 28, 29, 30] (fun l => l.take 16 ++ (l.drop 17).take 14) (by kernel_rfl) rfl (by kernel_rfl) (fun d u c a h => by cases d <;> exact h) ?_
            simp only [List.take_succ_cons, List.take_zero, List.drop_succ_cons, List.drop_zero, List.cons_append, List.nil_append]
            repeat still_step
            refine wpStill_nil ?_
            refine ⟨_, 71, #[.map (some fg), .string m.from_], nothingP, rfl, rfl, ?_, HF.out, rfl, HNO.out⟩
            go_simp
          | some f =>
            rw [hix1] at hget1
            have HF1 := Lib.hid ((find_yes fg _ _ (f : Int) wr.drew HFM.out hget1).mono (R' := fun e w' => e = .returned (.int .i64 f) ∧ w' = wr.drew) (fun _ _ h => ⟨h.1, h.2.symm⟩))
            have HJ1 := Lib.hid hix1
            clear hix1 hget1
            cases hix2 : idx (fieldNames xb) m.to_ with
            | none =>
              rw [hix2] at hget2
              have HNO : Hid (RetElem 69 5 qConvertR base G n cap i cs lo M (convertP s p) w (.panicked nothingP) wr.drew) := by
                refine retElem_no ?_ (grown_drew HGR.out)
                unfold convertP
                rw [HIX1.out, HIX2.out]
                simp only [HXA.out, HXB.out]
                rw [allP_none (k := k + 1) (by have := HVN.out; omega) (allTo_no HTO.out HM.out (by unfold moveStep; rw [HJ1.out, hix2]))]
                rfl
              have HF := Lib.hid ((find_no fg2 _ _ wr.drew HFM2.out hget2).mono (R' := fun e w' => e = .panicked nothingP ∧ w' = wr.drew) (fun _ _ h => ⟨h.1, h.2.symm⟩))
              clear hix2 hget2
              refine wp_region_still_dies 31 [0, 1, 2, 3, 4, 5, 6, 7, 8, 9, 10, 11, 12, 13, 14, 15, 16, 17, 18, 19, 20, 21, 22, 23, 24, 25, 26, 27, 28, 29, 30] (fun l => l.take 31) (by kernel_rfl) rfl (by kernel_rfl) (fun d u c a h => by cases d <;> exact h) ?_
              simp only [List.take_succ_cons, List.take_zero]
              repeat still_step
              still_call HF1.out
              repeat still_step
              refine wpStill_nil ?_
              refine ⟨_, 71, #[.map (some fg2), .string m.to_], nothingP, rfl, rfl, ?_, HF.out, rfl, HNO.out⟩
              go_simp
            | some h =>
              rw [hix2] at hget2
              have HF2 := Lib.hid ((find_yes fg2 _ _ (h : Int) wr.drew HFM2.out hget2).mono (R' := fun e w' => e = .returned (.int .i64 h) ∧ w' = wr.drew) (fun _ _ h => ⟨h.1, h.2.symm⟩))
              have HJ2 := Lib.hid hix2
              clear hix2 hget2
              refine wp_region_float 34 1 _ (.pointer (some ⟨H, k * 5, none⟩)) [0, 2, 3, 4, 5, 6, 7, 8, 9, 10, 11, 12, 13, 14, 15, 16, 17, 18, 19, 20, 21, 22, 23, 24, 25, 26, 27, 28, 29, 30, 31, 32, 33] (fun l => l.take 1 ++ (l.drop 2).take 32) (by kernel_rfl) rfl (by omega) (by decide) rfl (by kernel_rfl) (by kernel_rfl) (by kernel_rfl) (by kernel_rfl) (fun _ _ _ h => h) (.inl ⟨rfl, fun _ => rfl⟩) rfl (by kernel_rfl) ?_
              simp only [List.take_succ_cons, List.take_zero, List.drop_succ_cons, List.drop_zero, List.cons_append, List.nil_append]
              repeat still_step
              still_call HF1.out
              repeat still_step
              still_call HF2.out
              repeat still_step
              refine wpStill_nil ?_
              change wpList _ _ _ _ _ wr.drew
              go_wp2_with fail
              go_roundg (vn - (k + 1))
              case measure => have := HQ.out; omega
              case rel =>
                have ho3 := (HOH.out.drew.stored (k * 5 + 3) (.int .i64 f)).1
                have ho4 := (ho3.stored (k * 5 + 2) (.int .i64 h)).1
                have hc3 := move_put HCR.out HAT.out (f : Int) (h : Int)
                refine ⟨k + 1, out ++ [{ m with a := (f : Int), b := (h : Int) }], (cr.set (k * 5 + 3) (.int .i64 f)).set (k * 5 + 2) (.int .i64 h), by omega, rfl, by go_num, ?_, grown_far (grown_far (grown_drew HGR.out) (by simpa using hHw2) _) (by simpa using hHw2) _, own_ne (own_ne HOG.out.drew (by simp; omega) _) (by simp; omega) _, ?_, ?_⟩
                · exact allTo_yes HTO.out HM.out (by unfold moveStep; rw [HJ1.out, HJ2.out])
                · have := HVN.out; rw [this] at ho4 ⊢; exact ho4
                · rw [← set_drop HLEN.out HM.out]; exact hc3
        · have hke : k = p.moves.length := by have := HVN.out; omega
          go_wp2_with fail
          go_end0
          have hP : convertP s p = some { p with a := (a : Int), b := (b : Int), moves := out } := by
            unfold convertP allP
            rw [HIX1.out, HIX2.out]
            simp only [HXA.out, HXB.out]
            rw [← hke, HTO.out]; rfl
          have hsl : SlR 5 qMoveR (mask lo M wr) (.slice vA vn vc) out := by
            rw [hke, List.drop_length, List.append_nil] at hcr
            exact slR_of_row (mask_own hoh (by rw [HSZ.out]; exact hMw)) ⟨hcr.1, hcr.2⟩ (by rw [allTo_len (by omega) HTO.out, hke])
          refine retElem_yes hP hgr hog (fun j hj => by rw [chunk_other _ (by omega) hj]; exact HOTH.out j hj) ?_
          refine ⟨vA, vn, vc, ?_, hsl, ?_⟩
          · rw [chunk_set _ (by omega), HCHA.out]; rfl
          · have := HBD.out
            rw [allTo_len (by omega) HTO.out, hke]; exact this

end Go.Proofs.Ytkkkephjljiplaa
