/- Contract of the closure in numberRule: the numbers of a term. -/
import Derived.Test.YtkkkephjljiplaaNmSchP
import Derived.Test.YtkkkephjljiplaaDies
namespace Go.Proofs.Ytkkkephjljiplaa
open Go.RowKit

/-- A term with its numbers. -/
def termP (s : QSource) (vars : SMap) (froms : List QFrom) (t : QTerm) : Option QTerm :=
  if t.name = noStr then some { t with var := -1, field := 0 }
  else match getM vars t.name with
    | none => none
    | some v => match froms[v.toNat]? with
      | none => none
      | some f => match s.schemas[f.schema.toNat]? with
        | none => none
        | some x => (idx (fieldNames x) t.path).map (fun n => { t with var := v, field := (n : Int) })

theorem mask_comm (a b c d : Nat) (w : World) : mask a b (mask c d w) = mask c d (mask a b w) := by
  unfold mask
  congr 1
  apply Array.ext_getElem?
  intro k
  simp only [Array.getElem?_mapIdx, Option.map_map]
  cases w.heap[k]? with
  | none => rfl
  | some o =>
    simp only [Option.map_some, Function.comp, Option.some.injEq]
    split <;> split <;> rfl

/-- What the closure leaves. -/
def RetTerm (base : Nat) (T : TypeId) (sz HT n cap : Nat) (cs : List Value) (ot : Nat) (res : Option QTerm) (w : World) (e : Ending) (w' : World) : Prop :=
  w.grownBy w' (some HT) ∧ match res with
    | none => e = .panicked nothingP
    | some t => e = .returned (.tuple #[]) ∧ w'.ownsRow base T sz (.slice (some ⟨HT, 0, none⟩) n cap) n ((cs.set (ot + 2) (.int .i64 t.var)).set (ot + 3) (.int .i64 t.field))
theorem retTerm_no {base : Nat} {T : TypeId} {sz HT n cap : Nat} {cs : List Value} {ot : Nat} {res : Option QTerm} {w w' : World} (h : res = none) (hg : w.grownBy w' (some HT)) : RetTerm base T sz HT n cap cs ot res w (.panicked nothingP) w' := by
  subst h; exact ⟨hg, rfl⟩
theorem retTerm_yes {base : Nat} {T : TypeId} {sz HT n cap : Nat} {cs : List Value} {ot : Nat} {res : Option QTerm} {t : QTerm} {w w' : World} (h : res = some t) (hg : w.grownBy w' (some HT)) (ho : w'.ownsRow base T sz (.slice (some ⟨HT, 0, none⟩) n cap) n ((cs.set (ot + 2) (.int .i64 t.var)).set (ot + 3) (.int .i64 t.field))) : RetTerm base T sz HT n cap cs ot res w (.returned (.tuple #[])) w' := by
  subst h; exact ⟨hg, rfl, ho⟩
theorem row_cell {w : World} {base : Nat} {e : TypeId} {sz g n cap : Nat} {cs : List Value} (h : w.ownsRow base e sz (.slice (some ⟨g, 0, none⟩) n cap) n cs) {j : Nat} {u : Value} (hu : cs[j]? = some u) : w.cell? ⟨g, j, none⟩ = some u := by
  have hl := (List.getElem?_eq_some_iff.1 hu).1
  rw [h.1] at hl
  rw [h.cellAt _ hl, hu]

set_option maxHeartbeats 2000000 in
set_option maxRecDepth 100000 in
theorem number_any (V Rb Ub vb R G gi H fn fc base sz HT n cap ot : Nat) (T : TypeId) (cs : List Value) (s : QSource) (vars : SMap) (froms : List QFrom) (t : QTerm) (w : World)
    (hV : w.cell? ⟨V, 0, none⟩ = some (.map (some vb))) (hVT : V ≠ HT) (hRb : w.cell? ⟨Rb, 0, none⟩ = some (.pointer (some ⟨R, 0, none⟩))) (hRT : Rb ≠ HT) (hUb : w.cell? ⟨Ub, 0, none⟩ = some (.pointer (some ⟨G, gi, none⟩))) (hUT : Ub ≠ HT)
    (hG : froms ≠ [] → w.cell? ⟨G, gi + 2, none⟩ = some (.slice (some ⟨H, 0, none⟩) fn fc)) (hGT : G ≠ HT) (hm : MapAt strW i64W w vb vars) (hres : ResR (mask HT (HT + 1) w) R s)
    (hfr : ∀ v, getM vars t.name = some v → ∃ (vn a : Nat) (f : QFrom) (x : QSchema), v = (vn : Int) ∧ vn < fn ∧ fn ≤ 9223372036854775807 ∧ froms[vn]? = some f ∧ f.schema = (a : Int) ∧ s.schemas[a]? = some x ∧ w.cell? ⟨H, vn * 8 + 2, none⟩ = some (.int .i64 a) ∧ (H ≠ HT ∨ (vn * 8 + 2 ≠ ot + 2 ∧ vn * 8 + 2 ≠ ot + 3)))
    (ho : w.ownsRow base T sz (.slice (some ⟨HT, 0, none⟩) n cap) n cs) (h0 : cs[ot]? = some (.string t.name)) (h1 : cs[ot + 1]? = some (.string t.path)) (h2 : cs[ot + 2]? = some (.int .i64 t.var)) (h3 : cs[ot + 3]? = some (.int .i64 t.field)) :
    Calls Try.prog 75 #[.pointer (some ⟨HT, ot, none⟩), .pointer (some ⟨V, 0, none⟩), .pointer (some ⟨Rb, 0, none⟩), .pointer (some ⟨Ub, 0, none⟩)] w (RetTerm base T sz HT n cap cs ot (termP s vars froms t) w) := by
  have c0 := row_cell ho h0
  have c1 := row_cell ho h1
  have c2 := row_cell ho h2
  have c3 := row_cell ho h3
  have f2 := ho.frozenAt (ot + 2)
  have f3 := ho.frozenAt (ot + 3)
  have hoq := ((ho.stored (ot + 2) (.int .i64 (-1))).1.stored (ot + 3) (.int .i64 0)).1
  have hgq : w.grownBy ((w.setCell ⟨HT, ot + 2, none⟩ (.int .i64 (-1))).setCell ⟨HT, ot + 3, none⟩ (.int .i64 0)) (some HT) := grown_near (grown_near (World.grownBy.refl _ _) _ _) _ _
  have HOQ := Lib.hid hoq
  have HGQ := Lib.hid hgq
  have HKM := Lib.hid (own_cells ho)
  have HV := Lib.hid hV
  have HRB := Lib.hid hRb
  have HUB := Lib.hid hUb
  have HG := Lib.hid hG
  have HM := Lib.hid hm
  have HRES := Lib.hid hres
  have HFR := Lib.hid hfr
  have H0 := Lib.hid h0
  have H1 := Lib.hid h1
  have hl3 := (List.getElem?_eq_some_iff.1 h3).1
  have hl2 := (List.getElem?_eq_some_iff.1 h2).1
  clear hoq hgq hV hRb hUb hG hm hres hfr ho h0 h1 h2 h3
  go_enter Try.func75, Try.ntmps75
  by_cases hof : t.name = noStr
  · have t1 : t.name.toList.isEmpty = true := by rw [hof, noStr_list]; rfl
    have t2 : t.name.toList = [] := by rw [hof, noStr_list]
    have HP : Hid (termP s vars froms t = some { t with var := -1, field := 0 }) := Lib.hid (by unfold termP; rw [if_pos hof])
    clear hof
    go_wp2_with fail
    go_end0
    exact retTerm_yes HP.out HGQ.out HOQ.out
  · have t1 : t.name.toList.isEmpty = false := noStr_ne hof
    have t2 : ¬ t.name.toList = [] := by intro e; rw [e] at t1; cases t1
    have HOF := Lib.hid hof
    clear hof
    have hVq := HGQ.out.cell HV.out (by simpa using hVT)
    have hmq : MapAt strW i64W ((w.setCell ⟨HT, ot + 2, none⟩ (.int .i64 (-1))).setCell ⟨HT, ot + 3, none⟩ (.int .i64 0)).drew vb vars := (HM.out.keeps (KeepsMaps.grown HGQ.out (fun x e => by cases e; exact HKM.out))).same rfl
    have g0 : ((cs.set (ot + 2) (.int .i64 (-1))).set (ot + 3) (.int .i64 0))[ot]? = some (.string t.name) := by rw [List.getElem?_set_ne (by omega), List.getElem?_set_ne (by omega)]; exact H0.out
    have g1 : ((cs.set (ot + 2) (.int .i64 (-1))).set (ot + 3) (.int .i64 0))[ot + 1]? = some (.string t.path) := by rw [List.getElem?_set_ne (by omega), List.getElem?_set_ne (by omega)]; exact H1.out
    have g2 : ((cs.set (ot + 2) (.int .i64 (-1))).set (ot + 3) (.int .i64 0))[ot + 2]? = some (.int .i64 (-1)) := by rw [List.getElem?_set_ne (by omega), List.getElem?_set_self hl2]
    have g3 : ((cs.set (ot + 2) (.int .i64 (-1))).set (ot + 3) (.int .i64 0))[ot + 3]? = some (.int .i64 0) := by rw [List.getElem?_set_self (by simpa using hl3)]
    cases hgv : getM vars t.name with
    | none =>
      have HNM : Hid (termP s vars froms t = none) := Lib.hid (by unfold termP; rw [if_neg HOF.out, hgv])
      go_upto_region 2 with fail
      generalize (w.setCell ⟨HT, ot + 2, none⟩ (.int .i64 (-1))).setCell ⟨HT, ot + 3, none⟩ (.int .i64 0) = wq at HOQ HGQ hVq hmq ⊢
      have d0 := row_cell HOQ.out g0
      have d2 := row_cell HOQ.out g2
      have HMQ := Lib.hid hmq
      have HGV := Lib.hid hgv
      clear hmq c0 c1 c2 c3 f2 f3 g0 g1 g2 g3 hgv
      go_region_dies
      all_goals
        refine (find_no vb _ _ _ HMQ.out HGV.out).mono ?_
        rintro e w' ⟨rfl, rfl⟩
        exact ⟨rfl, retTerm_no HNM.out (grown_drew HGQ.out)⟩
    | some v =>
      obtain ⟨vn, a, f, x, rfl, hvf, hfn, hfv, hfa, hsa, hcf, hne⟩ := HFR.out v hgv
      have hcfq : ((w.setCell ⟨HT, ot + 2, none⟩ (.int .i64 (-1))).setCell ⟨HT, ot + 3, none⟩ (.int .i64 0)).cell? ⟨H, vn * 8 + 2, none⟩ = some (.int .i64 a) := by
        rw [World.cell?_setCell_other _ _ _ _ (fun e => by injection e; omega), World.cell?_setCell_other _ _ _ _ (fun e => by injection e; omega)]; exact hcf
      have hne2 : (⟨HT, ot + 2, none⟩ : Addr) ≠ ⟨H, vn * 8 + 2, none⟩ := fun e => by injection e; omega
      have HP : Hid (∀ r, (idx (fieldNames x) t.path).map (fun n => ({ t with var := (vn : Int), field := (n : Int) } : QTerm)) = r → termP s vars froms t = r) := Lib.hid (fun r hr => by
        unfold termP
        rw [if_neg HOF.out, hgv]
        simp only
        rw [show ((vn : Int)).toNat = vn from rfl, hfv]
        simp only
        rw [hfa, show ((a : Int)).toNat = a from rfl, hsa]
        exact hr)
      have HF := Lib.hid ((find_yes vb _ _ (vn : Int) _ hmq hgv).mono (R' := fun e w' => e = .returned (.int .i64 vn) ∧ w' = ((w.setCell ⟨HT, ot + 2, none⟩ (.int .i64 (-1))).setCell ⟨HT, ot + 3, none⟩ (.int .i64 0)).drew) (fun _ _ h => ⟨h.1, h.2.symm⟩))
      have hGc := HG.out (fun e => by rw [e] at hfv; simp at hfv)
      have hl3' := hl3
      go_upto_region 2 with fail
      clear hmq
      generalize (w.setCell ⟨HT, ot + 2, none⟩ (.int .i64 (-1))).setCell ⟨HT, ot + 3, none⟩ (.int .i64 0) = wq at HOQ HGQ hVq hcfq HF ⊢
      have d0 := row_cell HOQ.out g0
      have d2 := row_cell HOQ.out g2
      have fd2 := HOQ.out.frozenAt (ot + 2)
      clear c0 c1 c2 c3 f2 f3 hgv
      refine wp_region_still_tail 9 (by kernel_rfl) (by kernel_rfl) ?_
      simp only [List.take_succ_cons, List.take_zero, List.drop_succ_cons, List.drop_zero]
      repeat still_step
      still_call HF.out
      repeat still_step
      refine wpStill_nil ?_
      change wpList _ _ _ _ _ wq.drew
      go_upto_region 3 with fail
      have hox := (HOQ.out.stored (ot + 2) (.int .i64 vn)).1.drew
      have hgx : w.grownBy (wq.setCell ⟨HT, ot + 2, none⟩ (.int .i64 vn)).drew (some HT) := grown_drew (grown_near HGQ.out _ _)
      have hcx : (wq.setCell ⟨HT, ot + 2, none⟩ (.int .i64 vn)).drew.cell? ⟨H, vn * 8 + 2, none⟩ = some (.int .i64 a) := (World.cell?_setCell_other _ _ _ _ hne2).trans hcfq
      generalize (wq.setCell ⟨HT, ot + 2, none⟩ (.int .i64 vn)).drew = wx at hox hgx hcx ⊢
      have k1 := row_cell hox (j := ot + 1) (u := .string t.path) (by rw [List.getElem?_set_ne (by omega)]; exact g1)
      have k2 := row_cell hox (j := ot + 2) (u := .int .i64 vn) (by rw [List.getElem?_set_self (by simpa using hl2)])
      have k3 := row_cell hox (j := ot + 3) (u := .int .i64 0) (by rw [List.getElem?_set_ne (by omega)]; exact g3)
      have fk3 := hox.frozenAt (ot + 3)
      have xR := hgx.cell HRB.out (by simpa using hRT)
      have xU := hgx.cell HUB.out (by simpa using hUT)
      have xG := hgx.cell hGc (by simpa using hGT)
      obtain ⟨b1, b2, b3, fA, fl, fcc, hbR, hm1, hm2, hm3, hfs⟩ := (HRES.out.below (mask_below hgx (Nat.le_refl _) (Nat.lt_succ_self _))).unm
      have r3 := hbR.cell 3
      have lR := hbR.lt
      simp only [List.getElem?_toArray, List.getElem?_cons_zero, List.getElem?_cons_succ] at r3
      have hal : a < fl := by
        have := hfs.len
        rw [this, List.length_map]
        exact (List.getElem?_eq_some_iff.1 hsa).1
      have hflm : fl ≤ 9223372036854775807 := by have := hfs.le; omega
      obtain ⟨fb, foff, fm, fg, rfl, hfb, hfm, hfc, hfmap⟩ := map_at hfs hal
      have hfx : fm = fieldMap x := by rw [List.getElem?_map, hsa, Option.map_some, Option.some.injEq] at hfm; exact hfm.symm
      subst hfx
      have hget := col_get (fieldNames x) t.path
      have HFM := Lib.hid (hfmap.same (w' := wx.drew) rfl)
      have HOX := Lib.hid hox
      have HGX := Lib.hid hgx
      have h01 : (0 : Int) ≤ (vn : Int) := by omega
      have h02 : (vn : Int) < (fn : Int) := by omega
      have h03 : (0 : Int) ≤ (a : Int) := by omega
      have h04 : (a : Int) < (fl : Int) := by omega
      clear hfs hfm hfmap hbR hm1 hm2 hm3 hox hgx g0 g1 g2 g3 d0 d2 fd2 HF hcfq hVq hcf hne hne2 hGc hfa hfv hsa
      cases hix : idx (fieldNames x) t.path with
      | none =>
        rw [hix] at hget
        have HNM := Lib.hid (HP.out none (by rw [hix]; rfl))
        have HNO : Hid (RetTerm base T sz HT n cap cs ot (termP s vars froms t) w (.panicked nothingP) wx.drew) := Lib.hid (retTerm_no HNM.out (grown_drew HGX.out))
        have HF := Lib.hid ((find_no fg _ _ wx.drew HFM.out hget).mono (R' := fun e w' => e = .panicked nothingP ∧ w' = wx.drew) (fun _ _ h => ⟨h.1, h.2.symm⟩))
        clear hix hget
        refine wp_region_still_dies 22 [0, 1, 2, 3, 4, 5, 6, 7, 8, 9, 10, 11, 12, 13, 14, 15, 16, 17, 18, 19, 20, 21] (fun l => l.take 22) (by kernel_rfl) rfl (by kernel_rfl) (fun d u c a h => by cases d <;> exact h) ?_
        simp only [List.take_succ_cons, List.take_zero]
        repeat still_step
        refine wpStill_nil ?_
        refine ⟨_, 71, #[.map (some fg), .string t.path], nothingP, rfl, rfl, ?_, HF.out, rfl, HNO.out⟩
        go_simp
      | some g =>
        rw [hix] at hget
        have HYS := Lib.hid (HP.out (some { t with var := (vn : Int), field := (g : Int) }) (by rw [hix]; rfl))
        have HF := Lib.hid ((find_yes fg _ _ (g : Int) wx.drew HFM.out hget).mono (R' := fun e w' => e = .returned (.int .i64 g) ∧ w' = wx.drew) (fun _ _ h => ⟨h.1, h.2.symm⟩))
        clear hix hget
        refine wp_region_still_tail 25 (by kernel_rfl) (by kernel_rfl) ?_
        simp only [List.take_succ_cons, List.take_zero, List.drop_succ_cons, List.drop_zero]
        repeat still_step
        still_call HF.out
        repeat still_step
        refine wpStill_nil ?_
        change wpList _ _ _ _ _ wx.drew
        go_wp2_with fail
        go_end0
        refine retTerm_yes HYS.out (grown_near (grown_drew HGX.out) _ _) ?_
        have := (HOX.out.drew.stored (ot + 3) (.int .i64 g)).1
        have e : ((((cs.set (ot + 2) (.int .i64 (-1))).set (ot + 3) (.int .i64 0)).set (ot + 2) (.int .i64 vn)).set (ot + 3) (.int .i64 g)) = (cs.set (ot + 2) (.int .i64 vn)).set (ot + 3) (.int .i64 g) := by
          rw [List.set_comm _ _ (by omega : ot + 3 ≠ ot + 2), List.set_set, List.set_set]
        rw [e] at this
        exact this

end Go.Proofs.Ytkkkephjljiplaa
