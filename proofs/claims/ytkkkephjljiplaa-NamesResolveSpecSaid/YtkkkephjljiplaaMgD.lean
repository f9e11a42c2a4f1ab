/- The reference's scaled. Written by genref10.py. -/
import Derived.Test.YtkkkephjljiplaaMgC
import Derived.IntWalk
import Derived.Test.YtkkkephjljiplaaMgS
import Derived.Test.YtkkkephjljiplaaMgA
namespace Go.Proofs.Ytkkkephjljiplaa
open Go.RowKit
theorem rf_news {w : World} {g : Nat} {t : TypeId} {cs : List Value} (h : Blk w g t cs.toArray) (j : Nat) (u : Value) (hu : cs[j]? = some u) : w.cell? ((⟨g, 0, none⟩ : Addr).add j) = some u := by
  rw [show (⟨g, 0, none⟩ : Addr).add j = ⟨g, 0 + j, none⟩ from by unfold Addr.add; split <;> simp_all, Nat.zero_add, h.cell j, List.getElem?_toArray]
  exact hu
def RetScaled (s : QSource) (w : World) (e : Ending) (w' : World) : Prop :=
  ∃ A m c, e = .returned (.tuple #[.slice A m c, .bool (unitsP (unitNames s) s.units).isSome]) ∧ SlB 5 56 qUnitR (mask 0 w.heap.size w') (.slice A m c) (unitsQ s) ∧ Below w.heap.size w w'
theorem retScaled_no {s : QSource} {w w' : World} (h : unitsP (unitNames s) s.units = none) (hb : Below w.heap.size w w') : RetScaled s w (.returned (.tuple #[.slice none 0 0, .bool false])) w' := by
  refine ⟨none, 0, 0, by rw [h]; rfl, ?_, hb⟩
  unfold unitsQ
  rw [h]
  exact ⟨SlR.nil _ _ (Nat.zero_le _), by simp⟩
theorem retScaled_yes {s : QSource} {w w' : World} {out : List QUnit} {A : Option Addr} {m c : Nat} (h : unitsP (unitNames s) s.units = some out) (hs : SlB 5 56 qUnitR (mask 0 w.heap.size w') (.slice A m c) out) (hb : Below w.heap.size w w') : RetScaled s w (.returned (.tuple #[.slice A m c, .bool true])) w' := by
  refine ⟨A, m, c, by rw [h]; rfl, ?_, hb⟩
  unfold unitsQ
  rw [h]
  exact hs
set_option maxHeartbeats 4000000 in
set_option maxRecDepth 100000 in
theorem refScaled_any (A1 A2 A3 A4 A5 A6 : Option Addr) (n1 c1 n2 c2 n3 c3 n4 c4 n5 c5 n6 c6 : Nat) (s : QSource) (w : World) (hs : qSourceR w [.slice A1 n1 c1, .slice A2 n2 c2, .slice A3 n3 c3, .slice A4 n4 c4, .slice A5 n5 c5, .slice A6 n6 c6] s) :
    Calls Try.prog 40 #[.agg #[.slice A1 n1 c1, .slice A2 n2 c2, .slice A3 n3 c3, .slice A4 n4 c4, .slice A5 n5 c5, .slice A6 n6 c6]] w (RetScaled s w) := by
  have HS := Lib.hid hs
  have hu := (src_parts hs).2.1
  have HL2 := Lib.hid hu.1.len
  have HNB : Hid (n2 * 56 ≤ 140737488355328) := Lib.hid (by rw [hu.1.len]; exact hu.2)
  have hle := hu.1.le
  have HU := Lib.hid hu.1
  clear hs hu
  obtain ⟨j0, i0, z00, z01, z02⟩ := info_parts Try.infoUnit
  have I0 := Lib.hid i0
  have Z0 := Lib.hid (And.intro z00 (And.intro z01 z02))
  clear i0 z00 z01 z02
  go_enter Try.func40, Try.ntmps40
  go_upto_region 2 with fail
  have hb0 := below_two w (.cells #[.slice A1 n1 c1, .slice A2 n2 c2, .slice A3 n3 c3, .slice A4 n4 c4, .slice A5 n5 c5, .slice A6 n6 c6] 29) (.cells #[] 47)
  have hs0 : Blk ((w.alloc (.cells #[.slice A1 n1 c1, .slice A2 n2 c2, .slice A3 n3 c3, .slice A4 n4 c4, .slice A5 n5 c5, .slice A6 n6 c6] 29)).alloc (.cells #[] 47)) w.heap.size 29 #[.slice A1 n1 c1, .slice A2 n2 c2, .slice A3 n3 c3, .slice A4 n4 c4, .slice A5 n5 c5, .slice A6 n6 c6] := (Blk.new _ _ _).alloc _
  have ho0 : ((w.alloc (.cells #[.slice A1 n1 c1, .slice A2 n2 c2, .slice A3 n3 c3, .slice A4 n4 c4, .slice A5 n5 c5, .slice A6 n6 c6] 29)).alloc (.cells #[] 47)).ownsRow (w.heap.size + 1) 47 5 (.slice (some ⟨w.heap.size + 1, 0, none⟩) 0 0) 0 [] := own_of_blk (blk_new2 _ _ _ _) (Nat.le_refl _)
  generalize (w.alloc (.cells #[.slice A1 n1 c1, .slice A2 n2 c2, .slice A3 n3 c3, .slice A4 n4 c4, .slice A5 n5 c5, .slice A6 n6 c6] 29)).alloc (.cells #[] 47) = wb at hb0 hs0 ho0 ⊢
  have HB0 := Lib.hid hb0
  have HS0 := Lib.hid hs0
  have HO0 := Lib.hid ho0
  clear hb0 hs0 ho0
  go_wp2_with fail
  go_loopg [4, 5] n2 (fun q l i wr => ∃ (k : Nat) (vA : Option Addr) (vm vc : Nat) (co : List Value) (out : List QUnit), k ≤ n2 ∧ q = n2 - k ∧ unitsTo (unitNames s) s.units k = some out ∧ l = .slice vA vm vc ∧ i = .int .i64 (k : Int) ∧ Below w.heap.size w wr ∧ Blk wr w.heap.size 29 #[.slice A1 n1 c1, .slice A2 n2 c2, .slice A3 n3 c3, .slice A4 n4 c4, .slice A5 n5 c5, .slice A6 n6 c6] ∧ wr.ownsRow (w.heap.size + 1) 47 5 (.slice vA vm vc) k co ∧ CellsR 5 qUnitR w co out)
  case atStart => exact ⟨0, _, _, _, [], [], Nat.zero_le _, rfl, rfl, rfl, rfl, HB0.out, HS0.out, HO0.out, CellsR.nil⟩
  case round =>
    clear HB0 HS0 HO0
    obtain ⟨k, vA, vm, vc, co, out, hk, hq, hto, rfl, rfl, hbr, hsr, hor, hco⟩ := hrel
    have HQ := Lib.hid hq
    have HTO := Lib.hid hto
    have HCO := Lib.hid hco
    have HLEN := Lib.hid (unitsTo_len (by have := HL2.out; omega) hto)
    have HGLT : Hid (∀ g, vA = some ⟨g, 0, none⟩ → g < wr.heap.size) := Lib.hid (fun g e => (hor.lt g (by rw [e]; rfl)).2)
    obtain ⟨_, m', _, hform, hmk⟩ := own_form' hor
    obtain rfl : vm = k := by injection hform with _ h2; omega
    clear hq hto hco hform hmk
    have kc := hsr.cell 1
    simp only [List.getElem?_toArray, List.getElem?_cons_zero, List.getElem?_cons_succ] at kc
    have lk := hsr.lt
    by_cases hlt : vm < n2
    · obtain ⟨b, off, u, rfl, hbl, hm, e0, e1, e2, e3, e4⟩ := qUnit_at (HU.out.mono qUnitR_mono hbr) hlt
      have HM := Lib.hid hm
      clear hm
      have hkn : (vm : Int) < (n2 : Int) := by omega
      have hk0 : (0 : Int) ≤ (vm : Int) := by omega
      have HBR := Lib.hid hbr
      have HSR := Lib.hid hsr
      have HOR := Lib.hid hor
      clear hbr hsr hor
      obtain ⟨k, rfl⟩ : ∃ x, x = vm := ⟨_, rfl⟩
      go_upto_region 8 with fail
      obtain ⟨gu, hgu⟩ : ∃ g, g = wr.heap.size := ⟨_, rfl⟩
      have hal : Below wr.heap.size wr (wr.alloc (.cells #[.string u.name, .string u.of_, .int .i64 u.factor, .int .i64 (k), .int .i64 (1)] 47)) := below_one _ _
      have hxu : Blk (wr.alloc (.cells #[.string u.name, .string u.of_, .int .i64 u.factor, .int .i64 (k), .int .i64 (1)] 47)) wr.heap.size 47 #[.string u.name, .string u.of_, .int .i64 u.factor, .int .i64 (k), .int .i64 (1)] := Blk.new _ _ _
      have hol := HOR.out.alloc (.cells #[.string u.name, .string u.of_, .int .i64 u.factor, .int .i64 (k), .int .i64 (1)] 47)
      have hbw := below_step HBR.out hal
      have hsb := HSR.out.alloc (.cells #[.string u.name, .string u.of_, .int .i64 u.factor, .int .i64 (k), .int .i64 (1)] 47)
      rw [← hgu] at hxu ⊢
      generalize wr.alloc (.cells #[.string u.name, .string u.of_, .int .i64 u.factor, .int .i64 (k), .int .i64 (1)] 47) = wq at hal hxu hol hbw hsb ⊢
      have HGU : Hid (w.heap.size + 1 ≤ gu) := Lib.hid (by have := HSR.out.lt; omega)
      have HGL2 := Lib.hid HGLT.out
      rw [← hgu] at HGL2
      have HXU := Lib.hid hxu
      have HOL := Lib.hid hol
      have HBW := Lib.hid hbw
      have HSB := Lib.hid hsb
      clear hxu hol hbw hsb hal e0 e1 e2 e3 e4 kc lk HBR HSR HOR HGLT hgu
      have HGLT := Lib.hid HGL2.out
      clear HGL2
      have v1 := HXU.out.cell 1
      simp only [List.getElem?_toArray, List.getElem?_cons_zero, List.getElem?_cons_succ] at v1
      have lv := HXU.out.lt
      by_cases hof : u.of_ = noStr
      · have t1 : u.of_.toList.isEmpty = true := by rw [hof, noStr_list]; rfl
        have t2 : u.of_.toList = [] := by rw [hof, noStr_list]
        have HST : Hid (unitsTo (unitNames s) s.units (k + 1) = some (out ++ [{ u with base := (k : Int), scale := 1 }])) := Lib.hid (by rw [unitsTo_succ HTO.out HM.out, unitStep, if_pos hof, HLEN.out])
        clear hof v1
        have v0 := HXU.out.cell 0
        have v1 := HXU.out.cell 1
        have v2 := HXU.out.cell 2
        have v3 := HXU.out.cell 3
        have v4 := HXU.out.cell 4
        simp only [List.getElem?_toArray, List.getElem?_cons_zero, List.getElem?_cons_succ] at v0 v1 v2 v3 v4
        have lv := HXU.out.lt
        go_wp2_with (at_builtin; refine wpList_append_own_at _ rfl (.tmp 74) (.tmp 76) 23 rfl (w.heap.size + 1) 47 j0 _ 5 56 Try.underlying23 I0.out Z0.out.1 Z0.out.2.1 Z0.out.2.2 rfl (by decide) (.slice vA k vc) k _ rfl (HOL.out.alloc _) ⟨wq.heap.size, 0, none⟩ 1 1 [.string u.name, .string u.of_, .int .i64 u.factor, .int .i64 (k), .int .i64 (1)] rfl rfl (rf_news (Blk.new _ _ _)) (by intro x hx; simp only [List.mem_cons, List.not_mem_nil, or_false] at hx; rcases hx with rfl | rfl | rfl | rfl | rfl <;> rfl) (by have := HNB.out; unfold maxLen; omega) (by have := HNB.out; omega) (by have := HXU.out.lt; have := HGU.out; simp; omega) ?_; intro v' W9 hown' hgrow hnil hat
                     obtain ⟨vA', vm', vc', rfl⟩ := own_form hown'
                     have hlt1 : w.heap.size + 1 ≤ wq.heap.size := by have := HXU.out.lt; have := HGU.out; omega
                     have hb9 : Below w.heap.size w W9 := Below.grown (HBW.out.alloc HBW.out.size _) hgrow (by simp; omega) (fun r e => by have := (HOL.out.lt r e).1; omega)
                     have hs9 : Blk W9 w.heap.size 29 #[.slice A1 n1 c1, .slice (some ⟨b, off, none⟩) n2 c2, .slice A3 n3 c3, .slice A4 n4 c4, .slice A5 n5 c5, .slice A6 n6 c6] := Blk.grown (HSB.out.alloc _) hgrow (fun e => by have := (HOL.out.lt _ e.symm).1; omega)
                     have HB9 := Lib.hid hb9
                     have HS9 := Lib.hid hs9
                     have HO9 := Lib.hid hown'
                     clear hown' hgrow hnil hat hb9 hs9 hlt1)
        go_roundg (n2 - (k + 1))
        case measure => have := HQ.out; omega
        case rel => exact ⟨k + 1, vA', vm', vc', _, _, by omega, rfl, HST.out, rfl, by go_num, HB9.out, HS9.out, HO9.out, HCO.out.append (CellsR.one rfl rfl)⟩
      · have t1 : u.of_.toList.isEmpty = false := noStr_ne hof
        have t2 : ¬ u.of_.toList = [] := by intro e; rw [e] at t1; cases t1
        clear v1 lv
        have HNE := Lib.hid hof
        clear hof
        obtain ⟨k0, k1, k2, k3, k4, k5⟩ := six_cells HSB.out (Below.refl _ _)
        have lk := HSB.out.lt
        have v1 := HXU.out.cell 1
        simp only [List.getElem?_toArray, List.getElem?_cons_zero, List.getElem?_cons_succ] at v1
        have lv := HXU.out.lt
        have HSP := Lib.hid (src_parts (qSourceR_mono _ _ HBW.out.drew _ _ HS.out)).2.1
        go_upto_region 9 with fail
        have HKT : Hid (∀ X : World, Below wq.heap.size wq X → X.cell? ⟨w.heap.size, 0, none⟩ = some (.slice A1 n1 c1) ∧ X.cell? ⟨w.heap.size, 1, none⟩ = some (.slice (some ⟨b, off, none⟩) n2 c2) ∧ X.cell? ⟨w.heap.size, 2, none⟩ = some (.slice A3 n3 c3) ∧ X.cell? ⟨w.heap.size, 3, none⟩ = some (.slice A4 n4 c4) ∧ X.cell? ⟨w.heap.size, 4, none⟩ = some (.slice A5 n5 c5) ∧ X.cell? ⟨w.heap.size, 5, none⟩ = some (.slice A6 n6 c6) ∧ X.cell? ⟨gu, 1, none⟩ = some (.string u.of_)) := Lib.hid (fun X hX => ⟨(hX.cell (p := ⟨w.heap.size, 0, none⟩) lk).trans k0, (hX.cell (p := ⟨w.heap.size, 1, none⟩) lk).trans k1, (hX.cell (p := ⟨w.heap.size, 2, none⟩) lk).trans k2, (hX.cell (p := ⟨w.heap.size, 3, none⟩) lk).trans k3, (hX.cell (p := ⟨w.heap.size, 4, none⟩) lk).trans k4, (hX.cell (p := ⟨w.heap.size, 5, none⟩) lk).trans k5, (hX.cell (p := ⟨gu, 1, none⟩) lv).trans v1⟩)
        apply wp_viaS (G := fun w3 => Below wq.heap.size wq w3)
        · go_region_held3 (fun w' => w'.cell? ⟨w.heap.size, 0, none⟩ = some (.slice A1 n1 c1) ∧ w'.cell? ⟨w.heap.size, 1, none⟩ = some (.slice (some ⟨b, off, none⟩) n2 c2) ∧ w'.cell? ⟨w.heap.size, 2, none⟩ = some (.slice A3 n3 c3) ∧ w'.cell? ⟨w.heap.size, 3, none⟩ = some (.slice A4 n4 c4) ∧ w'.cell? ⟨w.heap.size, 4, none⟩ = some (.slice A5 n5 c5) ∧ w'.cell? ⟨w.heap.size, 5, none⟩ = some (.slice A6 n6 c6) ∧ w'.cell? ⟨gu, 1, none⟩ = some (.string u.of_))
            (first | exact HKT.out _ HBC.out | exact HKT.out _ (Below.refl _ _).drew | exact HKT.out _ (Below.refl _ _))
            (first
              | (go_at_call 81; ((with_reducible refine (refUnits_any A1 (some ⟨b, off, none⟩) A3 A4 A5 A6 n1 c1 n2 c2 n3 c3 n4 c4 n5 c5 n6 c6 s _ HSP.out).mono ?_)); rintro e wc ⟨xA, xc, rfl, hsl, hbc⟩
                 have hbz : Below wq.heap.size wq wc := Below.trans (Below.refl _ _).drew hbc
                 have HSL := Lib.hid hsl.1
                 have HBC := Lib.hid hbz
                 clear hsl hbc hbz)
              | (go_at_call 54; ((with_reducible refine (refFind_any _ _ _ (unitNames s) (u.of_) _ HSL.out).mono ?_)); rintro e w' ⟨rfl, rfl⟩))
          all_goals exact ⟨xA, xc, rfl, HBC.out⟩
        rintro xA xc w3 hb3
        clear HKT HSP k0 k1 k2 k3 k4 k5 lk v1 lv
        have hxu := HXU.out.below hb3 HXU.out.lt
        have hol := own_below0 HOL.out hb3
        have hbw := below_step HBW.out hb3
        have hsb := HSB.out.below hb3 HSB.out.lt
        clear HXU HOL HBW HSB hb3
        have HXU := Lib.hid hxu
        have HOL := Lib.hid hol
        have HBW := Lib.hid hbw
        have HSB := Lib.hid hsb
        clear hxu hol hbw hsb
        obtain ⟨wq, rfl⟩ : ∃ x, x = w3 := ⟨_, rfl⟩
        cases hix : idx (unitNames s) u.of_ with
        | none =>
          rw [idxO_none hix]
          have HE : Hid (unitsP (unitNames s) s.units = none) := Lib.hid (unitsP_none (k := k + 1) (by have := HL2.out; omega) (by rw [unitsTo_succ HTO.out HM.out, unitStep, if_neg HNE.out, hix]))
          clear hix
          go_wp2_with fail
          go_ret2
          exact retScaled_no HE.out HBW.out
        | some i =>
          rw [idxO_some hix]
          have HIX := Lib.hid hix
          clear hix
          by_cases hik : i < k
          · obtain ⟨bq, hb⟩ : ∃ b, out[i]? = some b := ⟨out[i]'(by have := HLEN.out; omega), List.getElem?_eq_getElem _⟩
            rcases own_row HOL.out with ⟨h, h0⟩ | ⟨g, hcap, h, hg1, hg2, hn9⟩
            · exfalso; omega
            injection h with e1 e2 e3
            subst e1 e3
            clear e2
            have hchm : chunk co 5 i = [.string bq.name, .string bq.of_, .int .i64 bq.factor, .int .i64 bq.base, .int .i64 bq.scale] := HCO.out.chunk hb
            have hsc := unitsTo_sc HTO.out bq (List.mem_of_getElem? hb)
            have HB := Lib.hid hb
            have HCH := Lib.hid hchm
            clear hb hchm
            have hi0 : (0 : Int) ≤ (i : Int) := by omega
            have hik2 : (i : Int) < (k : Int) := by omega
            have tk : decide (k ≤ i) = false := by simp; omega
            have tk2 : decide ((k : Int) ≤ (i : Int)) = false := by simp; omega
            have ti0 : decide ((i : Int) < 0) = false := by simp
            have d3 := own_cell HOL.out hik (by omega) HCH.out (j := 3) rfl
            have lg : g < wq.heap.size := own_lt HOL.out
            have v3 := HXU.out.cell 3
            have v4 := HXU.out.cell 4
            simp only [List.getElem?_toArray, List.getElem?_cons_zero, List.getElem?_cons_succ] at v3 v4
            have y3 := HXU.out.frozen 3
            have y4 := HXU.out.frozen 4
            have lv := HXU.out.lt
            have hne : gu ≠ g := by have := HGLT.out g rfl; omega
            have hne' : ¬ gu = g := hne
            have hne2 : ¬ g = gu := fun e => hne e.symm
            go_upto_region 14 with fail
            have hxu := (HXU.out.put 3 (.int .i64 bq.base)).put 4 (.int .i64 0)
            simp only [List.setIfInBounds_toArray, List.set_cons_zero, List.set_cons_succ] at hxu
            have hol := own_ne (own_ne HOL.out (p := ⟨gu, 3, none⟩) hne (.int .i64 bq.base)) (p := ⟨gu, 4, none⟩) hne (.int .i64 0)
            have hgw : wq.grownBy ((wq.setCell ⟨gu, 3, none⟩ (.int .i64 bq.base)).setCell ⟨gu, 4, none⟩ (.int .i64 0)) (some gu) := grown_near (grown_near (World.grownBy.refl _ _) _ _) _ _
            have hbw := below_grown HBW.out hgw (by have := HGU.out; omega)
            have hsb := blk_grown HSB.out hgw (by have := HGU.out; omega)
            generalize (wq.setCell ⟨gu, 3, none⟩ (.int .i64 bq.base)).setCell ⟨gu, 4, none⟩ (.int .i64 0) = wz at hxu hol hbw hsb ⊢
            clear HXU HOL HBW HSB hgw d3 lg v3 v4 y3 y4 lv tk tk2 ti0
            have HXU := Lib.hid hxu
            have HOL := Lib.hid hol
            have HBW := Lib.hid hbw
            have HSB := Lib.hid hsb
            clear hxu hol hbw hsb
            have c2 := HXU.out.cell 2
            have c4 := HXU.out.cell 4
            simp only [List.getElem?_toArray, List.getElem?_cons_zero, List.getElem?_cons_succ] at c2 c4
            have lc := HXU.out.lt
            have d4 := own_cell HOL.out hik (by omega) HCH.out (j := 4) rfl
            have HST : Hid (∀ z, scaleOf u bq = z → unitsTo (unitNames s) s.units (k + 1) = some (out ++ [{ u with base := bq.base, scale := z }])) := Lib.hid (fun z hz => by
              rw [unitsTo_succ HTO.out HM.out, unitStep, if_neg HNE.out, HIX.out]
              simp only [HB.out]
              rw [hz])
            by_cases h2 : ¬ 2 ≤ u.factor
            · have t2 : decide ((2 : Int) ≤ u.factor) = false := by simpa using h2
              have HZ : Hid (scaleOf u bq = 0) := Lib.hid (by unfold scaleOf; rw [if_neg (fun h => h2 h.1)])
              clear h2
              go_quiet (fail)
              have hb8 : Below wz.heap.size wz (wz.drewN nq) := below_drewN (Below.refl _ _) _
              have hxu := HXU.out.below hb8 HXU.out.lt
              have hol := own_below0 HOL.out hb8
              have hbw := below_step HBW.out hb8
              have hsb := HSB.out.below hb8 HSB.out.lt
              generalize wz.drewN nq = wy at hxu hol hbw hsb ⊢
              clear HXU HOL HBW HSB hb8 c2 c4 lc d4
              have HXU := Lib.hid hxu
              have HOL := Lib.hid hol
              have HBW := Lib.hid hbw
              have HSB := Lib.hid hsb
              clear hxu hol hbw hsb
              have v0 := HXU.out.cell 0
              have v1 := HXU.out.cell 1
              have v2 := HXU.out.cell 2
              have v3 := HXU.out.cell 3
              have v4 := HXU.out.cell 4
              simp only [List.getElem?_toArray, List.getElem?_cons_zero, List.getElem?_cons_succ] at v0 v1 v2 v3 v4
              have lv := HXU.out.lt
              go_wp2_with (at_builtin; refine wpList_append_own_at _ rfl (.tmp 74) (.tmp 76) 23 rfl (w.heap.size + 1) 47 j0 _ 5 56 Try.underlying23 I0.out Z0.out.1 Z0.out.2.1 Z0.out.2.2 rfl (by decide) (.slice (some ⟨g, 0, none⟩) k vc) k _ rfl (HOL.out.alloc _) ⟨wy.heap.size, 0, none⟩ 1 1 [.string u.name, .string u.of_, .int .i64 u.factor, .int .i64 (bq.base), .int .i64 (0)] rfl rfl (rf_news (Blk.new _ _ _)) (by intro x hx; simp only [List.mem_cons, List.not_mem_nil, or_false] at hx; rcases hx with rfl | rfl | rfl | rfl | rfl <;> rfl) (by have := HNB.out; unfold maxLen; omega) (by have := HNB.out; omega) (by have := HXU.out.lt; have := HGU.out; simp; omega) ?_; intro v' W9 hown' hgrow hnil hat
                           obtain ⟨vA', vm', vc', rfl⟩ := own_form hown'
                           have hlt1 : w.heap.size + 1 ≤ wy.heap.size := by have := HXU.out.lt; have := HGU.out; omega
                           have hb9 : Below w.heap.size w W9 := Below.grown (HBW.out.alloc HBW.out.size _) hgrow (by simp; omega) (fun r e => by have := (HOL.out.lt r e).1; omega)
                           have hs9 : Blk W9 w.heap.size 29 #[.slice A1 n1 c1, .slice (some ⟨b, off, none⟩) n2 c2, .slice A3 n3 c3, .slice A4 n4 c4, .slice A5 n5 c5, .slice A6 n6 c6] := Blk.grown (HSB.out.alloc _) hgrow (fun e => by have := (HOL.out.lt _ e.symm).1; omega)
                           have HB9 := Lib.hid hb9
                           have HS9 := Lib.hid hs9
                           have HO9 := Lib.hid hown'
                           clear hown' hgrow hnil hat hb9 hs9 hlt1)
              go_roundg (n2 - (k + 1))
              case measure => have := HQ.out; omega
              case rel => exact ⟨k + 1, vA', vm', vc', _, _, by omega, rfl, HST.out 0 HZ.out, rfl, by go_num, HB9.out, HS9.out, HO9.out, HCO.out.append (CellsR.one rfl rfl)⟩
            have h2' : 2 ≤ u.factor := Decidable.not_not.1 h2
            clear h2
            by_cases h3 : ¬ u.factor ≤ 1000
            · have t2 : decide (u.factor ≤ (1000 : Int)) = false := by simpa using h3
              have HZ : Hid (scaleOf u bq = 0) := Lib.hid (by unfold scaleOf; rw [if_neg (fun h => h3 h.2.1)])
              clear h3
              go_quiet (fail)
              have hb8 : Below wz.heap.size wz (wz.drewN nq) := below_drewN (Below.refl _ _) _
              have hxu := HXU.out.below hb8 HXU.out.lt
              have hol := own_below0 HOL.out hb8
              have hbw := below_step HBW.out hb8
              have hsb := HSB.out.below hb8 HSB.out.lt
              generalize wz.drewN nq = wy at hxu hol hbw hsb ⊢
              clear HXU HOL HBW HSB hb8 c2 c4 lc d4
              have HXU := Lib.hid hxu
              have HOL := Lib.hid hol
              have HBW := Lib.hid hbw
              have HSB := Lib.hid hsb
              clear hxu hol hbw hsb
              have v0 := HXU.out.cell 0
              have v1 := HXU.out.cell 1
              have v2 := HXU.out.cell 2
              have v3 := HXU.out.cell 3
              have v4 := HXU.out.cell 4
              simp only [List.getElem?_toArray, List.getElem?_cons_zero, List.getElem?_cons_succ] at v0 v1 v2 v3 v4
              have lv := HXU.out.lt
              go_wp2_with (at_builtin; refine wpList_append_own_at _ rfl (.tmp 74) (.tmp 76) 23 rfl (w.heap.size + 1) 47 j0 _ 5 56 Try.underlying23 I0.out Z0.out.1 Z0.out.2.1 Z0.out.2.2 rfl (by decide) (.slice (some ⟨g, 0, none⟩) k vc) k _ rfl (HOL.out.alloc _) ⟨wy.heap.size, 0, none⟩ 1 1 [.string u.name, .string u.of_, .int .i64 u.factor, .int .i64 (bq.base), .int .i64 (0)] rfl rfl (rf_news (Blk.new _ _ _)) (by intro x hx; simp only [List.mem_cons, List.not_mem_nil, or_false] at hx; rcases hx with rfl | rfl | rfl | rfl | rfl <;> rfl) (by have := HNB.out; unfold maxLen; omega) (by have := HNB.out; omega) (by have := HXU.out.lt; have := HGU.out; simp; omega) ?_; intro v' W9 hown' hgrow hnil hat
                           obtain ⟨vA', vm', vc', rfl⟩ := own_form hown'
                           have hlt1 : w.heap.size + 1 ≤ wy.heap.size := by have := HXU.out.lt; have := HGU.out; omega
                           have hb9 : Below w.heap.size w W9 := Below.grown (HBW.out.alloc HBW.out.size _) hgrow (by simp; omega) (fun r e => by have := (HOL.out.lt r e).1; omega)
                           have hs9 : Blk W9 w.heap.size 29 #[.slice A1 n1 c1, .slice (some ⟨b, off, none⟩) n2 c2, .slice A3 n3 c3, .slice A4 n4 c4, .slice A5 n5 c5, .slice A6 n6 c6] := Blk.grown (HSB.out.alloc _) hgrow (fun e => by have := (HOL.out.lt _ e.symm).1; omega)
                           have HB9 := Lib.hid hb9
                           have HS9 := Lib.hid hs9
                           have HO9 := Lib.hid hown'
                           clear hown' hgrow hnil hat hb9 hs9 hlt1)
              go_roundg (n2 - (k + 1))
              case measure => have := HQ.out; omega
              case rel => exact ⟨k + 1, vA', vm', vc', _, _, by omega, rfl, HST.out 0 HZ.out, rfl, by go_num, HB9.out, HS9.out, HO9.out, HCO.out.append (CellsR.one rfl rfl)⟩
            have h3' : u.factor ≤ 1000 := Decidable.not_not.1 h3
            clear h3
            obtain ⟨P, hP⟩ : ∃ P, u.factor * bq.scale = P := ⟨_, rfl⟩
            have hP0 : 0 ≤ P := by rw [← hP]; exact Int.mul_nonneg (by omega) hsc.1
            have hP1 : P ≤ 1099511627776000 := by
              rw [← hP]
              have := Int.mul_le_mul h3' hsc.2 hsc.1 (by omega)
              omega
            have hw : IntKind.i64.wrap (u.factor * bq.scale) = P := by rw [hP]; exact IntWalk.i64_in _ (by omega)
            have HP := Lib.hid hP
            clear hP
            by_cases h4 : P ≤ 1099511627776
            · have t2 : decide (P ≤ (1099511627776 : Int)) = true := by simpa using h4
              have HZ : Hid (scaleOf u bq = P) := Lib.hid (by unfold scaleOf; rw [if_pos ⟨h2', h3', by rw [HP.out]; exact h4⟩]; exact HP.out)
              go_quiet (fail)
              have hb8 : Below wz.heap.size wz (wz.drewN nq) := below_drewN (Below.refl _ _) _
              have hxu := HXU.out.below hb8 HXU.out.lt
              have hol := own_below0 HOL.out hb8
              have hbw := below_step HBW.out hb8
              have hsb := HSB.out.below hb8 HSB.out.lt
              generalize wz.drewN nq = wy at hxu hol hbw hsb ⊢
              clear HXU HOL HBW HSB hb8 c2 c4 lc d4
              have HXU := Lib.hid hxu
              have HOL := Lib.hid hol
              have HBW := Lib.hid hbw
              have HSB := Lib.hid hsb
              clear hxu hol hbw hsb
              have v2 := HXU.out.cell 2
              have v4 := HXU.out.cell 4
              simp only [List.getElem?_toArray, List.getElem?_cons_zero, List.getElem?_cons_succ] at v2 v4
              have y4 := HXU.out.frozen 4
              have lv := HXU.out.lt
              have d4 := own_cell HOL.out hik (by omega) HCH.out (j := 4) rfl
              go_upto_region 15 with fail
              go_still_tail 9, (by kernel_rfl)
              change wpList _ _ _ _ _ wy.drew
              have hb8 : Below wy.heap.size wy wy.drew := (Below.refl _ _).drew
              have hxu := (HXU.out.below hb8 HXU.out.lt).put 4 (.int .i64 P)
              simp only [List.setIfInBounds_toArray, List.set_cons_zero, List.set_cons_succ] at hxu
              have hol := own_ne (own_below0 HOL.out hb8) (p := ⟨gu, 4, none⟩) hne (.int .i64 P)
              have hgw : wy.drew.grownBy (wy.drew.setCell ⟨gu, 4, none⟩ (.int .i64 P)) (some gu) := grown_near (World.grownBy.refl _ _) _ _
              have hbw := below_grown (below_step HBW.out hb8) hgw (by have := HGU.out; omega)
              have hsb := blk_grown (HSB.out.below hb8 HSB.out.lt) hgw (by have := HGU.out; omega)
              go_upto_region 16 with fail
              have hsp : (wy.setCell ⟨gu, 4, none⟩ (.int .i64 P)).drew = wy.drew.setCell ⟨gu, 4, none⟩ (.int .i64 P) := rfl
              rw [hsp]
              generalize wy.drew.setCell ⟨gu, 4, none⟩ (.int .i64 P) = wx at hxu hol hbw hsb ⊢
              clear HXU HOL HBW HSB hb8 hgw hsp v2 v4 y4 lv d4
              have HXU := Lib.hid hxu
              have HOL := Lib.hid hol
              have HBW := Lib.hid hbw
              have HSB := Lib.hid hsb
              clear hxu hol hbw hsb
              have v0 := HXU.out.cell 0
              have v1 := HXU.out.cell 1
              have v2 := HXU.out.cell 2
              have v3 := HXU.out.cell 3
              have v4 := HXU.out.cell 4
              simp only [List.getElem?_toArray, List.getElem?_cons_zero, List.getElem?_cons_succ] at v0 v1 v2 v3 v4
              have lv := HXU.out.lt
              go_wp2_with (at_builtin; refine wpList_append_own_at _ rfl (.tmp 74) (.tmp 76) 23 rfl (w.heap.size + 1) 47 j0 _ 5 56 Try.underlying23 I0.out Z0.out.1 Z0.out.2.1 Z0.out.2.2 rfl (by decide) (.slice (some ⟨g, 0, none⟩) k vc) k _ rfl (HOL.out.alloc _) ⟨wx.heap.size, 0, none⟩ 1 1 [.string u.name, .string u.of_, .int .i64 u.factor, .int .i64 (bq.base), .int .i64 (P)] rfl rfl (rf_news (Blk.new _ _ _)) (by intro x hx; simp only [List.mem_cons, List.not_mem_nil, or_false] at hx; rcases hx with rfl | rfl | rfl | rfl | rfl <;> rfl) (by have := HNB.out; unfold maxLen; omega) (by have := HNB.out; omega) (by have := HXU.out.lt; have := HGU.out; simp; omega) ?_; intro v' W9 hown' hgrow hnil hat
                           obtain ⟨vA', vm', vc', rfl⟩ := own_form hown'
                           have hlt1 : w.heap.size + 1 ≤ wx.heap.size := by have := HXU.out.lt; have := HGU.out; omega
                           have hb9 : Below w.heap.size w W9 := Below.grown (HBW.out.alloc HBW.out.size _) hgrow (by simp; omega) (fun r e => by have := (HOL.out.lt r e).1; omega)
                           have hs9 : Blk W9 w.heap.size 29 #[.slice A1 n1 c1, .slice (some ⟨b, off, none⟩) n2 c2, .slice A3 n3 c3, .slice A4 n4 c4, .slice A5 n5 c5, .slice A6 n6 c6] := Blk.grown (HSB.out.alloc _) hgrow (fun e => by have := (HOL.out.lt _ e.symm).1; omega)
                           have HB9 := Lib.hid hb9
                           have HS9 := Lib.hid hs9
                           have HO9 := Lib.hid hown'
                           clear hown' hgrow hnil hat hb9 hs9 hlt1)
              go_roundg (n2 - (k + 1))
              case measure => have := HQ.out; omega
              case rel => exact ⟨k + 1, vA', vm', vc', _, _, by omega, rfl, HST.out P HZ.out, rfl, by go_num, HB9.out, HS9.out, HO9.out, HCO.out.append (CellsR.one rfl rfl)⟩
            · have t2 : decide (P ≤ (1099511627776 : Int)) = false := by simpa using h4
              have HZ : Hid (scaleOf u bq = 0) := Lib.hid (by unfold scaleOf; rw [if_neg (fun h => h4 (by rw [← HP.out]; exact h.2.2))])
              clear h4
              go_quiet (fail)
              have hb8 : Below wz.heap.size wz (wz.drewN nq) := below_drewN (Below.refl _ _) _
              have hxu := HXU.out.below hb8 HXU.out.lt
              have hol := own_below0 HOL.out hb8
              have hbw := below_step HBW.out hb8
              have hsb := HSB.out.below hb8 HSB.out.lt
              generalize wz.drewN nq = wy at hxu hol hbw hsb ⊢
              clear HXU HOL HBW HSB hb8 c2 c4 lc d4
              have HXU := Lib.hid hxu
              have HOL := Lib.hid hol
              have HBW := Lib.hid hbw
              have HSB := Lib.hid hsb
              clear hxu hol hbw hsb
              have v0 := HXU.out.cell 0
              have v1 := HXU.out.cell 1
              have v2 := HXU.out.cell 2
              have v3 := HXU.out.cell 3
              have v4 := HXU.out.cell 4
              simp only [List.getElem?_toArray, List.getElem?_cons_zero, List.getElem?_cons_succ] at v0 v1 v2 v3 v4
              have lv := HXU.out.lt
              go_wp2_with (at_builtin; refine wpList_append_own_at _ rfl (.tmp 74) (.tmp 76) 23 rfl (w.heap.size + 1) 47 j0 _ 5 56 Try.underlying23 I0.out Z0.out.1 Z0.out.2.1 Z0.out.2.2 rfl (by decide) (.slice (some ⟨g, 0, none⟩) k vc) k _ rfl (HOL.out.alloc _) ⟨wy.heap.size, 0, none⟩ 1 1 [.string u.name, .string u.of_, .int .i64 u.factor, .int .i64 (bq.base), .int .i64 (0)] rfl rfl (rf_news (Blk.new _ _ _)) (by intro x hx; simp only [List.mem_cons, List.not_mem_nil, or_false] at hx; rcases hx with rfl | rfl | rfl | rfl | rfl <;> rfl) (by have := HNB.out; unfold maxLen; omega) (by have := HNB.out; omega) (by have := HXU.out.lt; have := HGU.out; simp; omega) ?_; intro v' W9 hown' hgrow hnil hat
                           obtain ⟨vA', vm', vc', rfl⟩ := own_form hown'
                           have hlt1 : w.heap.size + 1 ≤ wy.heap.size := by have := HXU.out.lt; have := HGU.out; omega
                           have hb9 : Below w.heap.size w W9 := Below.grown (HBW.out.alloc HBW.out.size _) hgrow (by simp; omega) (fun r e => by have := (HOL.out.lt r e).1; omega)
                           have hs9 : Blk W9 w.heap.size 29 #[.slice A1 n1 c1, .slice (some ⟨b, off, none⟩) n2 c2, .slice A3 n3 c3, .slice A4 n4 c4, .slice A5 n5 c5, .slice A6 n6 c6] := Blk.grown (HSB.out.alloc _) hgrow (fun e => by have := (HOL.out.lt _ e.symm).1; omega)
                           have HB9 := Lib.hid hb9
                           have HS9 := Lib.hid hs9
                           have HO9 := Lib.hid hown'
                           clear hown' hgrow hnil hat hb9 hs9 hlt1)
              go_roundg (n2 - (k + 1))
              case measure => have := HQ.out; omega
              case rel => exact ⟨k + 1, vA', vm', vc', _, _, by omega, rfl, HST.out 0 HZ.out, rfl, by go_num, HB9.out, HS9.out, HO9.out, HCO.out.append (CellsR.one rfl rfl)⟩
          · have HE : Hid (unitsP (unitNames s) s.units = none) := Lib.hid (unitsP_none (k := k + 1) (by have := HL2.out; omega) (by
              rw [unitsTo_succ HTO.out HM.out, unitStep, if_neg HNE.out, HIX.out]
              simp only
              rw [List.getElem?_eq_none (by have := HLEN.out; omega)]))
            have tk : decide (k ≤ i) = true := by simp; omega
            have tk2 : decide ((k : Int) ≤ (i : Int)) = true := by simp; omega
            have ti0 : decide ((i : Int) < 0) = false := by simp
            go_wp2_with fail
            go_ret2
            exact retScaled_no HE.out HBW.out
    · have hke : vm = s.units.length := by have := HL2.out; omega
      have HE : Hid (unitsP (unitNames s) s.units = some out) := Lib.hid (by unfold unitsP; rw [← hke]; exact HTO.out)
      have hsl : SlB 5 56 qUnitR (mask 0 w.heap.size wr) (.slice vA vm vc) out := ⟨slR_of_row (mask_own hor (by omega)) ⟨HCO.out.1, HCO.out.2⟩ HLEN.out.symm, by have := HNB.out; have := HLEN.out; omega⟩
      have HSL := Lib.hid hsl
      have HBR := Lib.hid hbr
      clear hke hsl hbr hsr hor
      go_wp2_with fail
      go_ret2
      exact retScaled_yes HE.out HSL.out HBR.out
end Go.Proofs.Ytkkkephjljiplaa

namespace Go.Proofs.Ytkkkephjljiplaa
open Go.RowKit

/-- The source's variable, the result's, and x. -/
structure XZ (w0 : World) (gx : Nat) (ss xs zr : Array Value) (wr : World) : Prop where
  bl : Below w0.heap.size w0 wr
  s : Blk wr w0.heap.size 29 ss
  r : Blk wr (w0.heap.size + 1) 29 zr
  x : Blk wr gx 29 xs
section
variable {w0 wr wr' : World} {ss xs zr : Array Value} {gx : Nat}
theorem XZ.far (h : XZ w0 gx ss xs zr wr) {row : Option Nat} (hg : wr.grownBy wr' row) (hr : ∀ r, row = some r → w0.heap.size + 2 ≤ r ∧ r ≠ gx) : XZ w0 gx ss xs zr wr' :=
  ⟨h.bl.grown hg h.bl.size (fun r e => by have := (hr r e).1; omega), Blk.grown h.s hg (fun e => by have := (hr _ e.symm).1; omega), Blk.grown h.r hg (fun e => by have := (hr _ e.symm).1; omega), Blk.grown h.x hg (fun e => (hr _ e.symm).2 rfl)⟩
theorem XZ.below (h : XZ w0 gx ss xs zr wr) (hb : Below wr.heap.size wr wr') : XZ w0 gx ss xs zr wr' :=
  ⟨h.bl.trans (hb.mono h.bl.size), h.s.below hb h.s.lt, h.r.below hb h.r.lt, h.x.below hb h.x.lt⟩
theorem XZ.put (h : XZ w0 gx ss xs zr wr) (hgx : w0.heap.size + 2 ≤ gx) (o : Nat) (u : Value) : XZ w0 gx ss (xs.setIfInBounds o u) zr (wr.setCell ⟨gx, o, none⟩ u) :=
  ⟨below_grown h.bl (grown_near (World.grownBy.refl _ _) _ _) (by omega), h.s.far (by simp; omega) u, h.r.far (by simp; omega) u, h.x.put o u⟩
end

/-- A row of the call's own, read with the blocks of S hidden. -/
def RowS {α : Type} (S : List Nat) (b : Nat) (T : TypeId) (sz : Nat) (R : World → List Value → α → Prop) (v : Value) (l : List α) (w : World) : Prop :=
  ∃ cs, w.ownsRow b T sz v l.length cs ∧ (∀ r, v.ownBlock = some r → r ∈ S) ∧ CellsR sz R (hideL S w) cs l
section
variable {α : Type} {S S' : List Nat} {b : Nat} {T : TypeId} {sz : Nat} {R : World → List Value → α → Prop} {v v' : Value} {l : List α} {w w' : World}
theorem RowS.lit (h : Blk w b T #[]) (hb : b ∈ S) : RowS S b T sz R (.slice (some ⟨b, 0, none⟩) 0 0) [] w :=
  ⟨[], own_of_blk h (Nat.le_refl _), fun r e => by
    have e2 : some b = some r := e
    injection e2 with e2
    rw [← e2]
    exact hb, CellsR.nil⟩
theorem RowS.kept (h : RowS S b T sz R v l w) (hR : Mono R) {row : Option Nat} (hg : w.grownBy w' row) (hr : ∀ r, row = some r → r < w.heap.size → r ∈ S) (hne : ∀ r, row = some r → v.ownBlock ≠ some r) (hS : ∀ k, k < w.heap.size → (k ∈ S' ↔ k ∈ S)) : RowS S' b T sz R v l w' := by
  obtain ⟨cs, h1, h2, h3⟩ := h
  refine ⟨cs, ?_, fun r e => (hS r (h1.lt r e).2).2 (h2 r e), h3.mono hR (hideL_grown hg hr hS)⟩
  cases row with
  | none => exact own_below0 h1 ⟨hg.os, hg.tape, hg.output, hg.size, fun k hk => hg.block k hk (by simp)⟩
  | some r => exact h1.kept hg (.inr (hne r rfl))
theorem RowS.below (h : RowS S b T sz R v l w) (hR : Mono R) (hb : Below w.heap.size w w') : RowS S b T sz R v l w' :=
  h.kept hR (row := none) (grown_of_below hb none) (by simp) (by simp) (fun _ _ => Iff.rfl)
theorem RowS.form (h : RowS S b T sz R v l w) : ∃ A c, v = .slice A l.length c := by
  obtain ⟨cs, h1, _⟩ := h
  obtain ⟨A, m, c, rfl, rfl⟩ := own_form' h1
  exact ⟨A, c, rfl⟩
theorem RowS.sl (h : RowS S b T sz R v l w) (hR : Unm R) : SlR sz R w v l := by
  obtain ⟨cs, h1, h2, h3⟩ := h
  exact slR_of_row h1 (hideL_cells hR h3) rfl
/-- One element more. -/
theorem RowS.push {cs news : List Value} {y : α} {lo : Nat} (h2 : ∀ r, v.ownBlock = some r → r ∈ S) (hc : CellsR sz R (hideL S w) cs l) (hR : Mono R) (hlo : ∀ k ∈ S, lo ≤ k ∧ k < w.heap.size) (hlw : lo ≤ w.heap.size)
    (hown : w'.ownsRow b T sz v' (l.length + 1) (cs ++ news)) (hg : w.grownBy w' v.ownBlock) (hat : v'.ownBlock = v.ownBlock ∨ v'.ownBlock = some w.heap.size) (hx : R (hideL S w) news y) (hl : news.length = sz) :
    ∃ S', (∀ k, k < w.heap.size → (k ∈ S' ↔ k ∈ S)) ∧ (∀ k ∈ S', lo ≤ k ∧ k < w'.heap.size) ∧ RowS S' b T sz R v' (l ++ [y]) w' := by
  have hlen : (l ++ [y]).length = l.length + 1 := by simp
  rcases hat with hat | hat
  · refine ⟨S, fun _ _ => Iff.rfl, fun k hk => ⟨(hlo k hk).1, Nat.lt_of_lt_of_le (hlo k hk).2 hg.size⟩, cs ++ news, by rw [hlen]; exact hown, fun r e => h2 r (by rw [← hat]; exact e), ?_⟩
    have hb := hideL_grown (S := S) (S' := S) hg (fun r e _ => h2 r e) (fun _ _ => Iff.rfl)
    exact (hc.mono hR hb).append (CellsR.one hl (hR _ _ hb _ _ hx))
  · have hlt : w.heap.size < w'.heap.size := (hown.lt _ hat).2
    have hS : ∀ k, k < w.heap.size → (k ∈ w.heap.size :: S ↔ k ∈ S) := fun k hk => by
      rw [List.mem_cons]
      exact ⟨fun h => h.resolve_left (by omega), .inr⟩
    refine ⟨w.heap.size :: S, hS, fun k hk => ?_, cs ++ news, by rw [hlen]; exact hown, fun r e => by rw [hat] at e; injection e with e; simp [e], ?_⟩
    · rcases List.mem_cons.1 hk with rfl | hk
      · exact ⟨hlw, hlt⟩
      · exact ⟨(hlo k hk).1, Nat.lt_of_lt_of_le (hlo k hk).2 hg.size⟩
    have hb := hideL_grown (S := S) (S' := w.heap.size :: S) hg (fun r e _ => h2 r e) hS
    exact (hc.mono hR hb).append (CellsR.one hl (hR _ _ hb _ _ hx))
end

/-- What was read at wf with the blocks below M hidden is so read at wr. -/
def KU (M : Nat) (wf wr : World) : Prop := Below wf.heap.size (mask 0 M wf) (mask 0 M wr)
section
variable {M : Nat} {wf wr wr' : World}
theorem KU.refl (M : Nat) (w : World) : KU M w w := by
  have := Below.refl (mask 0 M w).heap.size (mask 0 M w)
  rwa [mask_size] at this
theorem KU.size (h : KU M wf wr) : wf.heap.size ≤ wr.heap.size := by
  have := Below.size h
  rwa [mask_size, mask_size] at this
theorem KU.grown (h : KU M wf wr) {row : Option Nat} (hg : wr.grownBy wr' row) (hr : ∀ r, row = some r → r < M ∨ wf.heap.size ≤ r) : KU M wf wr' := by
  have hs := h.size
  cases row with
  | none =>
    have hb : Below wr.heap.size wr wr' := ⟨hg.os, hg.tape, hg.output, hg.size, fun k hk => hg.block k hk (by simp)⟩
    have := mask_below0 (lo := 0) (M := M) hb
    rw [mask_size] at this
    exact Below.trans h (this.mono hs)
  | some r =>
    rcases hr r rfl with h1 | h1
    · have := mask_below (lo := 0) (M := M) hg (Nat.zero_le _) h1
      rw [mask_size] at this
      exact Below.trans h (this.mono hs)
    · refine Below.grown h (mask_grown hg) (by rw [mask_size]; exact hs) (fun k e => by injection e with e; omega)
theorem KU.below (h : KU M wf wr) (hb : Below wr.heap.size wr wr') : KU M wf wr' := h.grown (grown_of_below hb none) (by simp)
theorem KU.sl {α : Type} {sz b : Nat} {R : World → List Value → α → Prop} {v : Value} {l : List α} (hR : Mono R) (h : KU M wf wr) (hs : SlB sz b R (mask 0 M wf) v l) : SlB sz b R (mask 0 M wr) v l := hs.mono hR (by rw [mask_size]; exact h)
end
/-- A code that goes on in one form of frame: a slice and a block. -/
def Via4 (F : Option Addr → Nat → Nat → Nat → Act) (G : Option Addr → Nat → Nat → Nat → World → Prop) : Exit → Act → World → Prop
  | .normal, a', w' => ∃ a b c d, a' = F a b c d ∧ G a b c d w'
  | _, _, _ => False
theorem wp_via4 {P : Program} {c : Code} {Q : Exit → Act → World → Prop} {a : Act} {w : World} (F : Option Addr → Nat → Nat → Nat → Act) (G : Option Addr → Nat → Nat → Nat → World → Prop) (h1 : c.wp P (Via4 F G) a w) (h2 : ∀ a b c d w', G a b c d w' → Q .normal (F a b c d) w') : c.wp P Q a w :=
  Code.wp_mono (fun e a' w' h => by
    cases e with
    | normal => obtain ⟨a, b, c, d, rfl, hg⟩ := h; exact h2 a b c d w' hg
    | _ => exact h.elim) h1
/-- Three slices and a block. -/
def Via10 (F : Option Addr → Nat → Nat → Option Addr → Nat → Nat → Option Addr → Nat → Nat → Nat → Act) (G : Option Addr → Nat → Nat → Option Addr → Nat → Nat → Option Addr → Nat → Nat → Nat → World → Prop) : Exit → Act → World → Prop
  | .normal, a', w' => ∃ a b c d e f g h i j, a' = F a b c d e f g h i j ∧ G a b c d e f g h i j w'
  | _, _, _ => False
theorem wp_via10 {P : Program} {c : Code} {Q : Exit → Act → World → Prop} {a : Act} {w : World} (F : Option Addr → Nat → Nat → Option Addr → Nat → Nat → Option Addr → Nat → Nat → Nat → Act) (G : Option Addr → Nat → Nat → Option Addr → Nat → Nat → Option Addr → Nat → Nat → Nat → World → Prop) (h1 : c.wp P (Via10 F G) a w) (h2 : ∀ a b c d e f g h i j w', G a b c d e f g h i j w' → Q .normal (F a b c d e f g h i j) w') : c.wp P Q a w :=
  Code.wp_mono (fun e a' w' h => by
    cases e with
    | normal => obtain ⟨a, b, c, d, e, f, g, h, i, j, rfl, hg⟩ := h; exact h2 a b c d e f g h i j w' hg
    | _ => exact h.elim) h1
end Go.Proofs.Ytkkkephjljiplaa
