/- Contract of Bare. Written by genbare2.py. -/
import Derived.Test.YtkkkephjljiplaaNmBareQ
import Derived.Test.YtkkkephjljiplaaNmBareR
namespace Go.Proofs.Ytkkkephjljiplaa
open Go.RowKit

set_option maxHeartbeats 8000000 in
set_option maxRecDepth 100000 in
theorem bare_any (A1 : Option Addr) (n1 c1 : Nat) (A2 : Option Addr) (n2 c2 : Nat) (A3 : Option Addr) (n3 c3 : Nat) (A4 : Option Addr) (n4 c4 : Nat) (A5 : Option Addr) (n5 c5 : Nat) (A6 : Option Addr) (n6 c6 : Nat) (s : QSource) (w : World)
    (h1 : SlB 1 16 strR w (.slice A1 n1 c1) s.issuers) (h2 : SlB 5 56 qUnitR w (.slice A2 n2 c2) s.units) (h3 : SlB 6 96 qSchemaR w (.slice A3 n3 c3) s.schemas) (h4 : SlB 5 96 qRuleR w (.slice A4 n4 c4) s.rules) (h5 : SlB 5 72 qConvertR w (.slice A5 n5 c5) s.converts) (h6 : SlB 3 48 qPurposeR w (.slice A6 n6 c6) s.purposes) :
    Calls Try.prog 15 #[.agg #[.slice A1 n1 c1, .slice A2 n2 c2, .slice A3 n3 c3, .slice A4 n4 c4, .slice A5 n5 c5, .slice A6 n6 c6]] w (RetSource (bareP s) w) := by
  have HS1 := Lib.hid h1
  have HL1 := Lib.hid h1.1.len
  have HB1 := Lib.hid h1.2
  clear h1
  have HS2 := Lib.hid h2
  have HL2 := Lib.hid h2.1.len
  have HB2 := Lib.hid h2.2
  clear h2
  have HS3 := Lib.hid h3
  have HL3 := Lib.hid h3.1.len
  have HB3 := Lib.hid h3.2
  clear h3
  have HS4 := Lib.hid h4
  have HL4 := Lib.hid h4.1.len
  have HB4 := Lib.hid h4.2
  clear h4
  have HS5 := Lib.hid h5
  have HL5 := Lib.hid h5.1.len
  have HB5 := Lib.hid h5.2
  clear h5
  have HS6 := Lib.hid h6
  have HL6 := Lib.hid h6.1.len
  have HB6 := Lib.hid h6.2
  clear h6
  obtain ⟨j2, i2, z20, z21, z22⟩ := info_parts Try.infoUnit
  have I2 := Lib.hid i2
  have Z2 := Lib.hid (And.intro z20 (And.intro z21 z22))
  clear i2 z20 z21 z22
  obtain ⟨j3, i3, z30, z31, z32⟩ := info_parts Try.infoSchema
  have I3 := Lib.hid i3
  have Z3 := Lib.hid (And.intro z30 (And.intro z31 z32))
  clear i3 z30 z31 z32
  obtain ⟨j4, i4, z40, z41, z42⟩ := info_parts Try.infoRule
  have I4 := Lib.hid i4
  have Z4 := Lib.hid (And.intro z40 (And.intro z41 z42))
  clear i4 z40 z41 z42
  obtain ⟨j5, i5, z50, z51, z52⟩ := info_parts Try.infoConvert
  have I5 := Lib.hid i5
  have Z5 := Lib.hid (And.intro z50 (And.intro z51 z52))
  clear i5 z50 z51 z52
  obtain ⟨j6, i6, z60, z61, z62⟩ := info_parts Try.infoPurpose
  have I6 := Lib.hid i6
  have Z6 := Lib.hid (And.intro z60 (And.intro z61 z62))
  clear i6 z60 z61 z62
  obtain ⟨jfl, ifl, zfl0, zfl1, zfl2⟩ := info_parts Try.infoField
  have Ifl := Lib.hid ifl
  have Zfl := Lib.hid (And.intro zfl0 (And.intro zfl1 zfl2))
  clear ifl zfl0 zfl1 zfl2
  obtain ⟨jdp, idp, zdp0, zdp1, zdp2⟩ := info_parts Try.infoDep
  have Idp := Lib.hid idp
  have Zdp := Lib.hid (And.intro zdp0 (And.intro zdp1 zdp2))
  clear idp zdp0 zdp1 zdp2
  obtain ⟨jmv, imv, zmv0, zmv1, zmv2⟩ := info_parts Try.infoMove
  have Imv := Lib.hid imv
  have Zmv := Lib.hid (And.intro zmv0 (And.intro zmv1 zmv2))
  clear imv zmv0 zmv1 zmv2
  obtain ⟨jrf, irf, zrf0, zrf1, zrf2⟩ := info_parts Try.infoRef
  have Irf := Lib.hid irf
  have Zrf := Lib.hid (And.intro zrf0 (And.intro zrf1 zrf2))
  clear irf zrf0 zrf1 zrf2
  go_enter Try.func15, Try.ntmps15
  go_upto_region 2 with fail
  have hxb : XB w #[.slice A1 n1 c1, .slice A2 n2 c2, .slice A3 n3 c3, .slice A4 n4 c4, .slice A5 n5 c5, .slice A6 n6 c6] #[.slice none 0 0, .slice none 0 0, .slice none 0 0, .slice none 0 0, .slice none 0 0, .slice none 0 0] #[.slice A1 n1 c1, .slice A2 n2 c2, .slice A3 n3 c3, .slice A4 n4 c4, .slice A5 n5 c5, .slice A6 n6 c6] (((w.alloc (.cells #[.slice A1 n1 c1, .slice A2 n2 c2, .slice A3 n3 c3, .slice A4 n4 c4, .slice A5 n5 c5, .slice A6 n6 c6] 29)).alloc (.cells #[.slice none 0 0, .slice none 0 0, .slice none 0 0, .slice none 0 0, .slice none 0 0, .slice none 0 0] 29)).alloc (.cells #[.slice A1 n1 c1, .slice A2 n2 c2, .slice A3 n3 c3, .slice A4 n4 c4, .slice A5 n5 c5, .slice A6 n6 c6] 29)) :=
    ⟨(((Below.refl _ _).alloc (Nat.le_refl _) _).alloc (by simp) _).alloc (by simp; omega) _, ((Blk.new _ _ _).alloc _).alloc _, (by simpa using (Blk.new (w.alloc (.cells #[.slice A1 n1 c1, .slice A2 n2 c2, .slice A3 n3 c3, .slice A4 n4 c4, .slice A5 n5 c5, .slice A6 n6 c6] 29)) 29 #[.slice none 0 0, .slice none 0 0, .slice none 0 0, .slice none 0 0, .slice none 0 0, .slice none 0 0]).alloc _), (by simpa using Blk.new ((w.alloc (.cells #[.slice A1 n1 c1, .slice A2 n2 c2, .slice A3 n3 c3, .slice A4 n4 c4, .slice A5 n5 c5, .slice A6 n6 c6] 29)).alloc (.cells #[.slice none 0 0, .slice none 0 0, .slice none 0 0, .slice none 0 0, .slice none 0 0, .slice none 0 0] 29)) 29 #[.slice A1 n1 c1, .slice A2 n2 c2, .slice A3 n3 c3, .slice A4 n4 c4, .slice A5 n5 c5, .slice A6 n6 c6])⟩
  generalize ((w.alloc (.cells #[.slice A1 n1 c1, .slice A2 n2 c2, .slice A3 n3 c3, .slice A4 n4 c4, .slice A5 n5 c5, .slice A6 n6 c6] 29)).alloc (.cells #[.slice none 0 0, .slice none 0 0, .slice none 0 0, .slice none 0 0, .slice none 0 0, .slice none 0 0] 29)).alloc (.cells #[.slice A1 n1 c1, .slice A2 n2 c2, .slice A3 n3 c3, .slice A4 n4 c4, .slice A5 n5 c5, .slice A6 n6 c6] 29) = wa2 at hxb ⊢
  have q2 := hxb.s.cell 1
  simp only [List.getElem?_toArray, List.getElem?_cons_zero, List.getElem?_cons_succ] at q2
  have lx := hxb.x.lt
  have ls := hxb.s.lt
  have HXB := Lib.hid hxb
  clear hxb
  go_wp2_with (at_builtin; refine wpList_append_row _ rfl (.tmp 17) (.tmp 19) 23 47 rfl j2 _ 56 Try.underlying23 I2.out Z2.out.1 Z2.out.2.1 Z2.out.2.2 rfl (by decide) (R := fun _ => qUnitR w) (fun _ => qUnitR_one w) wa2.heap.size (.slice (some ⟨wa2.heap.size, 0, none⟩) 0 0) 0 [] rfl (World.ownsRow_lit wa2 #[] 0 (Nat.le_refl _) (Nat.zero_le _) rfl) A2 n2 c2 s.units rfl (HS2.out.1.fix (HXB.out.bl.alloc HXB.out.bl.size _)) (by have := HB2.out; have := HL2.out; unfold maxLen; omega) (by have := HB2.out; have := HL2.out; omega) (by simp) ?_
               intro v1 w1 cs2 hcs1 ho1 hgr1 hat1
               have hcs1 : CellsR 5 qUnitR w cs2 s.units := ⟨hcs1.1, hcs1.2⟩
               have hb1 : Below wa2.heap.size wa2 w1 := ((Below.refl _ _).alloc (Nat.le_refl _) _).grown hgr1 (by simp) (by simp [Value.ownBlock])
               obtain ⟨vA2, vn, vc2, rfl, hvn⟩ := own_form' ho1
               have hx1 := HXB.out.below hb1
               have q21 := hx1.x.cell 1
               have f21 := hx1.x.frozen 1
               simp only [List.getElem?_toArray, List.getElem?_cons_zero, List.getElem?_cons_succ] at q21
               have lx1 := hx1.x.lt
               have HX1 := Lib.hid hx1
               have HO1 := Lib.hid ho1
               have HC2 := Lib.hid hcs1
               have HBW1 := Lib.hid hb1
               have HVN := Lib.hid hvn
               clear hx1 ho1 hcs1 hb1 hgr1 hat1 hvn)
  obtain rfl : n2 = vn := by have := HVN.out; omega
  have hx2 : XB w #[.slice A1 n1 c1, .slice A2 n2 c2, .slice A3 n3 c3, .slice A4 n4 c4, .slice A5 n5 c5, .slice A6 n6 c6] #[.slice none 0 0, .slice none 0 0, .slice none 0 0, .slice none 0 0, .slice none 0 0, .slice none 0 0] #[.slice A1 n1 c1, .slice vA2 n2 vc2, .slice A3 n3 c3, .slice A4 n4 c4, .slice A5 n5 c5, .slice A6 n6 c6] (w1.setCell ⟨w.heap.size + 2, 1, none⟩ (.slice vA2 n2 vc2)) := HX1.out.put 1 _
  have ho2 : (w1.setCell ⟨w.heap.size + 2, 1, none⟩ (.slice vA2 n2 vc2)).ownsRow wa2.heap.size 47 5 (.slice vA2 n2 vc2) n2 cs2 := by
    have := HO1.out
    rw [Nat.zero_add, List.nil_append] at this
    exact own_far this (by simpa using lx) _
  have hkp : Kp w wa2 (w1.setCell ⟨w.heap.size + 2, 1, none⟩ (.slice vA2 n2 vc2)) := ((Kp.refl _ _).below HBW1.out).own (grown_near (World.grownBy.refl _ _) _ _) (by omega) (by omega)
  generalize w1.setCell ⟨w.heap.size + 2, 1, none⟩ (.slice vA2 n2 vc2) = w2 at hx2 ho2 hkp ⊢
  have HX2 := Lib.hid hx2
  have HO2 := Lib.hid ho2
  have HKP := Lib.hid hkp
  have hwa2 := HXB.out.lt
  clear hx2 ho2 hkp q2 lx ls q21 f21 lx1 HXB HX1 HO1 HBW1 HVN
  go_loopg [4] n2 (fun q j wr => ∃ (k : Nat) (cr : List Value), k ≤ n2 ∧ q = n2 - k ∧ j = .int .i64 k ∧ XB w #[.slice A1 n1 c1, .slice A2 n2 c2, .slice A3 n3 c3, .slice A4 n4 c4, .slice A5 n5 c5, .slice A6 n6 c6] #[.slice none 0 0, .slice none 0 0, .slice none 0 0, .slice none 0 0, .slice none 0 0, .slice none 0 0] #[.slice A1 n1 c1, .slice vA2 n2 vc2, .slice A3 n3 c3, .slice A4 n4 c4, .slice A5 n5 c5, .slice A6 n6 c6] wr ∧
      wr.ownsRow wa2.heap.size 47 5 (.slice vA2 n2 vc2) n2 cr ∧ CellsR 5 qUnitR w cr ((s.units.take k).map bareUnit ++ s.units.drop k) ∧ Kp w wa2 wr)
  case atStart => exact ⟨0, cs2, Nat.zero_le _, rfl, rfl, HX2.out, HO2.out, HC2.out, HKP.out⟩
  case round =>
    clear HX2 HO2 HKP
    obtain ⟨k, cr, hk, hq, rfl, hxb, hoh, hcr, hkp⟩ := hrel
    have HQ := Lib.hid hq
    clear hq
    have g2 := hxb.x.cell 1
    simp only [List.getElem?_toArray, List.getElem?_cons_zero, List.getElem?_cons_succ] at g2
    by_cases hlt : k < n2
    · rcases own_row hoh with ⟨h, h0⟩ | ⟨H, hcap, h, hH, hHw, hn2⟩
      · exfalso; injection h with _ h; omega
      injection h with h1 h2 h3
      subst h1 h3
      clear h2
      obtain ⟨m, hm⟩ : ∃ m, s.units[k]? = some m := ⟨s.units[k]'(by have := HL2.out; omega), List.getElem?_eq_getElem _⟩
      have hkn : (k : Int) < (n2 : Int) := by omega
      have hk0 : (0 : Int) ≤ (k : Int) := by omega
      have hne : ¬ w.heap.size + 2 = H := by omega
      have hne' : ¬ H = w.heap.size + 2 := by omega
      have HXB := Lib.hid hxb
      have HOH := Lib.hid hoh
      have HCR := Lib.hid hcr
      have HKP := Lib.hid hkp
      have HM := Lib.hid hm
      clear hxb hoh hcr hkp hm
      have hat := take_map_at (f := bareUnit) HM.out
      have hch : chunk cr 5 k = _ := HCR.out.chunk hat
      have e3 := own_cell HOH.out hlt (by omega) hch (j := 3) rfl
      have e4 := own_cell HOH.out hlt (by omega) hch (j := 4) rfl
      have f3 := HOH.out.frozenAt (k * 5 + 3)
      have f4 := HOH.out.frozenAt (k * 5 + 4)
      have HAT := Lib.hid hat
      clear hat hch
      go_wp2_with fail
      go_roundg (n2 - (k + 1))
      case measure => have := HQ.out; omega
      case rel =>
        have hg : wr.grownBy ((wr.setCell ⟨H, k * 5 + 3, none⟩ (.int .i64 0)).setCell ⟨H, k * 5 + 4, none⟩ (.int .i64 0)) (some H) := grown_near (grown_near (World.grownBy.refl _ _) _ _) _ _
        have hc := unit_put HCR.out HAT.out 0 0
        rw [show ({ m with base := 0, scale := 0 } : QUnit) = bareUnit m from rfl, take_map_snoc HM.out] at hc
        exact ⟨k + 1, _, by omega, rfl, by go_num, HXB.out.far hg (by omega), ((HOH.out.stored (k * 5 + 3) (.int .i64 0)).1.stored (k * 5 + 4) (.int .i64 0)).1, hc, HKP.out.far hg (by omega)⟩
    · have hke : k = s.units.length := by have := HL2.out; omega
      rw [take_map_all hke] at hcr
      have hcc : CellsR 5 qUnitR (mk3 w wr) cr (s.units.map bareUnit) := ⟨hcr.1, hcr.2⟩
      have hfi : SlB 5 56 qUnitR (mk3 w wr) (.slice vA2 n2 vc2) (s.units.map bareUnit) := ⟨slR_of_row (mask_own hoh (by omega)) hcc (by rw [List.length_map]; exact HL2.out), by rw [List.length_map]; exact HB2.out⟩
      have HF2 := Lib.hid hfi
      have q2 := hxb.s.cell 2
      simp only [List.getElem?_toArray, List.getElem?_cons_zero, List.getElem?_cons_succ] at q2
      have lx := hxb.x.lt
      have ls := hxb.s.lt
      have HXB := Lib.hid hxb
      clear hxb hoh hcr hkp hke hcc hfi HC2
      go_upto_region 8 with fail
      obtain ⟨wa3, rfl⟩ : ∃ x, x = wr := ⟨_, rfl⟩
      obtain ⟨kk2, rfl⟩ : ∃ x, x = k := ⟨_, rfl⟩
      clear g2 hk hlt HQ
      go_wp2_with (at_builtin; refine wpList_append_row _ rfl (.tmp 39) (.tmp 41) 24 40 rfl j3 _ 96 Try.underlying24 I3.out Z3.out.1 Z3.out.2.1 Z3.out.2.2 rfl (by decide) (R := fun _ => qSchemaR w) (fun _ => qSchemaR_one w) wa3.heap.size (.slice (some ⟨wa3.heap.size, 0, none⟩) 0 0) 0 [] rfl (World.ownsRow_lit wa3 #[] 0 (Nat.le_refl _) (Nat.zero_le _) rfl) A3 n3 c3 s.schemas rfl (HS3.out.1.fix (HXB.out.bl.alloc HXB.out.bl.size _)) (by have := HB3.out; have := HL3.out; unfold maxLen; omega) (by have := HB3.out; have := HL3.out; omega) (by simp) ?_
                   intro v1 w1 cs3 hcs1 ho1 hgr1 hat1
                   have hcs1 : CellsR 6 qSchemaR w cs3 s.schemas := ⟨hcs1.1, hcs1.2⟩
                   have hb1 : Below wa3.heap.size wa3 w1 := ((Below.refl _ _).alloc (Nat.le_refl _) _).grown hgr1 (by simp) (by simp [Value.ownBlock])
                   obtain ⟨vA3, vn, vc3, rfl, hvn⟩ := own_form' ho1
                   have hx1 := HXB.out.below hb1
                   have q21 := hx1.x.cell 2
                   have f21 := hx1.x.frozen 2
                   simp only [List.getElem?_toArray, List.getElem?_cons_zero, List.getElem?_cons_succ] at q21
                   have lx1 := hx1.x.lt
                   have HX1 := Lib.hid hx1
                   have HO1 := Lib.hid ho1
                   have HC3 := Lib.hid hcs1
                   have HBW1 := Lib.hid hb1
                   have HVN := Lib.hid hvn
                   clear hx1 ho1 hcs1 hb1 hgr1 hat1 hvn)
      obtain rfl : n3 = vn := by have := HVN.out; omega
      have hx2 : XB w #[.slice A1 n1 c1, .slice A2 n2 c2, .slice A3 n3 c3, .slice A4 n4 c4, .slice A5 n5 c5, .slice A6 n6 c6] #[.slice none 0 0, .slice none 0 0, .slice none 0 0, .slice none 0 0, .slice none 0 0, .slice none 0 0] #[.slice A1 n1 c1, .slice vA2 n2 vc2, .slice vA3 n3 vc3, .slice A4 n4 c4, .slice A5 n5 c5, .slice A6 n6 c6] (w1.setCell ⟨w.heap.size + 2, 2, none⟩ (.slice vA3 n3 vc3)) := HX1.out.put 2 _
      have ho2 : (w1.setCell ⟨w.heap.size + 2, 2, none⟩ (.slice vA3 n3 vc3)).ownsRow wa3.heap.size 40 6 (.slice vA3 n3 vc3) n3 cs3 := by
        have := HO1.out
        rw [Nat.zero_add, List.nil_append] at this
        exact own_far this (by simpa using lx) _
      have hkp : Kp w wa3 (w1.setCell ⟨w.heap.size + 2, 2, none⟩ (.slice vA3 n3 vc3)) := ((Kp.refl _ _).below HBW1.out).own (grown_near (World.grownBy.refl _ _) _ _) (by omega) (by omega)
      generalize w1.setCell ⟨w.heap.size + 2, 2, none⟩ (.slice vA3 n3 vc3) = w2 at hx2 ho2 hkp ⊢
      have HX2 := Lib.hid hx2
      have HO2 := Lib.hid ho2
      have HKP := Lib.hid hkp
      have hwa3 := HXB.out.lt
      clear hx2 ho2 hkp q2 lx ls q21 f21 lx1 HXB HX1 HO1 HBW1 HVN
      go_loopg [5] n3 (fun q j wr => ∃ (k : Nat) (cr : List Value), k ≤ n3 ∧ q = n3 - k ∧ j = .int .i64 k ∧ XB w #[.slice A1 n1 c1, .slice A2 n2 c2, .slice A3 n3 c3, .slice A4 n4 c4, .slice A5 n5 c5, .slice A6 n6 c6] #[.slice none 0 0, .slice none 0 0, .slice none 0 0, .slice none 0 0, .slice none 0 0, .slice none 0 0] #[.slice A1 n1 c1, .slice vA2 n2 vc2, .slice vA3 n3 vc3, .slice A4 n4 c4, .slice A5 n5 c5, .slice A6 n6 c6] wr ∧
          wr.ownsRow wa3.heap.size 40 6 (.slice vA3 n3 vc3) n3 cr ∧ BRow 6 qSchemaR bareSchema s.schemas cs3 cr k (hideV (.slice vA3 n3 vc3) (mk3 w wr)) ∧ Kp w wa3 wr)
      case atStart => exact ⟨0, cs3, Nat.zero_le _, rfl, rfl, HX2.out, HO2.out, BRow.start HC3.out _, HKP.out⟩
      case round =>
        clear HX2 HO2 HKP
        obtain ⟨k, cr, hk, hq, rfl, hxb, hoh, hcr, hkp⟩ := hrel
        have HQ := Lib.hid hq
        clear hq
        have g2 := hxb.x.cell 2
        simp only [List.getElem?_toArray, List.getElem?_cons_zero, List.getElem?_cons_succ] at g2
        by_cases hlt : k < n3
        · rcases own_row hoh with ⟨h, h0⟩ | ⟨H, hcap, h, hH, hHw, hn2⟩
          · exfalso; injection h with _ h; omega
          injection h with h1 h2 h3
          subst h1 h3
          clear h2
          obtain ⟨m, hm⟩ : ∃ m, s.schemas[k]? = some m := ⟨s.schemas[k]'(by have := HL3.out; omega), List.getElem?_eq_getElem _⟩
          have hkn : (k : Int) < (n3 : Int) := by omega
          have hk0 : (0 : Int) ≤ (k : Int) := by omega
          have hne : ¬ w.heap.size + 2 = H := by omega
          have hne' : ¬ H = w.heap.size + 2 := by omega
          have HXB := Lib.hid hxb
          have HOH := Lib.hid hoh
          have HCR := Lib.hid hcr
          have HKP := Lib.hid hkp
          have HM := Lib.hid hm
          clear hxb hoh hcr hkp hm
          obtain ⟨wo, rfl⟩ : ∃ x, x = wr := ⟨_, rfl⟩
          obtain ⟨ko, rfl⟩ : ∃ x, x = k := ⟨_, rfl⟩
          obtain ⟨co, rfl⟩ : ∃ x, x = cr := ⟨_, rfl⟩
          obtain ⟨B1, m1, d1, B2, m2, d2, hch, hs1, hs2⟩ := HCR.out.at_ HC3.out HM.out
          have hrg : wo.rangeAt H (ko * 6 + 0) [.string m.name, .string m.by_, .int .i64 m.issuer, .int .i64 m.version, .slice B1 m1 d1, .slice B2 m2 d2] := own_range HOH.out hlt hch (j := 0) (by simp) rfl
          have e0 := hrg 0 _ rfl
          have e1 := hrg 1 _ rfl
          have e2 := hrg 2 _ rfl
          have e3 := hrg 3 _ rfl
          have e4 := hrg 4 _ rfl
          have e5 := hrg 5 _ rfl
          simp only [Nat.add_zero] at e0 e1 e2 e3 e4 e5
          have HT1 := Lib.hid hs1
          have HT2 := Lib.hid hs2
          have HU1 := Lib.hid hs1.1.len
          have HU2 := Lib.hid hs2.1.len
          have HCH := Lib.hid hch
          have lH := own_lt HOH.out
          have lxr := HXB.out.x.lt
          clear hs1 hs2 hch hrg
          go_upto_region 14 with fail
          clear e0 e1 e2 e3 e4 e5
          have hyr := YR.new wo 40 #[.string m.name, .string m.by_, .int .i64 0, .int .i64 m.version, .slice B1 m1 d1, .slice B2 m2 d2]
          generalize wo.alloc (.cells #[.string m.name, .string m.by_, .int .i64 0, .int .i64 m.version, .slice B1 m1 d1, .slice B2 m2 d2] 40) = wy1 at hyr ⊢
          have qy := hyr.y.cell 4
          simp only [List.getElem?_toArray, List.getElem?_cons_zero, List.getElem?_cons_succ] at qy
          have ly := hyr.y.lt
          have HYR := Lib.hid hyr
          clear hyr
          go_wp2_with (at_builtin; refine wpList_append_row _ rfl (.tmp 57) (.tmp 59) 37 45 rfl jfl _ 120 Try.underlying37 Ifl.out Zfl.out.1 Zfl.out.2.1 Zfl.out.2.2 rfl (by decide) (R := fun _ => qFieldR w) (fun _ => qFieldR_one w) wy1.heap.size (.slice (some ⟨wy1.heap.size, 0, none⟩) 0 0) 0 [] rfl (World.ownsRow_lit wy1 #[] 0 (Nat.le_refl _) (Nat.zero_le _) rfl) B1 m1 d1 m.fields rfl (HT1.out.1.fix ((HXB.out.bl.trans (HYR.out.bl.mono HXB.out.bl.size)).alloc (Nat.le_trans HXB.out.bl.size HYR.out.bl.size) _)) (by have := HT1.out.2; have := HU1.out; unfold maxLen; omega) (by have := HT1.out.2; have := HU1.out; omega) (by simp) ?_
                       intro v1 w1 csf hcs1 ho1 hgr1 hat1
                       have hcs1 : CellsR 11 qFieldR w csf m.fields := ⟨hcs1.1, hcs1.2⟩
                       have hb1 : Below wy1.heap.size wy1 w1 := ((Below.refl _ _).alloc (Nat.le_refl _) _).grown hgr1 (by simp) (by simp [Value.ownBlock])
                       obtain ⟨fA, fn, fc, rfl, hfn⟩ := own_form' ho1
                       have hy1 := HYR.out.below hb1
                       have qy1 := hy1.y.cell 4
                       have fy1 := hy1.y.frozen 4
                       simp only [List.getElem?_toArray, List.getElem?_cons_zero, List.getElem?_cons_succ] at qy1
                       have ly1 := hy1.y.lt
                       have HY1 := Lib.hid hy1
                       have HO1 := Lib.hid ho1
                       have HCf := Lib.hid hcs1
                       have HBW1 := Lib.hid hb1
                       have HFN := Lib.hid hfn
                       clear hy1 ho1 hcs1 hb1 hgr1 hat1 hfn)
          obtain rfl : m1 = fn := by have := HFN.out; omega
          have hy2 : YR wo 40 #[.string m.name, .string m.by_, .int .i64 0, .int .i64 m.version, .slice fA m1 fc, .slice B2 m2 d2] (w1.setCell ⟨wo.heap.size, 4, none⟩ (.slice fA m1 fc)) := HY1.out.put 4 _
          have ho2 : (w1.setCell ⟨wo.heap.size, 4, none⟩ (.slice fA m1 fc)).ownsRow wy1.heap.size 45 11 (.slice fA m1 fc) m1 csf := by
            have := HO1.out
            rw [Nat.zero_add, List.nil_append] at this
            exact own_far this (by simpa using ly) _
          generalize w1.setCell ⟨wo.heap.size, 4, none⟩ (.slice fA m1 fc) = w2 at hy2 ho2 ⊢
          have HY2 := Lib.hid hy2
          have HO2 := Lib.hid ho2
          have hwwy1 := HYR.out.lt
          clear hy2 ho2 qy ly qy1 fy1 ly1 HYR HY1 HO1 HBW1 HFN
          go_loopg [7] m1 (fun q j wr => ∃ (k : Nat) (cr : List Value), k ≤ m1 ∧ q = m1 - k ∧ j = .int .i64 k ∧ YR wo 40 #[.string m.name, .string m.by_, .int .i64 0, .int .i64 m.version, .slice fA m1 fc, .slice B2 m2 d2] wr ∧ wr.ownsRow wy1.heap.size 45 11 (.slice fA m1 fc) m1 cr ∧ CellsR 11 qFieldR w cr ((m.fields.take k).map bareField ++ m.fields.drop k))
          case atStart => exact ⟨0, csf, Nat.zero_le _, rfl, rfl, HY2.out, HO2.out, HCf.out⟩
          case round =>
            clear HY2 HO2 HCf
            obtain ⟨k, cr, hk2, hq, rfl, hyr, hoi, hcr2⟩ := hrel
            have HQ2 := Lib.hid hq
            clear hq
            have g4 := hyr.y.cell 4
            simp only [List.getElem?_toArray, List.getElem?_cons_zero, List.getElem?_cons_succ] at g4
            by_cases hlt2 : k < m1
            · rcases own_row hoi with ⟨h, h0⟩ | ⟨I, hcap, h, hI, hIw, hn2⟩
              · exfalso; injection h with _ h; omega
              injection h with h1 h2 h3
              subst h1 h3
              clear h2
              obtain ⟨mm, hmm⟩ : ∃ x, m.fields[k]? = some x := ⟨m.fields[k]'(by have := HU1.out; omega), List.getElem?_eq_getElem _⟩
              have hat := take_map_at (f := bareField) hmm
              have hlc : cr.length = m1 * 11 := by rw [hcr2.1, take_map_len, HU1.out]
              have hrz : wr.there I (k * 11 + 0) 11 := own_there hoi hlc hlt2 (j := 0) (by simp)
              obtain ⟨hs0, fz0⟩ := hrz 5 (by omega)
              obtain ⟨vz0, ez0⟩ := Option.isSome_iff_exists.1 hs0
              clear hs0
              replace ez0 : wr.cell? ⟨I, k * 11 + 1 + 4, none⟩ = some vz0 := ez0
              replace fz0 : wr.frozen? ⟨I, k * 11 + 1 + 4, none⟩ = false := fz0
              have hin : (k : Int) < (m1 : Int) := by omega
              have hi0 : (0 : Int) ≤ (k : Int) := by omega
              have hyI : ¬ wo.heap.size = I := by omega
              have HYR := Lib.hid hyr
              have HOI := Lib.hid hoi
              have HCR2 := Lib.hid hcr2
              have HMM := Lib.hid hmm
              have HAT := Lib.hid hat
              clear hyr hoi hcr2 hmm hat hrz hlc
              go_wp2_with fail
              go_roundg (m1 - (k + 1))
              case measure => have := HQ2.out; omega
              case rel =>
                have hg : wr.grownBy (wr.setCell ⟨I, k * 11 + 5, none⟩ (.int .i64 0)) (some I) := grown_near (World.grownBy.refl _ _) _ _
                have hc := (field_put HCR2.out HAT.out 0).trans' (take_map_snoc HMM.out)
                exact ⟨k + 1, _, by omega, rfl, by go_num, HYR.out.far hg (by omega), (HOI.out.stored (k * 11 + 5) (.int .i64 0)).1, hc⟩
            · have hke2 : k = m.fields.length := by have := HU1.out; omega
              rw [take_map_all hke2] at hcr2
              have qy := hyr.y.cell 5
              simp only [List.getElem?_toArray, List.getElem?_cons_zero, List.getElem?_cons_succ] at qy
              have ly := hyr.y.lt
              have HYR := Lib.hid hyr
              have HRf := Lib.hid hoi
              have HCf := Lib.hid hcr2
              clear hyr hoi hcr2 hke2
              go_upto_region 19 with fail
              obtain ⟨wy2, rfl⟩ : ∃ x, x = wr := ⟨_, rfl⟩
              obtain ⟨kf, rfl⟩ : ∃ x, x = k := ⟨_, rfl⟩
              obtain ⟨cf, rfl⟩ : ∃ x, x = cr := ⟨_, rfl⟩
              clear g4 hk2 hlt2 HQ2
              go_wp2_with (at_builtin; refine wpList_append_row _ rfl (.tmp 75) (.tmp 77) 38 50 rfl jdp _ 72 Try.underlying38 Idp.out Zdp.out.1 Zdp.out.2.1 Zdp.out.2.2 rfl (by decide) (R := fun _ => qDepR w) (fun _ => qDepR_one w) wy2.heap.size (.slice (some ⟨wy2.heap.size, 0, none⟩) 0 0) 0 [] rfl (World.ownsRow_lit wy2 #[] 0 (Nat.le_refl _) (Nat.zero_le _) rfl) B2 m2 d2 m.deps rfl (HT2.out.1.fix ((HXB.out.bl.trans (HYR.out.bl.mono HXB.out.bl.size)).alloc (Nat.le_trans HXB.out.bl.size HYR.out.bl.size) _)) (by have := HT2.out.2; have := HU2.out; unfold maxLen; omega) (by have := HT2.out.2; have := HU2.out; omega) (by simp) ?_
                           intro v1 w1 csd hcs1 ho1 hgr1 hat1
                           have hcs1 : CellsR 4 qDepR w csd m.deps := ⟨hcs1.1, hcs1.2⟩
                           have hb1 : Below wy2.heap.size wy2 w1 := ((Below.refl _ _).alloc (Nat.le_refl _) _).grown hgr1 (by simp) (by simp [Value.ownBlock])
                           obtain ⟨dA, fn, dc, rfl, hfn⟩ := own_form' ho1
                           have hy1 := HYR.out.below hb1
                           have qy1 := hy1.y.cell 5
                           have fy1 := hy1.y.frozen 5
                           simp only [List.getElem?_toArray, List.getElem?_cons_zero, List.getElem?_cons_succ] at qy1
                           have ly1 := hy1.y.lt
                           have HY1 := Lib.hid hy1
                           have HO1 := Lib.hid ho1
                           have HCd := Lib.hid hcs1
                           have HBW1 := Lib.hid hb1
                           have HFN := Lib.hid hfn
                           clear hy1 ho1 hcs1 hb1 hgr1 hat1 hfn)
              obtain rfl : m2 = fn := by have := HFN.out; omega
              have hy2 : YR wo 40 #[.string m.name, .string m.by_, .int .i64 0, .int .i64 m.version, .slice fA m1 fc, .slice dA m2 dc] (w1.setCell ⟨wo.heap.size, 5, none⟩ (.slice dA m2 dc)) := HY1.out.put 5 _
              have ho2 : (w1.setCell ⟨wo.heap.size, 5, none⟩ (.slice dA m2 dc)).ownsRow wy2.heap.size 50 4 (.slice dA m2 dc) m2 csd := by
                have := HO1.out
                rw [Nat.zero_add, List.nil_append] at this
                exact own_far this (by simpa using ly) _
              have hrkf : (w1.setCell ⟨wo.heap.size, 5, none⟩ (.slice dA m2 dc)).ownsRow wy1.heap.size 45 11 (.slice fA m1 fc) m1 cf := own_far (own_below0 HRf.out HBW1.out) (by simp; omega) _
              have hapf : ∀ r, (Value.slice fA m1 fc).ownBlock = some r → r < wy2.heap.size := fun r e => (HRf.out.lt r e).2
              clear HRf
              generalize w1.setCell ⟨wo.heap.size, 5, none⟩ (.slice dA m2 dc) = w2 at hy2 ho2 hrkf ⊢
              have HY2 := Lib.hid hy2
              have HO2 := Lib.hid ho2
              have hwwy2 := HYR.out.lt
              have HRf := Lib.hid hrkf
              have HAPf := Lib.hid hapf
              clear hrkf hapf
              clear hy2 ho2 qy ly qy1 fy1 ly1 HYR HY1 HO1 HBW1 HFN
              go_loopg [8] m2 (fun q j wr => ∃ (k : Nat) (cr : List Value), k ≤ m2 ∧ q = m2 - k ∧ j = .int .i64 k ∧ YR wo 40 #[.string m.name, .string m.by_, .int .i64 0, .int .i64 m.version, .slice fA m1 fc, .slice dA m2 dc] wr ∧ wr.ownsRow wy2.heap.size 50 4 (.slice dA m2 dc) m2 cr ∧ CellsR 4 qDepR w cr ((m.deps.take k).map bareDep ++ m.deps.drop k) ∧ wr.ownsRow wy1.heap.size 45 11 (.slice fA m1 fc) m1 cf)
              case atStart => exact ⟨0, csd, Nat.zero_le _, rfl, rfl, HY2.out, HO2.out, HCd.out, HRf.out⟩
              case round =>
                clear HY2 HO2 HCd HRf
                obtain ⟨k, cr, hk2, hq, rfl, hyr, hoi, hcr2, hrkf⟩ := hrel
                have HQ2 := Lib.hid hq
                clear hq
                have g4 := hyr.y.cell 5
                simp only [List.getElem?_toArray, List.getElem?_cons_zero, List.getElem?_cons_succ] at g4
                have HRf := Lib.hid hrkf
                clear hrkf
                by_cases hlt2 : k < m2
                · rcases own_row hoi with ⟨h, h0⟩ | ⟨I, hcap, h, hI, hIw, hn2⟩
                  · exfalso; injection h with _ h; omega
                  injection h with h1 h2 h3
                  subst h1 h3
                  clear h2
                  obtain ⟨mm, hmm⟩ : ∃ x, m.deps[k]? = some x := ⟨m.deps[k]'(by have := HU2.out; omega), List.getElem?_eq_getElem _⟩
                  have hat := take_map_at (f := bareDep) hmm
                  have hlc : cr.length = m2 * 4 := by rw [hcr2.1, take_map_len, HU2.out]
                  have hrz : wr.there I (k * 4 + 0) 4 := own_there hoi hlc hlt2 (j := 0) (by simp)
                  obtain ⟨hs0, fz0⟩ := hrz 2 (by omega)
                  obtain ⟨vz0, ez0⟩ := Option.isSome_iff_exists.1 hs0
                  clear hs0
                  replace ez0 : wr.cell? ⟨I, k * 4 + 2, none⟩ = some vz0 := ez0
                  replace fz0 : wr.frozen? ⟨I, k * 4 + 2, none⟩ = false := fz0
                  obtain ⟨hs1, fz1⟩ := hrz 3 (by omega)
                  obtain ⟨vz1, ez1⟩ := Option.isSome_iff_exists.1 hs1
                  clear hs1
                  replace ez1 : wr.cell? ⟨I, k * 4 + 3, none⟩ = some vz1 := ez1
                  replace fz1 : wr.frozen? ⟨I, k * 4 + 3, none⟩ = false := fz1
                  have hin : (k : Int) < (m2 : Int) := by omega
                  have hi0 : (0 : Int) ≤ (k : Int) := by omega
                  have hyI : ¬ wo.heap.size = I := by omega
                  have HYR := Lib.hid hyr
                  have HOI := Lib.hid hoi
                  have HCR2 := Lib.hid hcr2
                  have HMM := Lib.hid hmm
                  have HAT := Lib.hid hat
                  clear hyr hoi hcr2 hmm hat hrz hlc
                  go_wp2_with fail
                  go_roundg (m2 - (k + 1))
                  case measure => have := HQ2.out; omega
                  case rel =>
                    have hg : wr.grownBy ((wr.setCell ⟨I, k * 4 + 2, none⟩ (.slice none 0 0)).setCell ⟨I, k * 4 + 3, none⟩ (.int .i64 0)) (some I) := grown_near (grown_near (World.grownBy.refl _ _) _ _) _ _
                    have hc := (dep_put23 HCR2.out HAT.out 0).trans' (take_map_snoc HMM.out)
                    exact ⟨k + 1, _, by omega, rfl, by go_num, HYR.out.far hg (by omega), ((HOI.out.stored (k * 4 + 2) (.slice none 0 0)).1.stored (k * 4 + 3) (.int .i64 0)).1, hc, HRf.out.kept hg (.inr (fun e => by have := HAPf.out _ e; omega))⟩
                · have hke2 : k = m.deps.length := by have := HU2.out; omega
                  rw [take_map_all hke2] at hcr2
                  have HYR := Lib.hid hyr
                  have HRd := Lib.hid hoi
                  have HCd := Lib.hid hcr2
                  have y0 := hyr.y.cell 0
                  have y1 := hyr.y.cell 1
                  have y2 := hyr.y.cell 2
                  have y3 := hyr.y.cell 3
                  have y4 := hyr.y.cell 4
                  have y5 := hyr.y.cell 5
                  simp only [List.getElem?_toArray, List.getElem?_cons_zero, List.getElem?_cons_succ] at y0 y1 y2 y3 y4 y5
                  have gx := ((hyr.bl.cell (p := ⟨w.heap.size + 2, 2, none⟩) lxr).trans g2)
                  have hrz : wr.there H (ko * 6 + 0) 6 := own_there (own_below0 HOH.out hyr.bl) (by rw [HCR.out.len, HL3.out]) hlt (j := 0) (by simp)
                  obtain ⟨hs0, fz0⟩ := hrz 0 (by omega)
                  obtain ⟨vz0, ez0⟩ := Option.isSome_iff_exists.1 hs0
                  clear hs0
                  obtain ⟨hs1, fz1⟩ := hrz 1 (by omega)
                  obtain ⟨vz1, ez1⟩ := Option.isSome_iff_exists.1 hs1
                  clear hs1
                  obtain ⟨hs2, fz2⟩ := hrz 2 (by omega)
                  obtain ⟨vz2, ez2⟩ := Option.isSome_iff_exists.1 hs2
                  clear hs2
                  obtain ⟨hs3, fz3⟩ := hrz 3 (by omega)
                  obtain ⟨vz3, ez3⟩ := Option.isSome_iff_exists.1 hs3
                  clear hs3
                  obtain ⟨hs4, fz4⟩ := hrz 4 (by omega)
                  obtain ⟨vz4, ez4⟩ := Option.isSome_iff_exists.1 hs4
                  clear hs4
                  obtain ⟨hs5, fz5⟩ := hrz 5 (by omega)
                  obtain ⟨vz5, ez5⟩ := Option.isSome_iff_exists.1 hs5
                  clear hs5
                  simp only [Nat.add_zero] at ez0 fz0 ez1 fz1 ez2 fz2 ez3 fz3 ez4 fz4 ez5 fz5
                  have gyH : ¬ wo.heap.size = H := by omega
                  clear hyr hoi hcr2 hke2 hrz g4
                  go_wp2_with fail
                  go_roundg (n3 - (ko + 1))
                  case measure => have := HQ.out; omega
                  case rel =>
                    have hgw : wo.grownBy (wr.setCells H (ko * 6) [.string m.name, .string m.by_, .int .i64 0, .int .i64 m.version, .slice fA m1 fc, .slice dA m2 dc]) (some H) := grown_setL _ _ _ (grown_of_below HYR.out.bl _)
                    have hgn : wr.grownBy (wr.setCells H (ko * 6) [.string m.name, .string m.by_, .int .i64 0, .int .i64 m.version, .slice fA m1 fc, .slice dA m2 dc]) (some H) := grown_setL _ _ _ (World.grownBy.refl _ _)
                    have hon := own_putL [.string m.name, .string m.by_, .int .i64 0, .int .i64 m.version, .slice fA m1 fc, .slice dA m2 dc] (ko * 6) _ wr (own_below0 HOH.out HYR.out.bl)
                    have hrf := HRf.out.kept hgn (.inr (fun e => by have := HRf.out.lt _ e; omega))
                    have hrd := HRd.out.kept hgn (.inr (fun e => by have := HRd.out.lt _ e; omega))
                    refine ⟨ko + 1, setL co (ko * 6) [.string m.name, .string m.by_, .int .i64 0, .int .i64 m.version, .slice fA m1 fc, .slice dA m2 dc], by omega, rfl, by go_num, HXB.out.far hgw (by omega), hon, ?_, HKP.out.far hgw (by omega)⟩
                    have hbm := HCR.out.mono qSchemaR_mono (hideV_below (v := .slice (some ⟨H, 0, none⟩) n3 vc3) (mask_grown hgw))
                    have hbl := (HXB.out.far hgw (by omega)).bl
                    clear hgw hgn hon
                    revert hrf hrd hbm hbl
                    show _ → _ → _ → _ → BRow 6 qSchemaR bareSchema s.schemas cs3 _ (ko + 1) (hideV (.slice (some ⟨H, 0, none⟩) n3 vc3) (mk3 w (wr.setCells H (ko * 6) [.string m.name, .string m.by_, .int .i64 0, .int .i64 m.version, .slice fA m1 fc, .slice dA m2 dc])))
                    generalize wr.setCells H (ko * 6) [.string m.name, .string m.by_, .int .i64 0, .int .i64 m.version, .slice fA m1 fc, .slice dA m2 dc] = W
                    intro hrf hrd hbm hbl
                    have hold : Below w.heap.size w (hideV (.slice (some ⟨H, 0, none⟩) n3 vc3) (mk3 w W)) := hideV_old (mask_old w hbl (Nat.le_refl _)) (fun x e => by simp [Value.ownBlock] at e; omega)
                    have t1 : SlB 11 120 qFieldR (hideV (.slice (some ⟨H, 0, none⟩) n3 vc3) (mk3 w W)) (.slice fA m1 fc) (m.fields.map bareField) := ⟨slR_of_row (hideV_own (mask_own hrf (by omega)) (fun x e => by simp [Value.ownBlock] at e; omega)) (HCf.out.mono qFieldR_mono hold) (by rw [List.length_map]; exact HU1.out), by rw [List.length_map]; exact HT1.out.2⟩
                    have t2 : SlB 4 72 qDepR (hideV (.slice (some ⟨H, 0, none⟩) n3 vc3) (mk3 w W)) (.slice dA m2 dc) (m.deps.map bareDep) := ⟨slR_of_row (hideV_own (mask_own hrd (by omega)) (fun x e => by simp [Value.ownBlock] at e; omega)) (HCd.out.mono qDepR_mono hold) (by rw [List.length_map]; exact HU2.out), by rw [List.length_map]; exact HT2.out.2⟩
                    refine hbm.step HM.out (setL_len _ _ _) (fun i hi => chunk_setL_other (j := 0) hi _ _ (by simp)) ?_
                    rw [show chunk (setL co (ko * 6) [.string m.name, .string m.by_, .int .i64 0, .int .i64 m.version, .slice fA m1 fc, .slice dA m2 dc]) 6 ko = _ from chunk_setL (i := ko) (sz := 6) [.string m.name, .string m.by_, .int .i64 0, .int .i64 m.version, .slice fA m1 fc, .slice dA m2 dc] co 0 (by simp), HCH.out]
                    exact ⟨_, _, _, _, _, _, rfl, t1, t2⟩
        · have hke : k = s.schemas.length := by have := HL3.out; omega
          have hcc : CellsR 6 qSchemaR (mk3 w wr) cr (s.schemas.map bareSchema) := hideV_unm qSchemaR_unm (hcr.all hke)
          have hfi : SlB 6 96 qSchemaR (mk3 w wr) (.slice vA3 n3 vc3) (s.schemas.map bareSchema) := ⟨slR_of_row (mask_own hoh (by omega)) hcc (by rw [List.length_map]; exact HL3.out), by rw [List.length_map]; exact HB3.out⟩
          have HF3 := Lib.hid hfi
          have hf2 := hkp.sl qUnitR_mono HF2.out
          clear HF2
          have HF2 := Lib.hid hf2
          clear hf2
          have q2 := hxb.s.cell 3
          simp only [List.getElem?_toArray, List.getElem?_cons_zero, List.getElem?_cons_succ] at q2
          have lx := hxb.x.lt
          have ls := hxb.s.lt
          have HXB := Lib.hid hxb
          clear hxb hoh hcr hkp hke hcc hfi HC3
          go_upto_region 26 with fail
          obtain ⟨wa4, rfl⟩ : ∃ x, x = wr := ⟨_, rfl⟩
          obtain ⟨kk3, rfl⟩ : ∃ x, x = k := ⟨_, rfl⟩
          clear g2 hk hlt HQ
          go_wp2_with (at_builtin; refine wpList_append_row _ rfl (.tmp 102) (.tmp 104) 25 56 rfl j4 _ 96 Try.underlying25 I4.out Z4.out.1 Z4.out.2.1 Z4.out.2.2 rfl (by decide) (R := fun _ => qRuleR w) (fun _ => qRuleR_one w) wa4.heap.size (.slice (some ⟨wa4.heap.size, 0, none⟩) 0 0) 0 [] rfl (World.ownsRow_lit wa4 #[] 0 (Nat.le_refl _) (Nat.zero_le _) rfl) A4 n4 c4 s.rules rfl (HS4.out.1.fix (HXB.out.bl.alloc HXB.out.bl.size _)) (by have := HB4.out; have := HL4.out; unfold maxLen; omega) (by have := HB4.out; have := HL4.out; omega) (by simp) ?_
                       intro v1 w1 cs4 hcs1 ho1 hgr1 hat1
                       have hcs1 : CellsR 5 qRuleR w cs4 s.rules := ⟨hcs1.1, hcs1.2⟩
                       have hb1 : Below wa4.heap.size wa4 w1 := ((Below.refl _ _).alloc (Nat.le_refl _) _).grown hgr1 (by simp) (by simp [Value.ownBlock])
                       obtain ⟨vA4, vn, vc4, rfl, hvn⟩ := own_form' ho1
                       have hx1 := HXB.out.below hb1
                       have q21 := hx1.x.cell 3
                       have f21 := hx1.x.frozen 3
                       simp only [List.getElem?_toArray, List.getElem?_cons_zero, List.getElem?_cons_succ] at q21
                       have lx1 := hx1.x.lt
                       have HX1 := Lib.hid hx1
                       have HO1 := Lib.hid ho1
                       have HC4 := Lib.hid hcs1
                       have HBW1 := Lib.hid hb1
                       have HVN := Lib.hid hvn
                       clear hx1 ho1 hcs1 hb1 hgr1 hat1 hvn)
          obtain rfl : n4 = vn := by have := HVN.out; omega
          have hx2 : XB w #[.slice A1 n1 c1, .slice A2 n2 c2, .slice A3 n3 c3, .slice A4 n4 c4, .slice A5 n5 c5, .slice A6 n6 c6] #[.slice none 0 0, .slice none 0 0, .slice none 0 0, .slice none 0 0, .slice none 0 0, .slice none 0 0] #[.slice A1 n1 c1, .slice vA2 n2 vc2, .slice vA3 n3 vc3, .slice vA4 n4 vc4, .slice A5 n5 c5, .slice A6 n6 c6] (w1.setCell ⟨w.heap.size + 2, 3, none⟩ (.slice vA4 n4 vc4)) := HX1.out.put 3 _
          have ho2 : (w1.setCell ⟨w.heap.size + 2, 3, none⟩ (.slice vA4 n4 vc4)).ownsRow wa4.heap.size 56 5 (.slice vA4 n4 vc4) n4 cs4 := by
            have := HO1.out
            rw [Nat.zero_add, List.nil_append] at this
            exact own_far this (by simpa using lx) _
          have hkp : Kp w wa4 (w1.setCell ⟨w.heap.size + 2, 3, none⟩ (.slice vA4 n4 vc4)) := ((Kp.refl _ _).below HBW1.out).own (grown_near (World.grownBy.refl _ _) _ _) (by omega) (by omega)
          generalize w1.setCell ⟨w.heap.size + 2, 3, none⟩ (.slice vA4 n4 vc4) = w2 at hx2 ho2 hkp ⊢
          have HX2 := Lib.hid hx2
          have HO2 := Lib.hid ho2
          have HKP := Lib.hid hkp
          have hwa4 := HXB.out.lt
          clear hx2 ho2 hkp q2 lx ls q21 f21 lx1 HXB HX1 HO1 HBW1 HVN
          go_loopg [9] n4 (fun q j wr => ∃ (k : Nat) (cr : List Value), k ≤ n4 ∧ q = n4 - k ∧ j = .int .i64 k ∧ XB w #[.slice A1 n1 c1, .slice A2 n2 c2, .slice A3 n3 c3, .slice A4 n4 c4, .slice A5 n5 c5, .slice A6 n6 c6] #[.slice none 0 0, .slice none 0 0, .slice none 0 0, .slice none 0 0, .slice none 0 0, .slice none 0 0] #[.slice A1 n1 c1, .slice vA2 n2 vc2, .slice vA3 n3 vc3, .slice vA4 n4 vc4, .slice A5 n5 c5, .slice A6 n6 c6] wr ∧
              wr.ownsRow wa4.heap.size 56 5 (.slice vA4 n4 vc4) n4 cr ∧ BRow 5 qRuleR bareRule s.rules cs4 cr k (hideV (.slice vA4 n4 vc4) (mk3 w wr)) ∧ Kp w wa4 wr)
          case atStart => exact ⟨0, cs4, Nat.zero_le _, rfl, rfl, HX2.out, HO2.out, BRow.start HC4.out _, HKP.out⟩
          case round =>
            clear HX2 HO2 HKP
            obtain ⟨k, cr, hk, hq, rfl, hxb, hoh, hcr, hkp⟩ := hrel
            have HQ := Lib.hid hq
            clear hq
            have g2 := hxb.x.cell 3
            simp only [List.getElem?_toArray, List.getElem?_cons_zero, List.getElem?_cons_succ] at g2
            by_cases hlt : k < n4
            · rcases own_row hoh with ⟨h, h0⟩ | ⟨H, hcap, h, hH, hHw, hn2⟩
              · exfalso; injection h with _ h; omega
              injection h with h1 h2 h3
              subst h1 h3
              clear h2
              obtain ⟨m, hm⟩ : ∃ m, s.rules[k]? = some m := ⟨s.rules[k]'(by have := HL4.out; omega), List.getElem?_eq_getElem _⟩
              have hkn : (k : Int) < (n4 : Int) := by omega
              have hk0 : (0 : Int) ≤ (k : Int) := by omega
              have hne : ¬ w.heap.size + 2 = H := by omega
              have hne' : ¬ H = w.heap.size + 2 := by omega
              have HXB := Lib.hid hxb
              have HOH := Lib.hid hoh
              have HCR := Lib.hid hcr
              have HKP := Lib.hid hkp
              have HM := Lib.hid hm
              clear hxb hoh hcr hkp hm
              obtain ⟨B1, m1, d1, B2, m2, d2, B3, m3, d3, hch, hs1, hs2, hs3⟩ := HCR.out.at_ HC4.out HM.out
              have hrg : wr.drew.rangeAt H (k * 5 + 0) [.string m.head, .int .i64 m.schema, .slice B1 m1 d1, .slice B2 m2 d2, .slice B3 m3 d3] := own_range HOH.out.drew hlt hch (j := 0) (by simp) rfl
              have e0 := hrg 0 _ rfl
              have e1 := hrg 1 _ rfl
              have e2 := hrg 2 _ rfl
              have e3 := hrg 3 _ rfl
              have e4 := hrg 4 _ rfl
              simp only [World.cell?_drew, Nat.add_zero] at e0 e1 e2 e3 e4
              have hbw := HXB.out.bl.drew
              have HS1' := Lib.hid (hs1.mono qFromR_mono hbw)
              have HS2' := Lib.hid (hs2.mono qAtomR_mono hbw)
              have HS3' := Lib.hid (hs3.mono qSetR_mono hbw)
              have HCH := Lib.hid hch
              clear hs1 hs2 hs3 hbw hch hrg
              have lH := own_lt HOH.out
              have lxr := HXB.out.x.lt
              go_upto_region 30 with fail
              apply wp_via9 (G := fun D1 l1 k1 D2 l2 k2 D3 l3 k3 w3 => ∃ w1, Below wr.heap.size wr w1 ∧ qRuleR (mask 0 wr.heap.size w1) [.string m.head, .int .i64 0, .slice D1 l1 k1, .slice D2 l2 k2, .slice D3 l3 k3] (bareRule m) ∧ w3 = w1.setCells H (k * 5) [.string m.head, .int .i64 0, .slice D1 l1 k1, .slice D2 l2 k2, .slice D3 l3 k3])
              · go_region_law (first
                  | (refine step_call_any (by rfl) 50 #[.agg #[.string m.head, .int .i64 m.schema, .slice B1 m1 d1, .slice B2 m2 d2, .slice B3 m3 d3]] (by go_simp) (bareRule_any B1 m1 d1 B2 m2 d2 B3 m3 d3 m _ HS1'.out HS2'.out HS3'.out) ?_
                     rintro e w1 ⟨cs', rfl, ⟨D1, l1, k1, D2, l2, k2, D3, l3, k3, hcs', t1, t2, t3⟩, hb1⟩
                     have hcs2 : cs' = [.string m.head, .int .i64 0, .slice D1 l1 k1, .slice D2 l2 k2, .slice D3 l3 k3] := hcs'
                     clear hcs'
                     subst hcs2
                     refine ⟨_, rfl, ?_⟩
                     have gw := (hb1.cell (p := ⟨w.heap.size + 2, 3, none⟩) lxr).trans g2
                     have r0 := (hb1.cell (p := ⟨H, k * 5, none⟩) lH).trans e0
                     have r1 := (hb1.cell (p := ⟨H, k * 5 + 1, none⟩) lH).trans e1
                     have r2 := (hb1.cell (p := ⟨H, k * 5 + 2, none⟩) lH).trans e2
                     have r3 := (hb1.cell (p := ⟨H, k * 5 + 3, none⟩) lH).trans e3
                     have r4 := (hb1.cell (p := ⟨H, k * 5 + 4, none⟩) lH).trans e4
                     have f0 := (own_below0 HOH.out.drew hb1).frozenAt (k * 5)
                     have f1 := (own_below0 HOH.out.drew hb1).frozenAt (k * 5 + 1)
                     have f2 := (own_below0 HOH.out.drew hb1).frozenAt (k * 5 + 2)
                     have f3 := (own_below0 HOH.out.drew hb1).frozenAt (k * 5 + 3)
                     have f4 := (own_below0 HOH.out.drew hb1).frozenAt (k * 5 + 4)
                     have HBC := Lib.hid hb1
                     have HT1 := Lib.hid t1
                     have HT2 := Lib.hid t2
                     have HT3 := Lib.hid t3
                     clear hb1 t1 t2 t3))
                all_goals exact ⟨D1, l1, k1, D2, l2, k2, D3, l3, k3, rfl, w1, Below.trans (Below.refl _ _).drew HBC.out, ⟨D1, l1, k1, D2, l2, k2, D3, l3, k3, rfl, HT1.out, HT2.out, HT3.out⟩, rfl⟩
              rintro D1 l1 k1 D2 l2 k2 D3 l3 k3 w3 ⟨w1, hb1, hr1, rfl⟩
              have hgn : w1.grownBy (w1.setCells H (k * 5) [.string m.head, .int .i64 0, .slice D1 l1 k1, .slice D2 l2 k2, .slice D3 l3 k3]) (some H) := grown_setL _ _ _ (World.grownBy.refl _ _)
              have hgw : wr.grownBy (w1.setCells H (k * 5) [.string m.head, .int .i64 0, .slice D1 l1 k1, .slice D2 l2 k2, .slice D3 l3 k3]) (some H) := grown_setL _ _ _ (grown_of_below hb1 _)
              have hon := own_putL [.string m.head, .int .i64 0, .slice D1 l1 k1, .slice D2 l2 k2, .slice D3 l3 k3] (k * 5) _ w1 (own_below0 HOH.out hb1)
              have hr2 : qRuleR (mask 0 wr.heap.size (w1.setCells H (k * 5) [.string m.head, .int .i64 0, .slice D1 l1 k1, .slice D2 l2 k2, .slice D3 l3 k3])) [.string m.head, .int .i64 0, .slice D1 l1 k1, .slice D2 l2 k2, .slice D3 l3 k3] (bareRule m) := qRuleR_mono _ _ (mask_below hgn (Nat.zero_le _) lH) _ _ hr1
              generalize w1.setCells H (k * 5) [.string m.head, .int .i64 0, .slice D1 l1 k1, .slice D2 l2 k2, .slice D3 l3 k3] = w4 at hgn hgw hon hr2 ⊢
              have HXN := Lib.hid (HXB.out.far hgw (by omega))
              have HKN := Lib.hid (HKP.out.far hgw (by omega))
              have hbm : BRow 5 qRuleR bareRule s.rules cs4 cr k (hideV (.slice (some ⟨H, 0, none⟩) n4 vc4) (mk3 w w4)) := HCR.out.mono qRuleR_mono (hideV_below (mask_grown hgw))
              have hcn := hbm.step (cr' := setL cr (k * 5) [.string m.head, .int .i64 0, .slice D1 l1 k1, .slice D2 l2 k2, .slice D3 l3 k3]) HM.out (setL_len _ _ _) (fun i hi => chunk_setL_other (j := 0) hi _ _ (by simp)) (by
                rw [show chunk (setL cr (k * 5) [.string m.head, .int .i64 0, .slice D1 l1 k1, .slice D2 l2 k2, .slice D3 l3 k3]) 5 k = _ from chunk_setL (i := k) (sz := 5) [.string m.head, .int .i64 0, .slice D1 l1 k1, .slice D2 l2 k2, .slice D3 l3 k3] cr 0 (by simp), HCH.out]
                exact new_hide qRuleR_unm (n := wr.heap.size) (by have := HXB.out.lt; omega) lH hr2)
              have HON := Lib.hid hon
              have HCN := Lib.hid hcn
              clear hgn hgw hon hr2 hr1 hb1 hbm hcn e0 e1 e2 e3 e4 g2 lH lxr HOH HXB HCR HKP HCH HS1' HS2' HS3' hne hne'
              go_wp2_with fail
              go_roundg (n4 - (k + 1))
              case measure => have := HQ.out; omega
              case rel => exact ⟨k + 1, _, by omega, rfl, by go_num, HXN.out, HON.out, HCN.out, HKN.out⟩
            · have hke : k = s.rules.length := by have := HL4.out; omega
              have hcc : CellsR 5 qRuleR (mk3 w wr) cr (s.rules.map bareRule) := hideV_unm qRuleR_unm (hcr.all hke)
              have hfi : SlB 5 96 qRuleR (mk3 w wr) (.slice vA4 n4 vc4) (s.rules.map bareRule) := ⟨slR_of_row (mask_own hoh (by omega)) hcc (by rw [List.length_map]; exact HL4.out), by rw [List.length_map]; exact HB4.out⟩
              have HF4 := Lib.hid hfi
              have hf2 := hkp.sl qUnitR_mono HF2.out
              clear HF2
              have HF2 := Lib.hid hf2
              clear hf2
              have hf3 := hkp.sl qSchemaR_mono HF3.out
              clear HF3
              have HF3 := Lib.hid hf3
              clear hf3
              have q2 := hxb.s.cell 4
              simp only [List.getElem?_toArray, List.getElem?_cons_zero, List.getElem?_cons_succ] at q2
              have lx := hxb.x.lt
              have ls := hxb.s.lt
              have HXB := Lib.hid hxb
              clear hxb hoh hcr hkp hke hcc hfi HC4
              go_upto_region 31 with fail
              obtain ⟨wa5, rfl⟩ : ∃ x, x = wr := ⟨_, rfl⟩
              obtain ⟨kk4, rfl⟩ : ∃ x, x = k := ⟨_, rfl⟩
              clear g2 hk hlt HQ
              go_wp2_with (at_builtin; refine wpList_append_row _ rfl (.tmp 124) (.tmp 126) 26 69 rfl j5 _ 72 Try.underlying26 I5.out Z5.out.1 Z5.out.2.1 Z5.out.2.2 rfl (by decide) (R := fun _ => qConvertR w) (fun _ => qConvertR_one w) wa5.heap.size (.slice (some ⟨wa5.heap.size, 0, none⟩) 0 0) 0 [] rfl (World.ownsRow_lit wa5 #[] 0 (Nat.le_refl _) (Nat.zero_le _) rfl) A5 n5 c5 s.converts rfl (HS5.out.1.fix (HXB.out.bl.alloc HXB.out.bl.size _)) (by have := HB5.out; have := HL5.out; unfold maxLen; omega) (by have := HB5.out; have := HL5.out; omega) (by simp) ?_
                           intro v1 w1 cs5 hcs1 ho1 hgr1 hat1
                           have hcs1 : CellsR 5 qConvertR w cs5 s.converts := ⟨hcs1.1, hcs1.2⟩
                           have hb1 : Below wa5.heap.size wa5 w1 := ((Below.refl _ _).alloc (Nat.le_refl _) _).grown hgr1 (by simp) (by simp [Value.ownBlock])
                           obtain ⟨vA5, vn, vc5, rfl, hvn⟩ := own_form' ho1
                           have hx1 := HXB.out.below hb1
                           have q21 := hx1.x.cell 4
                           have f21 := hx1.x.frozen 4
                           simp only [List.getElem?_toArray, List.getElem?_cons_zero, List.getElem?_cons_succ] at q21
                           have lx1 := hx1.x.lt
                           have HX1 := Lib.hid hx1
                           have HO1 := Lib.hid ho1
                           have HC5 := Lib.hid hcs1
                           have HBW1 := Lib.hid hb1
                           have HVN := Lib.hid hvn
                           clear hx1 ho1 hcs1 hb1 hgr1 hat1 hvn)
              obtain rfl : n5 = vn := by have := HVN.out; omega
              have hx2 : XB w #[.slice A1 n1 c1, .slice A2 n2 c2, .slice A3 n3 c3, .slice A4 n4 c4, .slice A5 n5 c5, .slice A6 n6 c6] #[.slice none 0 0, .slice none 0 0, .slice none 0 0, .slice none 0 0, .slice none 0 0, .slice none 0 0] #[.slice A1 n1 c1, .slice vA2 n2 vc2, .slice vA3 n3 vc3, .slice vA4 n4 vc4, .slice vA5 n5 vc5, .slice A6 n6 c6] (w1.setCell ⟨w.heap.size + 2, 4, none⟩ (.slice vA5 n5 vc5)) := HX1.out.put 4 _
              have ho2 : (w1.setCell ⟨w.heap.size + 2, 4, none⟩ (.slice vA5 n5 vc5)).ownsRow wa5.heap.size 69 5 (.slice vA5 n5 vc5) n5 cs5 := by
                have := HO1.out
                rw [Nat.zero_add, List.nil_append] at this
                exact own_far this (by simpa using lx) _
              have hkp : Kp w wa5 (w1.setCell ⟨w.heap.size + 2, 4, none⟩ (.slice vA5 n5 vc5)) := ((Kp.refl _ _).below HBW1.out).own (grown_near (World.grownBy.refl _ _) _ _) (by omega) (by omega)
              generalize w1.setCell ⟨w.heap.size + 2, 4, none⟩ (.slice vA5 n5 vc5) = w2 at hx2 ho2 hkp ⊢
              have HX2 := Lib.hid hx2
              have HO2 := Lib.hid ho2
              have HKP := Lib.hid hkp
              have hwa5 := HXB.out.lt
              clear hx2 ho2 hkp q2 lx ls q21 f21 lx1 HXB HX1 HO1 HBW1 HVN
              go_loopg [10] n5 (fun q j wr => ∃ (k : Nat) (cr : List Value), k ≤ n5 ∧ q = n5 - k ∧ j = .int .i64 k ∧ XB w #[.slice A1 n1 c1, .slice A2 n2 c2, .slice A3 n3 c3, .slice A4 n4 c4, .slice A5 n5 c5, .slice A6 n6 c6] #[.slice none 0 0, .slice none 0 0, .slice none 0 0, .slice none 0 0, .slice none 0 0, .slice none 0 0] #[.slice A1 n1 c1, .slice vA2 n2 vc2, .slice vA3 n3 vc3, .slice vA4 n4 vc4, .slice vA5 n5 vc5, .slice A6 n6 c6] wr ∧
                  wr.ownsRow wa5.heap.size 69 5 (.slice vA5 n5 vc5) n5 cr ∧ BRow 5 qConvertR bareConvert s.converts cs5 cr k (hideV (.slice vA5 n5 vc5) (mk3 w wr)) ∧ Kp w wa5 wr)
              case atStart => exact ⟨0, cs5, Nat.zero_le _, rfl, rfl, HX2.out, HO2.out, BRow.start HC5.out _, HKP.out⟩
              case round =>
                clear HX2 HO2 HKP
                obtain ⟨k, cr, hk, hq, rfl, hxb, hoh, hcr, hkp⟩ := hrel
                have HQ := Lib.hid hq
                clear hq
                have g2 := hxb.x.cell 4
                simp only [List.getElem?_toArray, List.getElem?_cons_zero, List.getElem?_cons_succ] at g2
                by_cases hlt : k < n5
                · rcases own_row hoh with ⟨h, h0⟩ | ⟨H, hcap, h, hH, hHw, hn2⟩
                  · exfalso; injection h with _ h; omega
                  injection h with h1 h2 h3
                  subst h1 h3
                  clear h2
                  obtain ⟨m, hm⟩ : ∃ m, s.converts[k]? = some m := ⟨s.converts[k]'(by have := HL5.out; omega), List.getElem?_eq_getElem _⟩
                  have hkn : (k : Int) < (n5 : Int) := by omega
                  have hk0 : (0 : Int) ≤ (k : Int) := by omega
                  have hne : ¬ w.heap.size + 2 = H := by omega
                  have hne' : ¬ H = w.heap.size + 2 := by omega
                  have HXB := Lib.hid hxb
                  have HOH := Lib.hid hoh
                  have HCR := Lib.hid hcr
                  have HKP := Lib.hid hkp
                  have HM := Lib.hid hm
                  clear hxb hoh hcr hkp hm
                  obtain ⟨wo, rfl⟩ : ∃ x, x = wr := ⟨_, rfl⟩
                  obtain ⟨ko, rfl⟩ : ∃ x, x = k := ⟨_, rfl⟩
                  obtain ⟨co, rfl⟩ : ∃ x, x = cr := ⟨_, rfl⟩
                  obtain ⟨B1, m1, d1, hch, hs1⟩ := HCR.out.at_ HC5.out HM.out
                  have hrg : wo.rangeAt H (ko * 5 + 0) [.string m.from_, .string m.to_, .int .i64 m.a, .int .i64 m.b, .slice B1 m1 d1] := own_range HOH.out hlt hch (j := 0) (by simp) rfl
                  have e0 := hrg 0 _ rfl
                  have e1 := hrg 1 _ rfl
                  have e2 := hrg 2 _ rfl
                  have e3 := hrg 3 _ rfl
                  have e4 := hrg 4 _ rfl
                  simp only [Nat.add_zero] at e0 e1 e2 e3 e4
                  have HT1 := Lib.hid hs1
                  have HU1 := Lib.hid hs1.1.len
                  have HCH := Lib.hid hch
                  have lH := own_lt HOH.out
                  have lxr := HXB.out.x.lt
                  clear hs1 hch hrg
                  go_upto_region 38 with fail
                  clear e0 e1 e2 e3 e4
                  have hyr := YR.new wo 69 #[.string m.from_, .string m.to_, .int .i64 0, .int .i64 0, .slice B1 m1 d1]
                  generalize wo.alloc (.cells #[.string m.from_, .string m.to_, .int .i64 0, .int .i64 0, .slice B1 m1 d1] 69) = wy1 at hyr ⊢
                  have qy := hyr.y.cell 4
                  simp only [List.getElem?_toArray, List.getElem?_cons_zero, List.getElem?_cons_succ] at qy
                  have ly := hyr.y.lt
                  have HYR := Lib.hid hyr
                  clear hyr
                  go_wp2_with (at_builtin; refine wpList_append_row _ rfl (.tmp 143) (.tmp 145) 67 71 rfl jmv _ 56 Try.underlying67 Imv.out Zmv.out.1 Zmv.out.2.1 Zmv.out.2.2 rfl (by decide) (R := fun _ => qMoveR w) (fun _ => qMoveR_one w) wy1.heap.size (.slice (some ⟨wy1.heap.size, 0, none⟩) 0 0) 0 [] rfl (World.ownsRow_lit wy1 #[] 0 (Nat.le_refl _) (Nat.zero_le _) rfl) B1 m1 d1 m.moves rfl (HT1.out.1.fix ((HXB.out.bl.trans (HYR.out.bl.mono HXB.out.bl.size)).alloc (Nat.le_trans HXB.out.bl.size HYR.out.bl.size) _)) (by have := HT1.out.2; have := HU1.out; unfold maxLen; omega) (by have := HT1.out.2; have := HU1.out; omega) (by simp) ?_
                               intro v1 w1 csf hcs1 ho1 hgr1 hat1
                               have hcs1 : CellsR 5 qMoveR w csf m.moves := ⟨hcs1.1, hcs1.2⟩
                               have hb1 : Below wy1.heap.size wy1 w1 := ((Below.refl _ _).alloc (Nat.le_refl _) _).grown hgr1 (by simp) (by simp [Value.ownBlock])
                               obtain ⟨fA, fn, fc, rfl, hfn⟩ := own_form' ho1
                               have hy1 := HYR.out.below hb1
                               have qy1 := hy1.y.cell 4
                               have fy1 := hy1.y.frozen 4
                               simp only [List.getElem?_toArray, List.getElem?_cons_zero, List.getElem?_cons_succ] at qy1
                               have ly1 := hy1.y.lt
                               have HY1 := Lib.hid hy1
                               have HO1 := Lib.hid ho1
                               have HCf := Lib.hid hcs1
                               have HBW1 := Lib.hid hb1
                               have HFN := Lib.hid hfn
                               clear hy1 ho1 hcs1 hb1 hgr1 hat1 hfn)
                  obtain rfl : m1 = fn := by have := HFN.out; omega
                  have hy2 : YR wo 69 #[.string m.from_, .string m.to_, .int .i64 0, .int .i64 0, .slice fA m1 fc] (w1.setCell ⟨wo.heap.size, 4, none⟩ (.slice fA m1 fc)) := HY1.out.put 4 _
                  have ho2 : (w1.setCell ⟨wo.heap.size, 4, none⟩ (.slice fA m1 fc)).ownsRow wy1.heap.size 71 5 (.slice fA m1 fc) m1 csf := by
                    have := HO1.out
                    rw [Nat.zero_add, List.nil_append] at this
                    exact own_far this (by simpa using ly) _
                  generalize w1.setCell ⟨wo.heap.size, 4, none⟩ (.slice fA m1 fc) = w2 at hy2 ho2 ⊢
                  have HY2 := Lib.hid hy2
                  have HO2 := Lib.hid ho2
                  have hwwy1 := HYR.out.lt
                  clear hy2 ho2 qy ly qy1 fy1 ly1 HYR HY1 HO1 HBW1 HFN
                  go_loopg [12] m1 (fun q j wr => ∃ (k : Nat) (cr : List Value), k ≤ m1 ∧ q = m1 - k ∧ j = .int .i64 k ∧ YR wo 69 #[.string m.from_, .string m.to_, .int .i64 0, .int .i64 0, .slice fA m1 fc] wr ∧ wr.ownsRow wy1.heap.size 71 5 (.slice fA m1 fc) m1 cr ∧ CellsR 5 qMoveR w cr ((m.moves.take k).map bareMove ++ m.moves.drop k))
                  case atStart => exact ⟨0, csf, Nat.zero_le _, rfl, rfl, HY2.out, HO2.out, HCf.out⟩
                  case round =>
                    clear HY2 HO2 HCf
                    obtain ⟨k, cr, hk2, hq, rfl, hyr, hoi, hcr2⟩ := hrel
                    have HQ2 := Lib.hid hq
                    clear hq
                    have g4 := hyr.y.cell 4
                    simp only [List.getElem?_toArray, List.getElem?_cons_zero, List.getElem?_cons_succ] at g4
                    by_cases hlt2 : k < m1
                    · rcases own_row hoi with ⟨h, h0⟩ | ⟨I, hcap, h, hI, hIw, hn2⟩
                      · exfalso; injection h with _ h; omega
                      injection h with h1 h2 h3
                      subst h1 h3
                      clear h2
                      obtain ⟨mm, hmm⟩ : ∃ x, m.moves[k]? = some x := ⟨m.moves[k]'(by have := HU1.out; omega), List.getElem?_eq_getElem _⟩
                      have hat := take_map_at (f := bareMove) hmm
                      have hlc : cr.length = m1 * 5 := by rw [hcr2.1, take_map_len, HU1.out]
                      have hrz : wr.there I (k * 5 + 0) 5 := own_there hoi hlc hlt2 (j := 0) (by simp)
                      obtain ⟨hs0, fz0⟩ := hrz 3 (by omega)
                      obtain ⟨vz0, ez0⟩ := Option.isSome_iff_exists.1 hs0
                      clear hs0
                      replace ez0 : wr.cell? ⟨I, k * 5 + 3, none⟩ = some vz0 := ez0
                      replace fz0 : wr.frozen? ⟨I, k * 5 + 3, none⟩ = false := fz0
                      obtain ⟨hs1, fz1⟩ := hrz 2 (by omega)
                      obtain ⟨vz1, ez1⟩ := Option.isSome_iff_exists.1 hs1
                      clear hs1
                      replace ez1 : wr.cell? ⟨I, k * 5 + 2, none⟩ = some vz1 := ez1
                      replace fz1 : wr.frozen? ⟨I, k * 5 + 2, none⟩ = false := fz1
                      have hin : (k : Int) < (m1 : Int) := by omega
                      have hi0 : (0 : Int) ≤ (k : Int) := by omega
                      have hyI : ¬ wo.heap.size = I := by omega
                      have HYR := Lib.hid hyr
                      have HOI := Lib.hid hoi
                      have HCR2 := Lib.hid hcr2
                      have HMM := Lib.hid hmm
                      have HAT := Lib.hid hat
                      clear hyr hoi hcr2 hmm hat hrz hlc
                      go_wp2_with fail
                      go_roundg (m1 - (k + 1))
                      case measure => have := HQ2.out; omega
                      case rel =>
                        have hg : wr.grownBy ((wr.setCell ⟨I, k * 5 + 3, none⟩ (.int .i64 0)).setCell ⟨I, k * 5 + 2, none⟩ (.int .i64 0)) (some I) := grown_near (grown_near (World.grownBy.refl _ _) _ _) _ _
                        have hc := (move_put HCR2.out HAT.out 0 0).trans' (take_map_snoc HMM.out)
                        exact ⟨k + 1, _, by omega, rfl, by go_num, HYR.out.far hg (by omega), ((HOI.out.stored (k * 5 + 3) (.int .i64 0)).1.stored (k * 5 + 2) (.int .i64 0)).1, hc⟩
                    · have hke2 : k = m.moves.length := by have := HU1.out; omega
                      rw [take_map_all hke2] at hcr2
                      have HYR := Lib.hid hyr
                      have HRf := Lib.hid hoi
                      have HCf := Lib.hid hcr2
                      have y0 := hyr.y.cell 0
                      have y1 := hyr.y.cell 1
                      have y2 := hyr.y.cell 2
                      have y3 := hyr.y.cell 3
                      have y4 := hyr.y.cell 4
                      simp only [List.getElem?_toArray, List.getElem?_cons_zero, List.getElem?_cons_succ] at y0 y1 y2 y3 y4
                      have gx := ((hyr.bl.cell (p := ⟨w.heap.size + 2, 4, none⟩) lxr).trans g2)
                      have hrz : wr.there H (ko * 5 + 0) 5 := own_there (own_below0 HOH.out hyr.bl) (by rw [HCR.out.len, HL5.out]) hlt (j := 0) (by simp)
                      obtain ⟨hs0, fz0⟩ := hrz 0 (by omega)
                      obtain ⟨vz0, ez0⟩ := Option.isSome_iff_exists.1 hs0
                      clear hs0
                      obtain ⟨hs1, fz1⟩ := hrz 1 (by omega)
                      obtain ⟨vz1, ez1⟩ := Option.isSome_iff_exists.1 hs1
                      clear hs1
                      obtain ⟨hs2, fz2⟩ := hrz 2 (by omega)
                      obtain ⟨vz2, ez2⟩ := Option.isSome_iff_exists.1 hs2
                      clear hs2
                      obtain ⟨hs3, fz3⟩ := hrz 3 (by omega)
                      obtain ⟨vz3, ez3⟩ := Option.isSome_iff_exists.1 hs3
                      clear hs3
                      obtain ⟨hs4, fz4⟩ := hrz 4 (by omega)
                      obtain ⟨vz4, ez4⟩ := Option.isSome_iff_exists.1 hs4
                      clear hs4
                      simp only [Nat.add_zero] at ez0 fz0 ez1 fz1 ez2 fz2 ez3 fz3 ez4 fz4
                      have gyH : ¬ wo.heap.size = H := by omega
                      clear hyr hoi hcr2 hke2 hrz g4
                      go_wp2_with fail
                      go_roundg (n5 - (ko + 1))
                      case measure => have := HQ.out; omega
                      case rel =>
                        have hgw : wo.grownBy (wr.setCells H (ko * 5) [.string m.from_, .string m.to_, .int .i64 0, .int .i64 0, .slice fA m1 fc]) (some H) := grown_setL _ _ _ (grown_of_below HYR.out.bl _)
                        have hgn : wr.grownBy (wr.setCells H (ko * 5) [.string m.from_, .string m.to_, .int .i64 0, .int .i64 0, .slice fA m1 fc]) (some H) := grown_setL _ _ _ (World.grownBy.refl _ _)
                        have hon := own_putL [.string m.from_, .string m.to_, .int .i64 0, .int .i64 0, .slice fA m1 fc] (ko * 5) _ wr (own_below0 HOH.out HYR.out.bl)
                        have hrf := HRf.out.kept hgn (.inr (fun e => by have := HRf.out.lt _ e; omega))
                        refine ⟨ko + 1, setL co (ko * 5) [.string m.from_, .string m.to_, .int .i64 0, .int .i64 0, .slice fA m1 fc], by omega, rfl, by go_num, HXB.out.far hgw (by omega), hon, ?_, HKP.out.far hgw (by omega)⟩
                        have hbm := HCR.out.mono qConvertR_mono (hideV_below (v := .slice (some ⟨H, 0, none⟩) n5 vc5) (mask_grown hgw))
                        clear hgw hgn hon
                        revert hrf hbm
                        show _ → _ → BRow 5 qConvertR bareConvert s.converts cs5 _ (ko + 1) (hideV (.slice (some ⟨H, 0, none⟩) n5 vc5) (mk3 w (wr.setCells H (ko * 5) [.string m.from_, .string m.to_, .int .i64 0, .int .i64 0, .slice fA m1 fc])))
                        generalize wr.setCells H (ko * 5) [.string m.from_, .string m.to_, .int .i64 0, .int .i64 0, .slice fA m1 fc] = W
                        intro hrf hbm
                        have t1 : SlB 5 56 qMoveR (hideV (.slice (some ⟨H, 0, none⟩) n5 vc5) (mk3 w W)) (.slice fA m1 fc) (m.moves.map bareMove) := ⟨slR_of_row (hideV_own (mask_own hrf (by omega)) (fun x e => by simp [Value.ownBlock] at e; omega)) ⟨HCf.out.1, HCf.out.2⟩ (by rw [List.length_map]; exact HU1.out), by rw [List.length_map]; exact HT1.out.2⟩
                        refine hbm.step HM.out (setL_len _ _ _) (fun i hi => chunk_setL_other (j := 0) hi _ _ (by simp)) ?_
                        rw [show chunk (setL co (ko * 5) [.string m.from_, .string m.to_, .int .i64 0, .int .i64 0, .slice fA m1 fc]) 5 ko = _ from chunk_setL (i := ko) (sz := 5) [.string m.from_, .string m.to_, .int .i64 0, .int .i64 0, .slice fA m1 fc] co 0 (by simp), HCH.out]
                        exact ⟨_, _, _, rfl, t1⟩
                · have hke : k = s.converts.length := by have := HL5.out; omega
                  have hcc : CellsR 5 qConvertR (mk3 w wr) cr (s.converts.map bareConvert) := hideV_unm qConvertR_unm (hcr.all hke)
                  have hfi : SlB 5 72 qConvertR (mk3 w wr) (.slice vA5 n5 vc5) (s.converts.map bareConvert) := ⟨slR_of_row (mask_own hoh (by omega)) hcc (by rw [List.length_map]; exact HL5.out), by rw [List.length_map]; exact HB5.out⟩
                  have HF5 := Lib.hid hfi
                  have hf2 := hkp.sl qUnitR_mono HF2.out
                  clear HF2
                  have HF2 := Lib.hid hf2
                  clear hf2
                  have hf3 := hkp.sl qSchemaR_mono HF3.out
                  clear HF3
                  have HF3 := Lib.hid hf3
                  clear hf3
                  have hf4 := hkp.sl qRuleR_mono HF4.out
                  clear HF4
                  have HF4 := Lib.hid hf4
                  clear hf4
                  have q2 := hxb.s.cell 5
                  simp only [List.getElem?_toArray, List.getElem?_cons_zero, List.getElem?_cons_succ] at q2
                  have lx := hxb.x.lt
                  have ls := hxb.s.lt
                  have HXB := Lib.hid hxb
                  clear hxb hoh hcr hkp hke hcc hfi HC5
                  go_upto_region 45 with fail
                  obtain ⟨wa6, rfl⟩ : ∃ x, x = wr := ⟨_, rfl⟩
                  obtain ⟨kk5, rfl⟩ : ∃ x, x = k := ⟨_, rfl⟩
                  clear g2 hk hlt HQ
                  go_wp2_with (at_builtin; refine wpList_append_row _ rfl (.tmp 170) (.tmp 172) 27 74 rfl j6 _ 48 Try.underlying27 I6.out Z6.out.1 Z6.out.2.1 Z6.out.2.2 rfl (by decide) (R := fun _ => qPurposeR w) (fun _ => qPurposeR_one w) wa6.heap.size (.slice (some ⟨wa6.heap.size, 0, none⟩) 0 0) 0 [] rfl (World.ownsRow_lit wa6 #[] 0 (Nat.le_refl _) (Nat.zero_le _) rfl) A6 n6 c6 s.purposes rfl (HS6.out.1.fix (HXB.out.bl.alloc HXB.out.bl.size _)) (by have := HB6.out; have := HL6.out; unfold maxLen; omega) (by have := HB6.out; have := HL6.out; omega) (by simp) ?_
                               intro v1 w1 cs6 hcs1 ho1 hgr1 hat1
                               have hcs1 : CellsR 3 qPurposeR w cs6 s.purposes := ⟨hcs1.1, hcs1.2⟩
                               have hb1 : Below wa6.heap.size wa6 w1 := ((Below.refl _ _).alloc (Nat.le_refl _) _).grown hgr1 (by simp) (by simp [Value.ownBlock])
                               obtain ⟨vA6, vn, vc6, rfl, hvn⟩ := own_form' ho1
                               have hx1 := HXB.out.below hb1
                               have q21 := hx1.x.cell 5
                               have f21 := hx1.x.frozen 5
                               simp only [List.getElem?_toArray, List.getElem?_cons_zero, List.getElem?_cons_succ] at q21
                               have lx1 := hx1.x.lt
                               have HX1 := Lib.hid hx1
                               have HO1 := Lib.hid ho1
                               have HC6 := Lib.hid hcs1
                               have HBW1 := Lib.hid hb1
                               have HVN := Lib.hid hvn
                               clear hx1 ho1 hcs1 hb1 hgr1 hat1 hvn)
                  obtain rfl : n6 = vn := by have := HVN.out; omega
                  have hx2 : XB w #[.slice A1 n1 c1, .slice A2 n2 c2, .slice A3 n3 c3, .slice A4 n4 c4, .slice A5 n5 c5, .slice A6 n6 c6] #[.slice none 0 0, .slice none 0 0, .slice none 0 0, .slice none 0 0, .slice none 0 0, .slice none 0 0] #[.slice A1 n1 c1, .slice vA2 n2 vc2, .slice vA3 n3 vc3, .slice vA4 n4 vc4, .slice vA5 n5 vc5, .slice vA6 n6 vc6] (w1.setCell ⟨w.heap.size + 2, 5, none⟩ (.slice vA6 n6 vc6)) := HX1.out.put 5 _
                  have ho2 : (w1.setCell ⟨w.heap.size + 2, 5, none⟩ (.slice vA6 n6 vc6)).ownsRow wa6.heap.size 74 3 (.slice vA6 n6 vc6) n6 cs6 := by
                    have := HO1.out
                    rw [Nat.zero_add, List.nil_append] at this
                    exact own_far this (by simpa using lx) _
                  have hkp : Kp w wa6 (w1.setCell ⟨w.heap.size + 2, 5, none⟩ (.slice vA6 n6 vc6)) := ((Kp.refl _ _).below HBW1.out).own (grown_near (World.grownBy.refl _ _) _ _) (by omega) (by omega)
                  generalize w1.setCell ⟨w.heap.size + 2, 5, none⟩ (.slice vA6 n6 vc6) = w2 at hx2 ho2 hkp ⊢
                  have HX2 := Lib.hid hx2
                  have HO2 := Lib.hid ho2
                  have HKP := Lib.hid hkp
                  have hwa6 := HXB.out.lt
                  clear hx2 ho2 hkp q2 lx ls q21 f21 lx1 HXB HX1 HO1 HBW1 HVN
                  go_loopg [13] n6 (fun q j wr => ∃ (k : Nat) (cr : List Value), k ≤ n6 ∧ q = n6 - k ∧ j = .int .i64 k ∧ XB w #[.slice A1 n1 c1, .slice A2 n2 c2, .slice A3 n3 c3, .slice A4 n4 c4, .slice A5 n5 c5, .slice A6 n6 c6] #[.slice none 0 0, .slice none 0 0, .slice none 0 0, .slice none 0 0, .slice none 0 0, .slice none 0 0] #[.slice A1 n1 c1, .slice vA2 n2 vc2, .slice vA3 n3 vc3, .slice vA4 n4 vc4, .slice vA5 n5 vc5, .slice vA6 n6 vc6] wr ∧
                      wr.ownsRow wa6.heap.size 74 3 (.slice vA6 n6 vc6) n6 cr ∧ BRow 3 qPurposeR barePurpose s.purposes cs6 cr k (hideV (.slice vA6 n6 vc6) (mk3 w wr)) ∧ Kp w wa6 wr)
                  case atStart => exact ⟨0, cs6, Nat.zero_le _, rfl, rfl, HX2.out, HO2.out, BRow.start HC6.out _, HKP.out⟩
                  case round =>
                    clear HX2 HO2 HKP
                    obtain ⟨k, cr, hk, hq, rfl, hxb, hoh, hcr, hkp⟩ := hrel
                    have HQ := Lib.hid hq
                    clear hq
                    have g2 := hxb.x.cell 5
                    simp only [List.getElem?_toArray, List.getElem?_cons_zero, List.getElem?_cons_succ] at g2
                    by_cases hlt : k < n6
                    · rcases own_row hoh with ⟨h, h0⟩ | ⟨H, hcap, h, hH, hHw, hn2⟩
                      · exfalso; injection h with _ h; omega
                      injection h with h1 h2 h3
                      subst h1 h3
                      clear h2
                      obtain ⟨m, hm⟩ : ∃ m, s.purposes[k]? = some m := ⟨s.purposes[k]'(by have := HL6.out; omega), List.getElem?_eq_getElem _⟩
                      have hkn : (k : Int) < (n6 : Int) := by omega
                      have hk0 : (0 : Int) ≤ (k : Int) := by omega
                      have hne : ¬ w.heap.size + 2 = H := by omega
                      have hne' : ¬ H = w.heap.size + 2 := by omega
                      have HXB := Lib.hid hxb
                      have HOH := Lib.hid hoh
                      have HCR := Lib.hid hcr
                      have HKP := Lib.hid hkp
                      have HM := Lib.hid hm
                      clear hxb hoh hcr hkp hm
                      obtain ⟨wo, rfl⟩ : ∃ x, x = wr := ⟨_, rfl⟩
                      obtain ⟨ko, rfl⟩ : ∃ x, x = k := ⟨_, rfl⟩
                      obtain ⟨co, rfl⟩ : ∃ x, x = cr := ⟨_, rfl⟩
                      obtain ⟨B1, m1, d1, hch, hs1⟩ := HCR.out.at_ HC6.out HM.out
                      have e1 := own_cell HOH.out hlt (by omega) hch (j := 1) rfl
                      have HT1 := Lib.hid hs1
                      have HU1 := Lib.hid hs1.1.len
                      have HCH := Lib.hid hch
                      have lH := own_lt HOH.out
                      have lxr := HXB.out.x.lt
                      clear hs1 hch
                      go_wp2_with (at_builtin; refine wpList_append_row _ rfl (.tmp 182) (.tmp 188) 72 76 rfl jrf _ 48 Try.underlying72 Irf.out Zrf.out.1 Zrf.out.2.1 Zrf.out.2.2 rfl (by decide) (R := fun _ => qRefR w) (fun _ => qRefR_one w) wo.heap.size (.slice (some ⟨wo.heap.size, 0, none⟩) 0 0) 0 [] rfl (World.ownsRow_lit wo #[] 0 (Nat.le_refl _) (Nat.zero_le _) rfl) B1 m1 d1 m.may rfl (HT1.out.1.fix (HXB.out.bl.alloc HXB.out.bl.size _)) (by have := HT1.out.2; have := HU1.out; unfold maxLen; omega) (by have := HT1.out.2; have := HU1.out; omega) (by simp) ?_
                                   intro v1 w1 csf hcs1 ho1 hgr1 hat1
                                   have hcs1 : CellsR 4 qRefR w csf m.may := ⟨hcs1.1, hcs1.2⟩
                                   have hb1 : Below wo.heap.size wo w1 := ((Below.refl _ _).alloc (Nat.le_refl _) _).grown hgr1 (by simp) (by simp [Value.ownBlock])
                                   obtain ⟨fA, fn, fc, rfl, hfn⟩ := own_form' ho1
                                   have HO1 := Lib.hid ho1
                                   have HCf := Lib.hid hcs1
                                   have HBW1 := Lib.hid hb1
                                   have HFN := Lib.hid hfn
                                   clear ho1 hcs1 hb1 hgr1 hat1 hfn)
                      obtain rfl : m1 = fn := by have := HFN.out; omega
                      have ho2 : w1.ownsRow wo.heap.size 76 4 (.slice fA m1 fc) m1 csf := by
                        have := HO1.out
                        rw [Nat.zero_add, List.nil_append] at this
                        exact this
                      have HO2 := Lib.hid ho2
                      clear ho2 HFN HO1
                      go_loopg [15] m1 (fun q j wr => ∃ (k : Nat) (cr : List Value), k ≤ m1 ∧ q = m1 - k ∧ j = .int .i64 k ∧ Below wo.heap.size wo wr ∧ wr.ownsRow wo.heap.size 76 4 (.slice fA m1 fc) m1 cr ∧ CellsR 4 qRefR w cr ((m.may.take k).map bareRef ++ m.may.drop k))
                      case atStart => exact ⟨0, csf, Nat.zero_le _, rfl, rfl, HBW1.out, HO2.out, HCf.out⟩
                      case round =>
                        clear HO2 HCf HBW1
                        obtain ⟨k, cr, hk2, hq, rfl, hbo, hoi, hcr2⟩ := hrel
                        have HQ2 := Lib.hid hq
                        clear hq
                        by_cases hlt2 : k < m1
                        · rcases own_row hoi with ⟨h, h0⟩ | ⟨I, hcap, h, hI, hIw, hn2⟩
                          · exfalso; injection h with _ h; omega
                          injection h with h1 h2 h3
                          subst h1 h3
                          clear h2
                          obtain ⟨mm, hmm⟩ : ∃ x, m.may[k]? = some x := ⟨m.may[k]'(by have := HU1.out; omega), List.getElem?_eq_getElem _⟩
                          have hat := take_map_at (f := bareRef) hmm
                          have hch : chunk cr 4 k = _ := hcr2.chunk hat
                          have i2 := own_cell hoi hlt2 (by omega) hch (j := 2) rfl
                          have i3 := own_cell hoi hlt2 (by omega) hch (j := 3) rfl
                          have f2 := hoi.frozenAt (k * 4 + 2)
                          have f3 := hoi.frozenAt (k * 4 + 3)
                          have hin : (k : Int) < (m1 : Int) := by omega
                          have hi0 : (0 : Int) ≤ (k : Int) := by omega
                          have HBO := Lib.hid hbo
                          have HOI := Lib.hid hoi
                          have HCR2 := Lib.hid hcr2
                          have HMM := Lib.hid hmm
                          have HAT := Lib.hid hat
                          clear hbo hoi hcr2 hmm hat hch
                          go_wp2_with fail
                          go_roundg (m1 - (k + 1))
                          case measure => have := HQ2.out; omega
                          case rel =>
                            have hg : wr.grownBy ((wr.setCell ⟨I, k * 4 + 2, none⟩ (.int .i64 0)).setCell ⟨I, k * 4 + 3, none⟩ (.int .i64 0)) (some I) := grown_near (grown_near (World.grownBy.refl _ _) _ _) _ _
                            have hc := ref_put23 HCR2.out HAT.out 0 0
                            rw [show ({ mm with schema := 0, field := 0 } : QRef) = bareRef mm from rfl, take_map_snoc HMM.out] at hc
                            exact ⟨k + 1, _, by omega, rfl, by go_num, below_grown HBO.out hg (by omega), ((HOI.out.stored (k * 4 + 2) (.int .i64 0)).1.stored (k * 4 + 3) (.int .i64 0)).1, hc⟩
                        · have hke2 : k = m.may.length := by have := HU1.out; omega
                          rw [take_map_all hke2] at hcr2
                          have HBO := Lib.hid hbo
                          have HRf := Lib.hid hoi
                          have HCf := Lib.hid hcr2
                          have gx := ((hbo.cell (p := ⟨w.heap.size + 2, 5, none⟩) lxr).trans g2)
                          have ex := ((hbo.cell (p := ⟨H, ko * 3 + 1, none⟩) lH).trans e1)
                          have fx := (own_below0 HOH.out hbo).frozenAt (ko * 3 + 1)
                          clear hbo hoi hcr2 hke2 e1
                          go_wp2_with fail
                          go_roundg (n6 - (ko + 1))
                          case measure => have := HQ.out; omega
                          case rel =>
                            have hgw : wo.grownBy (wr.setCell ⟨H, ko * 3 + 1, none⟩ (.slice fA m1 fc)) (some H) := grown_near (grown_of_below HBO.out _) _ _
                            have hgn : wr.grownBy (wr.setCell ⟨H, ko * 3 + 1, none⟩ (.slice fA m1 fc)) (some H) := grown_near (World.grownBy.refl _ _) _ _
                            have hon := ((own_below0 HOH.out HBO.out).stored (ko * 3 + 1) (.slice fA m1 fc)).1
                            have hrf := HRf.out.kept hgn (.inr (fun e => by have := HRf.out.lt _ e; omega))
                            refine ⟨ko + 1, co.set (ko * 3 + 1) (.slice fA m1 fc), by omega, rfl, by go_num, HXB.out.far hgw (by omega), hon, ?_, HKP.out.far hgw (by omega)⟩
                            have hbm := HCR.out.mono qPurposeR_mono (hideV_below (v := .slice (some ⟨H, 0, none⟩) n6 vc6) (mask_grown hgw))
                            clear hgw hgn hon
                            revert hrf hbm
                            show _ → _ → BRow 3 qPurposeR barePurpose s.purposes cs6 _ (ko + 1) (hideV (.slice (some ⟨H, 0, none⟩) n6 vc6) (mk3 w (wr.setCell ⟨H, ko * 3 + 1, none⟩ (.slice fA m1 fc))))
                            generalize wr.setCell ⟨H, ko * 3 + 1, none⟩ (.slice fA m1 fc) = W
                            intro hrf hbm
                            have t1 : SlB 4 48 qRefR (hideV (.slice (some ⟨H, 0, none⟩) n6 vc6) (mk3 w W)) (.slice fA m1 fc) (m.may.map bareRef) := ⟨slR_of_row (hideV_own (mask_own hrf (by omega)) (fun x e => by simp [Value.ownBlock] at e; omega)) ⟨HCf.out.1, HCf.out.2⟩ (by rw [List.length_map]; exact HU1.out), by rw [List.length_map]; exact HT1.out.2⟩
                            refine hbm.step HM.out (List.length_set) (fun i hi => chunk_other _ (by omega) hi) ?_
                            rw [chunk_set _ (by omega), HCH.out]
                            exact ⟨_, _, _, rfl, t1⟩
                    · have hke : k = s.purposes.length := by have := HL6.out; omega
                      have hcc : CellsR 3 qPurposeR (mk3 w wr) cr (s.purposes.map barePurpose) := hideV_unm qPurposeR_unm (hcr.all hke)
                      have hfi : SlB 3 48 qPurposeR (mk3 w wr) (.slice vA6 n6 vc6) (s.purposes.map barePurpose) := ⟨slR_of_row (mask_own hoh (by omega)) hcc (by rw [List.length_map]; exact HL6.out), by rw [List.length_map]; exact HB6.out⟩
                      have HF6 := Lib.hid hfi
                      have hf2 := hkp.sl qUnitR_mono HF2.out
                      clear HF2
                      have HF2 := Lib.hid hf2
                      clear hf2
                      have hf3 := hkp.sl qSchemaR_mono HF3.out
                      clear HF3
                      have HF3 := Lib.hid hf3
                      clear hf3
                      have hf4 := hkp.sl qRuleR_mono HF4.out
                      clear HF4
                      have HF4 := Lib.hid hf4
                      clear hf4
                      have hf5 := hkp.sl qConvertR_mono HF5.out
                      clear HF5
                      have HF5 := Lib.hid hf5
                      clear hf5
                      have HXB := Lib.hid hxb
                      have HKP := Lib.hid hkp
                      have y0 := hxb.x.cell 0
                      have z0 := hxb.r.cell 0
                      have u0 := hxb.r.frozen 0
                      have y1 := hxb.x.cell 1
                      have z1 := hxb.r.cell 1
                      have u1 := hxb.r.frozen 1
                      have y2 := hxb.x.cell 2
                      have z2 := hxb.r.cell 2
                      have u2 := hxb.r.frozen 2
                      have y3 := hxb.x.cell 3
                      have z3 := hxb.r.cell 3
                      have u3 := hxb.r.frozen 3
                      have y4 := hxb.x.cell 4
                      have z4 := hxb.r.cell 4
                      have u4 := hxb.r.frozen 4
                      have y5 := hxb.x.cell 5
                      have z5 := hxb.r.cell 5
                      have u5 := hxb.r.frozen 5
                      simp only [List.getElem?_toArray, List.getElem?_cons_zero, List.getElem?_cons_succ] at y0 y1 y2 y3 y4 y5 z0 z1 z2 z3 z4 z5
                      clear hxb hoh hcr hkp hke hcc hfi
                      go_wp2_with fail
                      have hlw := HXB.out.lt
                      have hg5 : wr.grownBy (wr.setCells (w.heap.size + 1) 0 [.slice A1 n1 c1, .slice vA2 n2 vc2, .slice vA3 n3 vc3, .slice vA4 n4 vc4, .slice vA5 n5 vc5, .slice vA6 n6 vc6]) (some (w.heap.size + 1)) := grown_setL _ _ _ (World.grownBy.refl _ _)
                      have hbl : Below w.heap.size w (wr.setCells (w.heap.size + 1) 0 [.slice A1 n1 c1, .slice vA2 n2 vc2, .slice vA3 n3 vc3, .slice vA4 n4 vc4, .slice vA5 n5 vc5, .slice vA6 n6 vc6]) := below_grown HXB.out.bl hg5 (by omega)
                      have hk5 := (Kp.refl w wr).own hg5 (by omega) (by omega)
                      have key : qSourceR (wr.setCells (w.heap.size + 1) 0 [.slice A1 n1 c1, .slice vA2 n2 vc2, .slice vA3 n3 vc3, .slice vA4 n4 vc4, .slice vA5 n5 vc5, .slice vA6 n6 vc6]) [.slice A1 n1 c1, .slice vA2 n2 vc2, .slice vA3 n3 vc3, .slice vA4 n4 vc4, .slice vA5 n5 vc5, .slice vA6 n6 vc6] (bareP s) := by
                        revert hk5 hbl
                        clear hg5
                        generalize wr.setCells (w.heap.size + 1) 0 [.slice A1 n1 c1, .slice vA2 n2 vc2, .slice vA3 n3 vc3, .slice vA4 n4 vc4, .slice vA5 n5 vc5, .slice vA6 n6 vc6] = W
                        intro hbl hk5
                        have t1 := HS1.out.mono strR_mono hbl
                        have t2 := (hk5.sl qUnitR_mono HF2.out).unm qUnitR_unm
                        have t3 := (hk5.sl qSchemaR_mono HF3.out).unm qSchemaR_unm
                        have t4 := (hk5.sl qRuleR_mono HF4.out).unm qRuleR_unm
                        have t5 := (hk5.sl qConvertR_mono HF5.out).unm qConvertR_unm
                        have t6 := (hk5.sl qPurposeR_mono HF6.out).unm qPurposeR_unm
                        exact ⟨_, _, _, _, _, _, _, _, _, _, _, _, _, _, _, _, _, _, rfl, t1, t2, t3, t4, t5, t6⟩
                      refine ⟨rfl, .agg #[.slice A1 n1 c1, .slice vA2 n2 vc2, .slice vA3 n3 vc3, .slice vA4 n4 vc4, .slice vA5 n5 vc5, .slice vA6 n6 vc6], ?_, [.slice A1 n1 c1, .slice vA2 n2 vc2, .slice vA3 n3 vc3, .slice vA4 n4 vc4, .slice vA5 n5 vc5, .slice vA6 n6 vc6], rfl, key, hbl⟩
                      simp [results, Try.results15, go_sem, *]
end Go.Proofs.Ytkkkephjljiplaa
