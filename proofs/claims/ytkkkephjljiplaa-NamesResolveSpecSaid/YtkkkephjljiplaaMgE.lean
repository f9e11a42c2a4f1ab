/- The reference's Resolve. Written by genref11.py. -/
import Derived.Test.YtkkkephjljiplaaMgD
import Derived.Test.YtkkkephjljiplaaMgC
import Derived.Test.YtkkkephjljiplaaNmSane
import Derived.Test.YtkkkephjljiplaaNmFew
import Derived.Test.YtkkkephjljiplaaNmSameF
namespace Go.Proofs.Ytkkkephjljiplaa
open Go.RowKit
theorem noSrc (w : World) : qSourceR w [.slice none 0 0, .slice none 0 0, .slice none 0 0, .slice none 0 0, .slice none 0 0, .slice none 0 0] noSource := src_whole ⟨SlR.nil _ _ (Nat.zero_le _), by simp [noSource]⟩ ⟨SlR.nil _ _ (Nat.zero_le _), by simp [noSource]⟩ ⟨SlR.nil _ _ (Nat.zero_le _), by simp [noSource]⟩ ⟨SlR.nil _ _ (Nat.zero_le _), by simp [noSource]⟩ ⟨SlR.nil _ _ (Nat.zero_le _), by simp [noSource]⟩ ⟨SlR.nil _ _ (Nat.zero_le _), by simp [noSource]⟩
set_option maxHeartbeats 8000000 in
set_option maxRecDepth 100000 in
theorem refResolve_any (A1 A2 A3 A4 A5 A6 : Option Addr) (n1 c1 n2 c2 n3 c3 n4 c4 n5 c5 n6 c6 : Nat) (s : QSource) (w : World) (hs : qSourceR w [.slice A1 n1 c1, .slice A2 n2 c2, .slice A3 n3 c3, .slice A4 n4 c4, .slice A5 n5 c5, .slice A6 n6 c6] s) :
    Calls Try.prog 13 #[.agg #[.slice A1 n1 c1, .slice A2 n2 c2, .slice A3 n3 c3, .slice A4 n4 c4, .slice A5 n5 c5, .slice A6 n6 c6]] w (RetResolve s w) := by
  have HS := Lib.hid hs
  obtain ⟨-, -, hp3, hp4, hp5, hp6⟩ := src_parts hs
  have HL3 := Lib.hid hp3.1.len
  have HNB3 : Hid (n3 * 96 ≤ 140737488355328) := Lib.hid (by rw [hp3.1.len]; exact hp3.2)
  have hle3 := hp3.1.le
  have HL4 := Lib.hid hp4.1.len
  have HNB4 : Hid (n4 * 96 ≤ 140737488355328) := Lib.hid (by rw [hp4.1.len]; exact hp4.2)
  have hle4 := hp4.1.le
  have HL5 := Lib.hid hp5.1.len
  have HNB5 : Hid (n5 * 72 ≤ 140737488355328) := Lib.hid (by rw [hp5.1.len]; exact hp5.2)
  have hle5 := hp5.1.le
  have HL6 := Lib.hid hp6.1.len
  have HNB6 : Hid (n6 * 48 ≤ 140737488355328) := Lib.hid (by rw [hp6.1.len]; exact hp6.2)
  have hle6 := hp6.1.le
  clear hs hp3 hp4 hp5 hp6
  obtain ⟨j3, i3, z30, z31, z32⟩ := info_parts Try.infoSchema
  have I3 := Lib.hid i3
  have Z3 := Lib.hid (And.intro z30 (And.intro z31 z32))
  clear i3 z30 z31 z32
  obtain ⟨j4, i4, z40, z41, z42⟩ := info_parts Try.infoRule
  have I4 := Lib.hid i4
  have Z4 := Lib.hid (And.intro z40 (And.intro z41 z42))
  clear i4 z40 z41 z42
  obtain ⟨j5, i5, z50, z51, z52⟩ := info_parts Try.infoConvert
  have I5 := Lib.hid i5
  have Z5 := Lib.hid (And.intro z50 (And.intro z51 z52))
  clear i5 z50 z51 z52
  obtain ⟨j6, i6, z60, z61, z62⟩ := info_parts Try.infoPurpose
  have I6 := Lib.hid i6
  have Z6 := Lib.hid (And.intro z60 (And.intro z61 z62))
  clear i6 z60 z61 z62
  go_enter Try.func13, Try.ntmps13
  go_upto_region 1 with fail
  have hb := below_two w (.cells #[.slice A1 n1 c1, .slice A2 n2 c2, .slice A3 n3 c3, .slice A4 n4 c4, .slice A5 n5 c5, .slice A6 n6 c6] 29) (.cells #[.slice none 0 0, .slice none 0 0, .slice none 0 0, .slice none 0 0, .slice none 0 0, .slice none 0 0] 29)
  have hs1 : Blk ((w.alloc (.cells #[.slice A1 n1 c1, .slice A2 n2 c2, .slice A3 n3 c3, .slice A4 n4 c4, .slice A5 n5 c5, .slice A6 n6 c6] 29)).alloc (.cells #[.slice none 0 0, .slice none 0 0, .slice none 0 0, .slice none 0 0, .slice none 0 0, .slice none 0 0] 29)) w.heap.size 29 #[.slice A1 n1 c1, .slice A2 n2 c2, .slice A3 n3 c3, .slice A4 n4 c4, .slice A5 n5 c5, .slice A6 n6 c6] := (Blk.new _ _ _).alloc _
  have hr1 : Blk ((w.alloc (.cells #[.slice A1 n1 c1, .slice A2 n2 c2, .slice A3 n3 c3, .slice A4 n4 c4, .slice A5 n5 c5, .slice A6 n6 c6] 29)).alloc (.cells #[.slice none 0 0, .slice none 0 0, .slice none 0 0, .slice none 0 0, .slice none 0 0, .slice none 0 0] 29)) (w.heap.size + 1) 29 #[.slice none 0 0, .slice none 0 0, .slice none 0 0, .slice none 0 0, .slice none 0 0, .slice none 0 0] := blk_new2 _ _ _ _
  generalize (w.alloc (.cells #[.slice A1 n1 c1, .slice A2 n2 c2, .slice A3 n3 c3, .slice A4 n4 c4, .slice A5 n5 c5, .slice A6 n6 c6] 29)).alloc (.cells #[.slice none 0 0, .slice none 0 0, .slice none 0 0, .slice none 0 0, .slice none 0 0, .slice none 0 0] 29) = wb at hb hs1 hr1 ⊢
  have HB := Lib.hid hb
  have HS1 := Lib.hid hs1
  have HR1 := Lib.hid hr1
  clear hb hs1 hr1
  obtain ⟨k0, k1, k2, k3, k4, k5⟩ := six_cells HS1.out (Below.refl _ _)
  have lk := HS1.out.lt
  have HP := Lib.hid (src_parts (qSourceR_mono _ _ HB.out _ _ HS.out))
  go_wp2_with fail
  with_reducible refine (refTwiceS_any A1 A2 A3 A4 A5 A6 n1 c1 n2 c2 n3 c3 n4 c4 n5 c5 n6 c6 s wb HP.out.1 HP.out.2.1 HP.out.2.2.1 HP.out.2.2.2.1 HP.out.2.2.2.2.1 HP.out.2.2.2.2.2).mono ?_
  obtain ⟨tw, htw⟩ : ∃ b, b = sourceTwice s := ⟨_, rfl⟩
  rw [← htw]
  rintro e w1 ⟨rfl, hb1⟩
  have HB1 := Lib.hid (below_step HB.out hb1)
  have HS2 := Lib.hid (HS1.out.below hb1 HS1.out.lt)
  have HR2 := Lib.hid (HR1.out.below hb1 HR1.out.lt)
  clear k0 k1 k2 k3 k4 k5 lk HP HB HS1 HR1 hb1
  cases tw with
  | true =>
    have HE : Hid (resolveP s = (111, noSource)) := Lib.hid (by rw [resolveP_test, ← htw, if_pos rfl])
    clear htw
    have z0 := HR2.out.cell 0
    have u0 := HR2.out.frozen 0
    have z1 := HR2.out.cell 1
    have u1 := HR2.out.frozen 1
    have z2 := HR2.out.cell 2
    have u2 := HR2.out.frozen 2
    have z3 := HR2.out.cell 3
    have u3 := HR2.out.frozen 3
    have z4 := HR2.out.cell 4
    have u4 := HR2.out.frozen 4
    have z5 := HR2.out.cell 5
    have u5 := HR2.out.frozen 5
    simp only [List.getElem?_toArray, List.getElem?_cons_zero, List.getElem?_cons_succ] at z0 z1 z2 z3 z4 z5
    have lz := HR2.out.lt
    go_wp2_with fail
    have hbl : Below w.heap.size w (w1.setCells (w.heap.size + 1) 0 [.slice none 0 0, .slice none 0 0, .slice none 0 0, .slice none 0 0, .slice none 0 0, .slice none 0 0]) := below_grown HB1.out (grown_setL _ _ _ (World.grownBy.refl _ _)) (by omega)
    refine ⟨rfl, .tuple #[.agg #[.slice none 0 0, .slice none 0 0, .slice none 0 0, .slice none 0 0, .slice none 0 0, .slice none 0 0], .int .i64 111], ?_, [.slice none 0 0, .slice none 0 0, .slice none 0 0, .slice none 0 0, .slice none 0 0, .slice none 0 0], by rw [HE.out], by rw [HE.out]; exact noSrc _, hbl⟩
    simp [results, Try.results13, go_sem, *]
  | false =>
    have HTW := Lib.hid htw
    clear htw
    obtain ⟨k0, k1, k2, k3, k4, k5⟩ := six_cells HS2.out (Below.refl _ _)
    have lk := HS2.out.lt
    go_upto_region 4 with fail
    obtain ⟨gx, hgx⟩ : ∃ g, g = w1.heap.size := ⟨_, rfl⟩
    have hal : Below w1.heap.size w1 (w1.alloc (.cells #[.slice A1 n1 c1, .slice A2 n2 c2, .slice A3 n3 c3, .slice A4 n4 c4, .slice A5 n5 c5, .slice A6 n6 c6] 29)) := below_one _ _
    have hx : Blk (w1.alloc (.cells #[.slice A1 n1 c1, .slice A2 n2 c2, .slice A3 n3 c3, .slice A4 n4 c4, .slice A5 n5 c5, .slice A6 n6 c6] 29)) w1.heap.size 29 #[.slice A1 n1 c1, .slice A2 n2 c2, .slice A3 n3 c3, .slice A4 n4 c4, .slice A5 n5 c5, .slice A6 n6 c6] := Blk.new _ _ _
    have hs3 := HS2.out.alloc (.cells #[.slice A1 n1 c1, .slice A2 n2 c2, .slice A3 n3 c3, .slice A4 n4 c4, .slice A5 n5 c5, .slice A6 n6 c6] 29)
    have hr3 := HR2.out.alloc (.cells #[.slice A1 n1 c1, .slice A2 n2 c2, .slice A3 n3 c3, .slice A4 n4 c4, .slice A5 n5 c5, .slice A6 n6 c6] 29)
    have hbx := below_step HB1.out hal
    have HGX0 : Hid (w.heap.size + 2 ≤ gx) := Lib.hid (by have := HR2.out.lt; omega)
    rw [← hgx] at hx ⊢
    generalize w1.alloc (.cells #[.slice A1 n1 c1, .slice A2 n2 c2, .slice A3 n3 c3, .slice A4 n4 c4, .slice A5 n5 c5, .slice A6 n6 c6] 29) = wx at hal hx hs3 hr3 hbx ⊢
    clear k0 k1 k2 k3 k4 k5 lk HS2 HR2 HB1 hal hgx
    have HZ : Hid (XZ w gx #[.slice A1 n1 c1, .slice A2 n2 c2, .slice A3 n3 c3, .slice A4 n4 c4, .slice A5 n5 c5, .slice A6 n6 c6] #[.slice A1 n1 c1, .slice A2 n2 c2, .slice A3 n3 c3, .slice A4 n4 c4, .slice A5 n5 c5, .slice A6 n6 c6] #[.slice none 0 0, .slice none 0 0, .slice none 0 0, .slice none 0 0, .slice none 0 0, .slice none 0 0] wx) := Lib.hid ⟨hbx, hs3, hr3, hx⟩
    clear hx hs3 hr3 hbx
    obtain ⟨k0, k1, k2, k3, k4, k5⟩ := six_cells HZ.out.s (Below.refl _ _)
    have lk := HZ.out.s.lt
    have HSX := Lib.hid (qSourceR_mono _ _ HZ.out.bl _ _ HS.out)
    go_wp2_with fail
    with_reducible refine (refScaled_any A1 A2 A3 A4 A5 A6 n1 c1 n2 c2 n3 c3 n4 c4 n5 c5 n6 c6 s wx HSX.out).mono ?_
    obtain ⟨tu, htu⟩ : ∃ b, b = (unitsP (unitNames s) s.units).isSome := ⟨_, rfl⟩
    rintro e wu ⟨U, um, uc, rfl, hus, hbu⟩
    rw [← htu]
    have HTU := Lib.hid htu
    obtain ⟨Mx, hMx⟩ : ∃ x, x = wx.heap.size := ⟨_, rfl⟩
    rw [← hMx] at hus
    have HUS := Lib.hid hus
    have HGM : Hid (gx < Mx) := Lib.hid (by rw [hMx]; exact HZ.out.x.lt)
    have HMU : Hid (Mx ≤ wu.heap.size) := Lib.hid (by rw [hMx]; exact hbu.size)
    have hz := HZ.out.below hbu
    clear HZ k0 k1 k2 k3 k4 k5 lk HSX htu hus hbu hMx
    have HZ := Lib.hid hz
    clear hz
    have HKU := Lib.hid (KU.refl Mx wu)
    have x1 := HZ.out.x.cell 1
    simp only [List.getElem?_toArray, List.getElem?_cons_zero, List.getElem?_cons_succ] at x1
    have y1 := HZ.out.x.frozen 1
    have lx := HZ.out.x.lt
    go_upto_region 6 with fail
    have hz := HZ.out.put HGX0.out 1 (.slice U um uc)
    simp only [List.setIfInBounds_toArray, List.set_cons_zero, List.set_cons_succ] at hz
    have hku := HKU.out.grown (grown_near (World.grownBy.refl wu (some gx)) 1 (.slice U um uc)) (fun r e => .inl (by injection e with e; have := HGM.out; omega))
    have hv1 : (wu.setCell ⟨gx, 1, none⟩ (.slice U um uc)).heap.size = wu.heap.size := by simp
    generalize wu.setCell ⟨gx, 1, none⟩ (.slice U um uc) = wv1 at hz hku hv1 ⊢
    have HV1 := Lib.hid hv1
    clear hv1
    clear HZ HKU x1 y1 lx
    have HZ := Lib.hid hz
    have HKU := Lib.hid hku
    clear hz hku
    have x2 := HZ.out.x.cell 2
    simp only [List.getElem?_toArray, List.getElem?_cons_zero, List.getElem?_cons_succ] at x2
    have y2 := HZ.out.x.frozen 2
    have lx := HZ.out.x.lt
    go_upto_region 7 with fail
    obtain ⟨b3, hb3⟩ : ∃ b, b = wv1.heap.size := ⟨_, rfl⟩
    have hg : wv1.grownBy ((wv1.setCell ⟨gx, 2, none⟩ (.slice (some ⟨wv1.heap.size, 0, none⟩) 0 0)).alloc (.cells #[] 40)) (some gx) := grown_trans (grown_near (World.grownBy.refl _ _) _ _) (grown_of_below (below_one _ _) _)
    have hz := (HZ.out.put HGX0.out 2 (.slice (some ⟨wv1.heap.size, 0, none⟩) 0 0)).below (below_one _ (.cells #[] 40))
    simp only [List.setIfInBounds_toArray, List.set_cons_zero, List.set_cons_succ] at hz
    have hku := HKU.out.grown hg (fun r e => .inl (by injection e with e; have := HGM.out; omega))
    have hp : Blk ((wv1.setCell ⟨gx, 2, none⟩ (.slice (some ⟨wv1.heap.size, 0, none⟩) 0 0)).alloc (.cells #[] 40)) wv1.heap.size 40 #[] := by simpa using Blk.new (wv1.setCell ⟨gx, 2, none⟩ (.slice (some ⟨wv1.heap.size, 0, none⟩) 0 0)) 40 #[]
    have hzs : ((wv1.setCell ⟨gx, 2, none⟩ (.slice (some ⟨wv1.heap.size, 0, none⟩) 0 0)).alloc (.cells #[] 40)).heap.size = wv1.heap.size + 1 := by simp
    rw [← hb3] at hz hku hp hzs hg  ⊢
    generalize (wv1.setCell ⟨gx, 2, none⟩ (.slice (some ⟨b3, 0, none⟩) 0 0)).alloc (.cells #[] 40) = wv2 at hz hku hp hzs  ⊢
    have HBQ3 : Hid (gx < b3 ∧ b3 = wv1.heap.size ∧ wv2.heap.size = b3 + 1) := Lib.hid ⟨by rw [hb3]; exact lx, hb3, hzs⟩
    clear HZ HKU x2 y2 lx hg hb3 hzs 
    have HZ := Lib.hid hz
    have HKU := Lib.hid hku
    have HP3 := Lib.hid hp
    clear hz hku hp 
    have x2 := HZ.out.x.cell 3
    simp only [List.getElem?_toArray, List.getElem?_cons_zero, List.getElem?_cons_succ] at x2
    have y2 := HZ.out.x.frozen 3
    have lx := HZ.out.x.lt
    go_upto_region 8 with fail
    obtain ⟨b4, hb4⟩ : ∃ b, b = wv2.heap.size := ⟨_, rfl⟩
    have hg : wv2.grownBy ((wv2.setCell ⟨gx, 3, none⟩ (.slice (some ⟨wv2.heap.size, 0, none⟩) 0 0)).alloc (.cells #[] 56)) (some gx) := grown_trans (grown_near (World.grownBy.refl _ _) _ _) (grown_of_below (below_one _ _) _)
    have hz := (HZ.out.put HGX0.out 3 (.slice (some ⟨wv2.heap.size, 0, none⟩) 0 0)).below (below_one _ (.cells #[] 56))
    simp only [List.setIfInBounds_toArray, List.set_cons_zero, List.set_cons_succ] at hz
    have hku := HKU.out.grown hg (fun r e => .inl (by injection e with e; have := HGM.out; omega))
    have hp : Blk ((wv2.setCell ⟨gx, 3, none⟩ (.slice (some ⟨wv2.heap.size, 0, none⟩) 0 0)).alloc (.cells #[] 56)) wv2.heap.size 56 #[] := by simpa using Blk.new (wv2.setCell ⟨gx, 3, none⟩ (.slice (some ⟨wv2.heap.size, 0, none⟩) 0 0)) 56 #[]
    have hzs : ((wv2.setCell ⟨gx, 3, none⟩ (.slice (some ⟨wv2.heap.size, 0, none⟩) 0 0)).alloc (.cells #[] 56)).heap.size = wv2.heap.size + 1 := by simp
    have hp3 := Blk.grown HP3.out hg (fun e => by injection e with e; have := HBQ3.out; omega)
    rw [← hb4] at hz hku hp hzs hg hp3 ⊢
    generalize (wv2.setCell ⟨gx, 3, none⟩ (.slice (some ⟨b4, 0, none⟩) 0 0)).alloc (.cells #[] 56) = wv3 at hz hku hp hzs hp3 ⊢
    have HBQ4 : Hid (gx < b4 ∧ b4 = wv2.heap.size ∧ wv3.heap.size = b4 + 1) := Lib.hid ⟨by rw [hb4]; exact lx, hb4, hzs⟩
    clear HZ HKU x2 y2 lx hg hb4 hzs HP3
    have HZ := Lib.hid hz
    have HKU := Lib.hid hku
    have HP4 := Lib.hid hp
    have HP3 := Lib.hid hp3
    clear hz hku hp hp3
    have x2 := HZ.out.x.cell 4
    simp only [List.getElem?_toArray, List.getElem?_cons_zero, List.getElem?_cons_succ] at x2
    have y2 := HZ.out.x.frozen 4
    have lx := HZ.out.x.lt
    go_upto_region 9 with fail
    obtain ⟨b5, hb5⟩ : ∃ b, b = wv3.heap.size := ⟨_, rfl⟩
    have hg : wv3.grownBy ((wv3.setCell ⟨gx, 4, none⟩ (.slice (some ⟨wv3.heap.size, 0, none⟩) 0 0)).alloc (.cells #[] 69)) (some gx) := grown_trans (grown_near (World.grownBy.refl _ _) _ _) (grown_of_below (below_one _ _) _)
    have hz := (HZ.out.put HGX0.out 4 (.slice (some ⟨wv3.heap.size, 0, none⟩) 0 0)).below (below_one _ (.cells #[] 69))
    simp only [List.setIfInBounds_toArray, List.set_cons_zero, List.set_cons_succ] at hz
    have hku := HKU.out.grown hg (fun r e => .inl (by injection e with e; have := HGM.out; omega))
    have hp : Blk ((wv3.setCell ⟨gx, 4, none⟩ (.slice (some ⟨wv3.heap.size, 0, none⟩) 0 0)).alloc (.cells #[] 69)) wv3.heap.size 69 #[] := by simpa using Blk.new (wv3.setCell ⟨gx, 4, none⟩ (.slice (some ⟨wv3.heap.size, 0, none⟩) 0 0)) 69 #[]
    have hzs : ((wv3.setCell ⟨gx, 4, none⟩ (.slice (some ⟨wv3.heap.size, 0, none⟩) 0 0)).alloc (.cells #[] 69)).heap.size = wv3.heap.size + 1 := by simp
    have hp3 := Blk.grown HP3.out hg (fun e => by injection e with e; have := HBQ3.out; omega)
    have hp4 := Blk.grown HP4.out hg (fun e => by injection e with e; have := HBQ4.out; omega)
    rw [← hb5] at hz hku hp hzs hg hp3 hp4 ⊢
    generalize (wv3.setCell ⟨gx, 4, none⟩ (.slice (some ⟨b5, 0, none⟩) 0 0)).alloc (.cells #[] 69) = wv4 at hz hku hp hzs hp3 hp4 ⊢
    have HBQ5 : Hid (gx < b5 ∧ b5 = wv3.heap.size ∧ wv4.heap.size = b5 + 1) := Lib.hid ⟨by rw [hb5]; exact lx, hb5, hzs⟩
    clear HZ HKU x2 y2 lx hg hb5 hzs HP3 HP4
    have HZ := Lib.hid hz
    have HKU := Lib.hid hku
    have HP5 := Lib.hid hp
    have HP3 := Lib.hid hp3
    have HP4 := Lib.hid hp4
    clear hz hku hp hp3 hp4
    have x2 := HZ.out.x.cell 5
    simp only [List.getElem?_toArray, List.getElem?_cons_zero, List.getElem?_cons_succ] at x2
    have y2 := HZ.out.x.frozen 5
    have lx := HZ.out.x.lt
    go_upto_region 10 with fail
    obtain ⟨b6, hb6⟩ : ∃ b, b = wv4.heap.size := ⟨_, rfl⟩
    have hg : wv4.grownBy ((wv4.setCell ⟨gx, 5, none⟩ (.slice (some ⟨wv4.heap.size, 0, none⟩) 0 0)).alloc (.cells #[] 74)) (some gx) := grown_trans (grown_near (World.grownBy.refl _ _) _ _) (grown_of_below (below_one _ _) _)
    have hz := (HZ.out.put HGX0.out 5 (.slice (some ⟨wv4.heap.size, 0, none⟩) 0 0)).below (below_one _ (.cells #[] 74))
    simp only [List.setIfInBounds_toArray, List.set_cons_zero, List.set_cons_succ] at hz
    have hku := HKU.out.grown hg (fun r e => .inl (by injection e with e; have := HGM.out; omega))
    have hp : Blk ((wv4.setCell ⟨gx, 5, none⟩ (.slice (some ⟨wv4.heap.size, 0, none⟩) 0 0)).alloc (.cells #[] 74)) wv4.heap.size 74 #[] := by simpa using Blk.new (wv4.setCell ⟨gx, 5, none⟩ (.slice (some ⟨wv4.heap.size, 0, none⟩) 0 0)) 74 #[]
    have hzs : ((wv4.setCell ⟨gx, 5, none⟩ (.slice (some ⟨wv4.heap.size, 0, none⟩) 0 0)).alloc (.cells #[] 74)).heap.size = wv4.heap.size + 1 := by simp
    have hp3 := Blk.grown HP3.out hg (fun e => by injection e with e; have := HBQ3.out; omega)
    have hp4 := Blk.grown HP4.out hg (fun e => by injection e with e; have := HBQ4.out; omega)
    have hp5 := Blk.grown HP5.out hg (fun e => by injection e with e; have := HBQ5.out; omega)
    rw [← hb6] at hz hku hp hzs hg hp3 hp4 hp5 ⊢
    generalize (wv4.setCell ⟨gx, 5, none⟩ (.slice (some ⟨b6, 0, none⟩) 0 0)).alloc (.cells #[] 74) = wv5 at hz hku hp hzs hp3 hp4 hp5 ⊢
    have HBQ6 : Hid (gx < b6 ∧ b6 = wv4.heap.size ∧ wv5.heap.size = b6 + 1) := Lib.hid ⟨by rw [hb6]; exact lx, hb6, hzs⟩
    clear HZ HKU x2 y2 lx hg hb6 hzs HP3 HP4 HP5
    have HZ := Lib.hid hz
    have HKU := Lib.hid hku
    have HP6 := Lib.hid hp
    have HP3 := Lib.hid hp3
    have HP4 := Lib.hid hp4
    have HP5 := Lib.hid hp5
    clear hz hku hp hp3 hp4 hp5
    have q3 := HBQ3.out
    have q4 := HBQ4.out
    have q5 := HBQ5.out
    have q6 := HBQ6.out
    have qv := HV1.out
    have qm := HMU.out
    have HBB : Hid (b4 = b3 + 1 ∧ b5 = b3 + 2 ∧ b6 = b3 + 3) := Lib.hid (by omega)
    have HGX : Hid (w.heap.size + 2 ≤ gx ∧ gx < b3) := Lib.hid ⟨HGX0.out, by omega⟩
    have HWU : Hid (wu.heap.size ≤ b3) := Lib.hid (by omega)
    obtain ⟨W3, hW3⟩ : ∃ x, x = wv5.heap.size := ⟨_, rfl⟩
    have HBW3 : Hid (b6 < W3 ∧ b3 ≤ b3 ∧ b3 ≤ b6 ∧ gx < b3) := Lib.hid (by omega)
    have HWJ : Hid (W3 ≤ wv5.heap.size) := Lib.hid (by omega)
    obtain ⟨SS, hSS⟩ : ∃ x, x = ([w.heap.size + 1, gx, b3, b4, b5, b6] : List Nat) := ⟨_, rfl⟩
    have HS0 : Hid (∀ b ∈ ([w.heap.size + 1, gx, b3, b4, b5, b6] : List Nat), b ∈ SS) := Lib.hid (fun b hb => by rw [hSS]; exact hb)
    have HSB : Hid (∀ b ∈ SS, w.heap.size + 1 ≤ b ∧ b < wv5.heap.size) := Lib.hid (fun b hb => by
      have h1 := HGX0.out
      rw [hSS] at hb
      simp only [List.mem_cons, List.not_mem_nil, or_false] at hb
      omega)
    have HRWN : Hid (RowS SS b3 40 6 qSchemaR (.slice (some ⟨b3, 0, none⟩) 0 0) ((s.schemas.take 0).map (schemaQ s)) wv5) := Lib.hid (RowS.lit (S := SS) HP3.out (HS0.out b3 (by simp)))
    have HRW := Lib.hid HRWN.out
    have HOC : Hid (∀ r, Value.ownBlock (.slice (some ⟨b3, 0, none⟩) 0 0) = some r → r = b3 ∨ W3 ≤ r) := Lib.hid (fun r e => by
      have e2 : some b3 = some r := e
      injection e2 with e2
      exact .inl e2.symm)
    clear hSS hW3 HRWN HP3 q3 q4 q5 q6 qv qm HBQ3 HBQ4 HBQ5 HBQ6 HV1
    obtain ⟨obp, hobp⟩ : ∃ x, x = tu := ⟨_, rfl⟩
    rw [← hobp] at HTU ⊢
    clear hobp
    go_wp2_with fail
    go_loopg [6, 7] n3 (fun q o i wr => ∃ (k : Nat) (S : List Nat) (vA : Option Addr) (vm vc : Nat), k ≤ n3 ∧ q = n3 - k ∧ o = .bool (obp && (s.schemas.take k).all (schemaOk s)) ∧ i = .int .i64 (k : Int) ∧ XZ w gx #[.slice A1 n1 c1, .slice A2 n2 c2, .slice A3 n3 c3, .slice A4 n4 c4, .slice A5 n5 c5, .slice A6 n6 c6] #[.slice A1 n1 c1, .slice U um uc, .slice vA vm vc, .slice (some ⟨b4, 0, none⟩) 0 0, .slice (some ⟨b5, 0, none⟩) 0 0, .slice (some ⟨b6, 0, none⟩) 0 0] #[.slice none 0 0, .slice none 0 0, .slice none 0 0, .slice none 0 0, .slice none 0 0, .slice none 0 0] wr ∧ KU Mx wu wr ∧ (∀ b ∈ S, w.heap.size + 1 ≤ b ∧ b < wr.heap.size) ∧ (∀ b ∈ ([w.heap.size + 1, gx, b3, b4, b5, b6] : List Nat), b ∈ S) ∧ RowS S b3 40 6 qSchemaR (.slice vA vm vc) ((s.schemas.take k).map (schemaQ s)) wr ∧ (∀ r, Value.ownBlock (.slice vA vm vc) = some r → r = b3 ∨ W3 ≤ r) ∧ W3 ≤ wr.heap.size ∧ Blk wr b4 56 #[] ∧ Blk wr b5 69 #[] ∧ Blk wr b6 74 #[])
    case atStart => exact ⟨0, SS, _, _, _, Nat.zero_le _, rfl, by rw [List.take_zero, List.all_nil, Bool.and_true], rfl, HZ.out, HKU.out, HSB.out, HS0.out, HRW.out, HOC.out, HWJ.out, HP4.out, HP5.out, HP6.out⟩
    case round =>
      clear HZ HKU HSB HS0 HRW HOC HWJ HP4 HP5 HP6
      obtain ⟨k, S, vA, vm, vc, hk, hq, rfl, rfl, hz, hku, hsb, hs0, hrw, hoc, hwj, hp4, hp5, hp6⟩ := hrel
      have HQ := Lib.hid hq
      clear hq
      obtain ⟨ob, hob⟩ : ∃ b, b = (obp && (s.schemas.take k).all (schemaOk s)) := ⟨_, rfl⟩
      rw [← hob]
      have HOB := Lib.hid hob
      clear hob
      have HZ := Lib.hid hz
      have HKU := Lib.hid hku
      have HSB := Lib.hid hsb
      have HS0 := Lib.hid hs0
      have HRW := Lib.hid hrw
      have HOC := Lib.hid hoc
      have HWJ := Lib.hid hwj
      have HP4 := Lib.hid hp4
      have HP5 := Lib.hid hp5
      have HP6 := Lib.hid hp6
      clear hz hku hsb hs0 hrw hoc hwj hp4 hp5 hp6
      have kc := HZ.out.s.cell 2
      simp only [List.getElem?_toArray, List.getElem?_cons_zero, List.getElem?_cons_succ] at kc
      have lk := HZ.out.s.lt
      by_cases hlt : k < n3
      · have hkn : (k : Int) < (n3 : Int) := by omega
        have hk0 : (0 : Int) ≤ (k : Int) := by omega
        obtain ⟨y, hm⟩ : ∃ y, s.schemas[k]? = some y := ⟨s.schemas[k]'(by have := HL3.out; omega), List.getElem?_eq_getElem _⟩
        have HM := Lib.hid hm
        clear hm kc lk
        have HSR : Hid (qSourceR (mask w.heap.size wr.heap.size wr) [.slice A1 n1 c1, .slice A2 n2 c2, .slice A3 n3 c3, .slice A4 n4 c4, .slice A5 n5 c5, .slice A6 n6 c6] s) := Lib.hid (qSourceR_mono _ _ (mask_old w HZ.out.bl (Nat.le_refl _)) _ _ HS.out)
        obtain ⟨k0, k1, k2, k3, k4, k5⟩ := six_cells HZ.out.s (Below.refl _ _)
        have lk := HZ.out.s.lt
        obtain ⟨tk, htk⟩ : ∃ b, b = schemaOk s y := ⟨_, rfl⟩
        have HCON := Lib.hid (refSchemaX_any A1 A2 A3 A4 A5 A6 n1 c1 n2 c2 n3 c3 n4 c4 n5 c5 n6 c6 k w.heap.size s y wr HZ.out.bl.size HSR.out HM.out)
        go_wp2_with fail
        refine HCON.out.mono ?_
        rw [← htk]
        have HTK := Lib.hid htk
        clear HCON htk
        rintro e wd ⟨cs, rfl, hel, hbd⟩
        obtain ⟨E1, e1, f1, E2, e2, f2, rfl, hf1, hf2⟩ := hel
        have hel : qSchemaR (mask w.heap.size wr.heap.size wd) [.string (schemaQ s y).name, .string (schemaQ s y).by_, .int .i64 (schemaQ s y).issuer, .int .i64 (schemaQ s y).version, .slice E1 e1 f1, .slice E2 e2 f2] (schemaQ s y) := ⟨E1, e1, f1, E2, e2, f2, rfl, hf1, hf2⟩
        have hel2 : qSchemaR (hideL S wd) [.string (schemaQ s y).name, .string (schemaQ s y).by_, .int .i64 (schemaQ s y).issuer, .int .i64 (schemaQ s y).version, .slice E1 e1 f1, .slice E2 e2 f2] (schemaQ s y) := new_hideL qSchemaR_unm (fun b hb => ⟨by have := (HSB.out b hb).1; omega, (HSB.out b hb).2⟩) hel
        have HEL0 := Lib.hid hel2
        have HBD := Lib.hid hbd
        clear hel hel2 hf1 hf2 hbd k0 k1 k2 k3 k4 k5 lk HSR
        go_upto_region 14 with fail
        have hal : Below wd.heap.size wd (wd.alloc (.cells #[.string (schemaQ s y).name, .string (schemaQ s y).by_, .int .i64 (schemaQ s y).issuer, .int .i64 (schemaQ s y).version, .slice E1 e1 f1, .slice E2 e2 f2] 40)) := below_one _ _
        have hy : Blk (wd.alloc (.cells #[.string (schemaQ s y).name, .string (schemaQ s y).by_, .int .i64 (schemaQ s y).issuer, .int .i64 (schemaQ s y).version, .slice E1 e1 f1, .slice E2 e2 f2] 40)) wd.heap.size 40 #[.string (schemaQ s y).name, .string (schemaQ s y).by_, .int .i64 (schemaQ s y).issuer, .int .i64 (schemaQ s y).version, .slice E1 e1 f1, .slice E2 e2 f2] := Blk.new _ _ _
        obtain ⟨gy, hgy⟩ : ∃ g, g = wd.heap.size := ⟨_, rfl⟩
        rw [← hgy] at hy ⊢
        have hel3 : qSchemaR (hideL S (wd.alloc (.cells #[.string (schemaQ s y).name, .string (schemaQ s y).by_, .int .i64 (schemaQ s y).issuer, .int .i64 (schemaQ s y).version, .slice E1 e1 f1, .slice E2 e2 f2] 40))) [.string (schemaQ s y).name, .string (schemaQ s y).by_, .int .i64 (schemaQ s y).issuer, .int .i64 (schemaQ s y).version, .slice E1 e1 f1, .slice E2 e2 f2] (schemaQ s y) := qSchemaR_mono _ _ (hideL_below hal) _ _ HEL0.out
        generalize wd.alloc (.cells #[.string (schemaQ s y).name, .string (schemaQ s y).by_, .int .i64 (schemaQ s y).issuer, .int .i64 (schemaQ s y).version, .slice E1 e1 f1, .slice E2 e2 f2] 40) = wy at hal hy hel3 ⊢
        have HY := Lib.hid hy
        have HEL := Lib.hid hel3
        have hbz : Below wr.heap.size wr wy := below_step HBD.out hal
        clear hy hel3 hal hgy HEL0 HBD
        have hz := HZ.out.below hbz
        have hku := HKU.out.below hbz
        have hsb : ∀ b ∈ S, w.heap.size + 1 ≤ b ∧ b < wy.heap.size := fun b hb' => ⟨(HSB.out b hb').1, Nat.lt_of_lt_of_le (HSB.out b hb').2 (hbz).size⟩
        have hrw := HRW.out.below qSchemaR_mono hbz
        have hwj := Nat.le_trans HWJ.out (hbz).size
        have hp4 := HP4.out.below hbz HP4.out.lt
        have hp5 := HP5.out.below hbz HP5.out.lt
        have hp6 := HP6.out.below hbz HP6.out.lt
        clear HZ HKU HSB HRW HWJ HP4 HP5 HP6
        have HZ := Lib.hid hz
        have HKU := Lib.hid hku
        have HSB := Lib.hid hsb
        have HRW := Lib.hid hrw
        have HWJ := Lib.hid hwj
        have HP4 := Lib.hid hp4
        have HP5 := Lib.hid hp5
        have HP6 := Lib.hid hp6
        clear hz hku hsb hrw hwj hp4 hp5 hp6
        clear hbz
        go_cut [6] from 51 to 54 (fun v wx => v = .bool (ob && tk) ∧ wx = wy)
        case first =>
          · cases ob with
            | false =>
              go_wp2_with fail
              go_meet
              exact ⟨rfl, rfl⟩
            | true =>
              cases tk with
              | false =>
                go_wp2_with fail
                go_meet
                exact ⟨rfl, rfl⟩
              | true =>
                go_wp2_with fail
                go_meet
                exact ⟨rfl, rfl⟩
        case rest =>
          obtain ⟨rfl, rfl⟩ := hcut
          obtain ⟨wy, rfl⟩ : ∃ x, x = wc := ⟨_, rfl⟩
          obtain ⟨ob1, hob1⟩ : ∃ b, b = (ob && tk) := ⟨_, rfl⟩
          rw [← hob1]
          have Hob1 := Lib.hid hob1
          clear hob1
          obtain ⟨co, hor, hin, hco⟩ := HRW.out
          have HOR := Lib.hid hor
          have HIN := Lib.hid hin
          have HCO := Lib.hid hco
          clear hor hin hco
          have HLN : Hid (((s.schemas.take k).map (schemaQ s)).length = k) := Lib.hid (by have := HL3.out; simp; omega)
          have hor2 : wy.ownsRow b3 40 6 (.slice vA vm vc) k co := by have := HOR.out; rwa [HLN.out] at this
          have HOR2 := Lib.hid hor2
          clear hor2
          have q2 := HZ.out.x.cell 2
          simp only [List.getElem?_toArray, List.getElem?_cons_zero, List.getElem?_cons_succ] at q2
          have lx := HZ.out.x.lt
          have y0 := HY.out.cell 0
          have y1 := HY.out.cell 1
          have y2 := HY.out.cell 2
          have y3 := HY.out.cell 3
          have y4 := HY.out.cell 4
          have y5 := HY.out.cell 5
          simp only [List.getElem?_toArray, List.getElem?_cons_zero, List.getElem?_cons_succ] at y0 y1 y2 y3 y4 y5
          have ly := HY.out.lt
          go_wp2_with (at_builtin; refine wpList_append_own_at _ rfl (.tmp 56) (.tmp 58) 24 rfl b3 40 j3 _ 6 96 Try.underlying24 I3.out Z3.out.1 Z3.out.2.1 Z3.out.2.2 rfl (by decide) (.slice vA vm vc) k co rfl (HOR2.out.alloc _) ⟨wy.heap.size, 0, none⟩ 1 1 [.string (schemaQ s y).name, .string (schemaQ s y).by_, .int .i64 (schemaQ s y).issuer, .int .i64 (schemaQ s y).version, .slice E1 e1 f1, .slice E2 e2 f2] rfl rfl (rf_news (Blk.new _ _ _)) (by intro x hx; simp only [List.mem_cons, List.not_mem_nil, or_false] at hx; rcases hx with rfl | rfl | rfl | rfl | rfl | rfl <;> rfl) (by have := HNB3.out; unfold maxLen; omega) (by have := HNB3.out; omega) (by have := HWJ.out; have := HBW3.out; simp; omega) ?_
                       intro v' W9 hown hgrow hnil hat
                       obtain ⟨vA', vm', vc', rfl⟩ := own_form hown
                       have hb8 : Below wy.heap.size wy (wy.alloc (.cells #[.string (schemaQ s y).name, .string (schemaQ s y).by_, .int .i64 (schemaQ s y).issuer, .int .i64 (schemaQ s y).version, .slice E1 e1 f1, .slice E2 e2 f2] 40)) := below_one _ _
                       have hz8 : (wy.alloc (.cells #[.string (schemaQ s y).name, .string (schemaQ s y).by_, .int .i64 (schemaQ s y).issuer, .int .i64 (schemaQ s y).version, .slice E1 e1 f1, .slice E2 e2 f2] 40)).heap.size = wy.heap.size + 1 := by simp
                       obtain ⟨S', hs1, hs2, hrow9⟩ := RowS.push (lo := w.heap.size + 1) HIN.out (HCO.out.mono qSchemaR_mono (hideL_below hb8)) qSchemaR_mono (fun b hb => ⟨(HSB.out b hb).1, by have := (HSB.out b hb).2; omega⟩) (by have := HZ.out.x.lt; have := HGX.out; omega) (by rw [HLN.out]; exact hown) hgrow hat (qSchemaR_mono _ _ (hideL_below hb8) _ _ HEL.out) rfl
                       rw [map_snoc HM.out] at hrow9
                       have hz9 := (HZ.out.below hb8).far hgrow (fun r e => by have := HOC.out r e; have := HGX.out; have := HBW3.out; omega)
                       have hk9 := (HKU.out.below hb8).grown hgrow (fun r e => .inr (by have := HOC.out r e; have := HBW3.out; have := HWU.out; omega))
                       have ho9 : ∀ r, Value.ownBlock (.slice vA' vm' vc') = some r → r = b3 ∨ W3 ≤ r := fun r e => by
                         rcases hat with h | h
                         · exact HOC.out r (h ▸ e)
                         · have e2 := h.symm.trans e
                           injection e2 with e2
                           have := HWJ.out
                           omega
                       have hw9 : W3 ≤ W9.heap.size := by have := hgrow.size; have := HWJ.out; omega
                       have h09 : ∀ b ∈ ([w.heap.size + 1, gx, b3, b4, b5, b6] : List Nat), b ∈ S' := fun b hb => (hs1 b (by have := (HSB.out b (HS0.out b hb)).2; omega)).2 (HS0.out b hb)
                       have hp4 := Blk.grown (HP4.out.alloc _) hgrow (fun e => by have := HOC.out _ e.symm; have := HBW3.out; have := HBB.out; omega)
                       have hp5 := Blk.grown (HP5.out.alloc _) hgrow (fun e => by have := HOC.out _ e.symm; have := HBW3.out; have := HBB.out; omega)
                       have hp6 := Blk.grown (HP6.out.alloc _) hgrow (fun e => by have := HOC.out _ e.symm; have := HBW3.out; have := HBB.out; omega)
                       have q9 := hz9.x.cell 2
                       have f9 := hz9.x.frozen 2
                       simp only [List.getElem?_toArray, List.getElem?_cons_zero, List.getElem?_cons_succ] at q9
                       have l9 := hz9.x.lt
                       have HS29 := Lib.hid hs2
                       have HRW9 := Lib.hid hrow9
                       have HZ9 := Lib.hid hz9
                       have HK9 := Lib.hid hk9
                       have HO9 := Lib.hid ho9
                       have HW9 := Lib.hid hw9
                       have H09 := Lib.hid h09
                       have HP94 := Lib.hid hp4
                       have HP95 := Lib.hid hp5
                       have HP96 := Lib.hid hp6
                       clear hown hgrow hnil hat hb8 hz8 hs1 hs2 hrow9 hz9 hk9 ho9 hw9 h09  hp4 hp5 hp6)
          go_roundg (n3 - (k + 1))
          case measure => have := HQ.out; omega
          case rel =>
            have hg9 : W9.grownBy (W9.setCell ⟨gx, 2, none⟩ (.slice vA' vm' vc')) (some gx) := grown_near (World.grownBy.refl _ _) _ _
            have hgs : gx ∈ S' := H09.out gx (by simp)
            have hgr : ∀ r, some gx = some r → r < W9.heap.size → r ∈ S' := fun r e _ => by injection e with e; rw [← e]; exact hgs
            have hsz : (W9.setCell ⟨gx, 2, none⟩ (.slice vA' vm' vc')).heap.size = W9.heap.size := by simp
            refine ⟨k + 1, S', vA', vm', vc', by omega, rfl, by rw [all_snoc HM.out, ← Bool.and_assoc, ← HOB.out, Hob1.out, HTK.out], by go_num, ?_, HK9.out.grown hg9 (fun r e => .inl (by injection e with e; have := HGM.out; omega)), fun b hb => by rw [hsz]; exact HS29.out b hb, H09.out, HRW9.out.kept qSchemaR_mono hg9 hgr (fun r e e2 => by injection e with e; have := HO9.out r e2; have := HBW3.out; have := HGX.out; omega) (fun _ _ => Iff.rfl), HO9.out, by rw [hsz]; exact HW9.out, Blk.grown HP94.out hg9 (fun e => by injection e with e; have := HBB.out; have := HBW3.out; omega), Blk.grown HP95.out hg9 (fun e => by injection e with e; have := HBB.out; have := HBW3.out; omega), Blk.grown HP96.out hg9 (fun e => by injection e with e; have := HBB.out; have := HBW3.out; omega)⟩
            have := HZ9.out.put HGX.out.1 2 (.slice vA' vm' vc')
            simpa only [List.setIfInBounds_toArray, List.set_cons_zero, List.set_cons_succ] using this
      · have hke : k = s.schemas.length := by have := HL3.out; omega
        have HOK : Hid (ob = (obp && s.schemas.all (schemaOk s))) := Lib.hid (by rw [HOB.out, hke, List.take_length])
        have hrw : RowS S b3 40 6 qSchemaR (.slice vA vm vc) (s.schemas.map (schemaQ s)) wr := by have := HRW.out; rwa [hke, List.take_length] at this
        clear HRW hke HOB HQ
        have HRW := Lib.hid hrw
        clear hrw
        go_upto_region 17 with fail
        clear kc lk hk hlt
        obtain ⟨obq, hobq⟩ : ∃ x, x = ob := ⟨_, rfl⟩
        rw [← hobq] at HOK ⊢
        have HOK3 := Lib.hid HOK.out
        clear hobq HOK
        obtain ⟨obp, hobp⟩ : ∃ x, x = obq := ⟨_, rfl⟩
        rw [← hobp] at HOK3 ⊢
        clear hobp
        obtain ⟨V3, rfl⟩ : ∃ x, x = vA := ⟨_, rfl⟩
        obtain ⟨l3, rfl⟩ : ∃ x, x = vm := ⟨_, rfl⟩
        obtain ⟨g3, rfl⟩ : ∃ x, x = vc := ⟨_, rfl⟩
        obtain ⟨SS, rfl⟩ : ∃ x, x = S := ⟨_, rfl⟩
        obtain ⟨wl, rfl⟩ : ∃ x, x = wr := ⟨_, rfl⟩
        obtain ⟨kk3, rfl⟩ : ∃ x, x = k := ⟨_, rfl⟩
        obtain ⟨W4, hW4⟩ : ∃ x, x = wl.heap.size := ⟨_, rfl⟩
        have HD3 := Lib.hid HRW.out
        have HNE3 : Hid (∀ r, Value.ownBlock (.slice V3 l3 g3) = some r → r < W4 ∧ gx ≠ r ∧ r ≠ b4 ∧ r ≠ b5 ∧ r ≠ b6) := Lib.hid (fun r e => by
          obtain ⟨cs, h1, _⟩ := HRW.out
          have h2 := (h1.lt r e).2
          have := HOC.out r e
          have := HBB.out
          have := HBW3.out
          refine ⟨by omega, by omega, by omega, by omega, by omega⟩)
        have HBW4 : Hid (b6 < W4 ∧ b3 ≤ b4 ∧ b4 ≤ b6 ∧ gx < b4) := Lib.hid (by have := HBB.out; have := HBW3.out; have := HWJ.out; omega)
        have HRWN : Hid (RowS SS b4 56 5 qRuleR (.slice (some ⟨b4, 0, none⟩) 0 0) ((s.rules.take 0).map (ruleQ s)) wl) := Lib.hid (RowS.lit HP4.out (HS0.out b4 (by simp)))
        clear HRW HOC HWJ HP4
        have HRW := Lib.hid HRWN.out
        have HOC : Hid (∀ r, Value.ownBlock (.slice (some ⟨b4, 0, none⟩) 0 0) = some r → r = b4 ∨ W4 ≤ r) := Lib.hid (fun r e => by
          have e2 : some b4 = some r := e
          injection e2 with e2
          exact .inl e2.symm)
        have HWJ : Hid (W4 ≤ wl.heap.size) := Lib.hid (by omega)
        clear HRWN hW4
        go_loopg [6, 10] n4 (fun q o i wr => ∃ (k : Nat) (S : List Nat) (vA : Option Addr) (vm vc : Nat), k ≤ n4 ∧ q = n4 - k ∧ o = .bool (obp && (s.rules.take k).all (ruleOk s)) ∧ i = .int .i64 (k : Int) ∧ XZ w gx #[.slice A1 n1 c1, .slice A2 n2 c2, .slice A3 n3 c3, .slice A4 n4 c4, .slice A5 n5 c5, .slice A6 n6 c6] #[.slice A1 n1 c1, .slice U um uc, .slice V3 l3 g3, .slice vA vm vc, .slice (some ⟨b5, 0, none⟩) 0 0, .slice (some ⟨b6, 0, none⟩) 0 0] #[.slice none 0 0, .slice none 0 0, .slice none 0 0, .slice none 0 0, .slice none 0 0, .slice none 0 0] wr ∧ KU Mx wu wr ∧ (∀ b ∈ S, w.heap.size + 1 ≤ b ∧ b < wr.heap.size) ∧ (∀ b ∈ ([w.heap.size + 1, gx, b3, b4, b5, b6] : List Nat), b ∈ S) ∧ RowS S b4 56 5 qRuleR (.slice vA vm vc) ((s.rules.take k).map (ruleQ s)) wr ∧ (∀ r, Value.ownBlock (.slice vA vm vc) = some r → r = b4 ∨ W4 ≤ r) ∧ W4 ≤ wr.heap.size ∧ RowS S b3 40 6 qSchemaR (.slice V3 l3 g3) (s.schemas.map (schemaQ s)) wr ∧ Blk wr b5 69 #[] ∧ Blk wr b6 74 #[])
        case atStart => exact ⟨0, SS, _, _, _, Nat.zero_le _, rfl, by rw [List.take_zero, List.all_nil, Bool.and_true], rfl, HZ.out, HKU.out, HSB.out, HS0.out, HRW.out, HOC.out, HWJ.out, HD3.out, HP5.out, HP6.out⟩
        case round =>
          clear HZ HKU HSB HS0 HRW HOC HWJ HD3 HP5 HP6
          obtain ⟨k, S, vA, vm, vc, hk, hq, rfl, rfl, hz, hku, hsb, hs0, hrw, hoc, hwj, hd3, hp5, hp6⟩ := hrel
          have HQ := Lib.hid hq
          clear hq
          obtain ⟨ob, hob⟩ : ∃ b, b = (obp && (s.rules.take k).all (ruleOk s)) := ⟨_, rfl⟩
          rw [← hob]
          have HOB := Lib.hid hob
          clear hob
          have HZ := Lib.hid hz
          have HKU := Lib.hid hku
          have HSB := Lib.hid hsb
          have HS0 := Lib.hid hs0
          have HRW := Lib.hid hrw
          have HOC := Lib.hid hoc
          have HWJ := Lib.hid hwj
          have HD3 := Lib.hid hd3
          have HP5 := Lib.hid hp5
          have HP6 := Lib.hid hp6
          clear hz hku hsb hs0 hrw hoc hwj hd3 hp5 hp6
          have kc := HZ.out.s.cell 3
          simp only [List.getElem?_toArray, List.getElem?_cons_zero, List.getElem?_cons_succ] at kc
          have lk := HZ.out.s.lt
          by_cases hlt : k < n4
          · have hkn : (k : Int) < (n4 : Int) := by omega
            have hk0 : (0 : Int) ≤ (k : Int) := by omega
            obtain ⟨y, hm⟩ : ∃ y, s.rules[k]? = some y := ⟨s.rules[k]'(by have := HL4.out; omega), List.getElem?_eq_getElem _⟩
            have HM := Lib.hid hm
            clear hm kc lk
            have HPW := Lib.hid (src_parts (qSourceR_mono _ _ HZ.out.bl _ _ HS.out))
            obtain ⟨b, off, y', B1, m1, d1, B2, m2, d2, B3, m3, d3, rfl, hbl, hy', s0, s1, s2, s3, s4, hz1, hz2, hz3⟩ := qRule_at (HPW.out.2.2.2.1.1) hlt
            obtain rfl : y = y' := by have := HM.out; rw [hy'] at this; exact (Option.some.inj this).symm
            have HPX : Hid (∀ X, Below wr.heap.size wr X → qSourceR X [.slice A1 n1 c1, .slice A2 n2 c2, .slice A3 n3 c3, .slice (some ⟨b, off, none⟩) n4 c4, .slice A5 n5 c5, .slice A6 n6 c6] s) := Lib.hid (fun X hX => qSourceR_mono _ _ (below_step HZ.out.bl hX) _ _ HS.out)
            have HEX : Hid (∀ X, Below wr.heap.size wr X → SlB 8 96 qFromR X (.slice B1 m1 d1) y.froms ∧ SlB 11 120 qAtomR X (.slice B2 m2 d2) y.where_ ∧ SlB 7 80 qSetR X (.slice B3 m3 d3) y.sets) := Lib.hid (fun X hX => ⟨hz1.mono qFromR_mono hX, hz2.mono qAtomR_mono hX, hz3.mono qSetR_mono hX⟩)
            clear HPW hy' hz1 hz2 hz3
            obtain ⟨k0, k1, k2, k3, k4, k5⟩ := six_cells HZ.out.s (Below.refl _ _)
            have lk := HZ.out.s.lt
            obtain ⟨tk, htk⟩ : ∃ b, b = ruleOk s y := ⟨_, rfl⟩
            have HTK := Lib.hid htk
            have HCV : Hid (∀ X, Below wr.heap.size wr X → Calls Try.prog 42 #[.agg #[.slice A1 n1 c1, .slice A2 n2 c2, .slice A3 n3 c3, .slice (some ⟨b, off, none⟩) n4 c4, .slice A5 n5 c5, .slice A6 n6 c6], .agg #[.string y.head, .int .i64 y.schema, .slice B1 m1 d1, .slice B2 m2 d2, .slice B3 m3 d3]] X (RetPair qRuleR 0 (ruleQ s y) tk X)) := Lib.hid (fun X hX => by
              have h := refRuleX_any A1 A2 A3 (some ⟨b, off, none⟩) A5 A6 n1 c1 n2 c2 n3 c3 n4 c4 n5 c5 n6 c6 B1 B2 B3 m1 d1 m2 d2 m3 d3 s y X (HPX.out _ hX) (HEX.out _ hX).1 (HEX.out _ hX).2.1 (HEX.out _ hX).2.2
              rw [← htk] at h
              exact h)
            clear htk
            go_upto_region 19 with fail
            have HKT : Hid (∀ X : World, Below wr.heap.size wr X → X.cell? ⟨w.heap.size, 0, none⟩ = some (.slice A1 n1 c1) ∧ X.cell? ⟨w.heap.size, 1, none⟩ = some (.slice A2 n2 c2) ∧ X.cell? ⟨w.heap.size, 2, none⟩ = some (.slice A3 n3 c3) ∧ X.cell? ⟨w.heap.size, 3, none⟩ = some (.slice (some ⟨b, off, none⟩) n4 c4) ∧ X.cell? ⟨w.heap.size, 4, none⟩ = some (.slice A5 n5 c5) ∧ X.cell? ⟨w.heap.size, 5, none⟩ = some (.slice A6 n6 c6) ∧ X.cell? ⟨b, off + k * 5, none⟩ = some (.string y.head) ∧ X.cell? ⟨b, off + k * 5 + 1, none⟩ = some (.int .i64 y.schema) ∧ X.cell? ⟨b, off + k * 5 + 2, none⟩ = some (.slice B1 m1 d1) ∧ X.cell? ⟨b, off + k * 5 + 3, none⟩ = some (.slice B2 m2 d2) ∧ X.cell? ⟨b, off + k * 5 + 4, none⟩ = some (.slice B3 m3 d3)) := Lib.hid (fun X hX => ⟨(hX.cell (p := ⟨w.heap.size, 0, none⟩) lk).trans k0, (hX.cell (p := ⟨w.heap.size, 1, none⟩) lk).trans k1, (hX.cell (p := ⟨w.heap.size, 2, none⟩) lk).trans k2, (hX.cell (p := ⟨w.heap.size, 3, none⟩) lk).trans k3, (hX.cell (p := ⟨w.heap.size, 4, none⟩) lk).trans k4, (hX.cell (p := ⟨w.heap.size, 5, none⟩) lk).trans k5, (hX.cell (p := ⟨b, off + k * 5, none⟩) hbl).trans s0, (hX.cell (p := ⟨b, off + k * 5 + 1, none⟩) hbl).trans s1, (hX.cell (p := ⟨b, off + k * 5 + 2, none⟩) hbl).trans s2, (hX.cell (p := ⟨b, off + k * 5 + 3, none⟩) hbl).trans s3, (hX.cell (p := ⟨b, off + k * 5 + 4, none⟩) hbl).trans s4⟩)
            apply wp_via10 (G := fun E1 e1 f1 E2 e2 f2 E3 e3 f3 gy w3 => Below wr.heap.size wr w3 ∧ wr.heap.size ≤ gy ∧ Blk w3 gy 56 #[.string (ruleQ s y).head, .int .i64 (ruleQ s y).schema, .slice E1 e1 f1, .slice E2 e2 f2, .slice E3 e3 f3] ∧ qRuleR (mask 0 wr.heap.size w3) [.string (ruleQ s y).head, .int .i64 (ruleQ s y).schema, .slice E1 e1 f1, .slice E2 e2 f2, .slice E3 e3 f3] (ruleQ s y))
            · go_region_held3 (fun w' => w'.cell? ⟨w.heap.size, 0, none⟩ = some (.slice A1 n1 c1) ∧ w'.cell? ⟨w.heap.size, 1, none⟩ = some (.slice A2 n2 c2) ∧ w'.cell? ⟨w.heap.size, 2, none⟩ = some (.slice A3 n3 c3) ∧ w'.cell? ⟨w.heap.size, 3, none⟩ = some (.slice (some ⟨b, off, none⟩) n4 c4) ∧ w'.cell? ⟨w.heap.size, 4, none⟩ = some (.slice A5 n5 c5) ∧ w'.cell? ⟨w.heap.size, 5, none⟩ = some (.slice A6 n6 c6) ∧ w'.cell? ⟨b, off + k * 5, none⟩ = some (.string y.head) ∧ w'.cell? ⟨b, off + k * 5 + 1, none⟩ = some (.int .i64 y.schema) ∧ w'.cell? ⟨b, off + k * 5 + 2, none⟩ = some (.slice B1 m1 d1) ∧ w'.cell? ⟨b, off + k * 5 + 3, none⟩ = some (.slice B2 m2 d2) ∧ w'.cell? ⟨b, off + k * 5 + 4, none⟩ = some (.slice B3 m3 d3))
                (first | with_reducible exact HKT.out _ HBC.out | with_reducible exact HKT.out _ (Below.refl _ _).drew | with_reducible exact HKT.out _ (below_one _ _).drew | with_reducible exact HKT.out _ (HBC.out.alloc HBC.out.size _) | with_reducible exact HKT.out _ (below_grown HBC.out (grown_setL [.string (ruleQ s y).head, .int .i64 (ruleQ s y).schema, .slice E1 e1 f1, .slice E2 e2 f2, .slice E3 e3 f3] 0 _ (World.grownBy.refl _ (some wr.heap.size))) (Nat.le_refl _)) | with_reducible exact HKT.out _ (Below.refl _ _))
                (first
                  | (go_at_call 42; ((with_reducible refine (HCV.out _ (Below.refl _ _).drew).mono ?_)); rintro e wd ⟨cs, rfl, hel, hbc⟩
                     obtain ⟨E1, e1, f1, E2, e2, f2, E3, e3, f3, rfl, hfl⟩ := hel
                     have hbz : Below wr.heap.size wr wd := Below.trans (Below.refl _ _).drew hbc
                     have HEL0 : Hid (qRuleR (mask 0 wr.heap.size wd) [.string (ruleQ s y).head, .int .i64 (ruleQ s y).schema, .slice E1 e1 f1, .slice E2 e2 f2, .slice E3 e3 f3] (ruleQ s y)) := Lib.hid ⟨E1, e1, f1, E2, e2, f2, E3, e3, f3, rfl, hfl⟩
                     have HBC := Lib.hid hbz
                     clear hbc hbz hfl)
                  | (go_at_call 42; ((with_reducible refine (HCV.out _ (below_one _ _).drew).mono ?_)); rintro e wd ⟨cs, rfl, hel, hbc⟩
                     obtain ⟨E1, e1, f1, E2, e2, f2, E3, e3, f3, rfl, hfl⟩ := hel
                     have hbz : Below wr.heap.size wr wd := below_step (below_one _ _).drew hbc
                     have HEL0 : Hid (qRuleR (mask 0 (wr.heap.size + 1) wd) [.string (ruleQ s y).head, .int .i64 (ruleQ s y).schema, .slice E1 e1 f1, .slice E2 e2 f2, .slice E3 e3 f3] (ruleQ s y)) := Lib.hid (by
                       have h : qRuleR (mask 0 (wr.alloc (.cells #[.string ⟨#[]⟩, .int .i64 0, .slice none 0 0, .slice none 0 0, .slice none 0 0] 56)).drew.heap.size wd) [.string (ruleQ s y).head, .int .i64 (ruleQ s y).schema, .slice E1 e1 f1, .slice E2 e2 f2, .slice E3 e3 f3] (ruleQ s y) := ⟨E1, e1, f1, E2, e2, f2, E3, e3, f3, rfl, hfl⟩
                       have e : (wr.alloc (.cells #[.string ⟨#[]⟩, .int .i64 0, .slice none 0 0, .slice none 0 0, .slice none 0 0] 56)).drew.heap.size = wr.heap.size + 1 := by simp
                       rw [e] at h
                       exact h)
                     have hy0 : Blk wd wr.heap.size 56 #[.string ⟨#[]⟩, .int .i64 0, .slice none 0 0, .slice none 0 0, .slice none 0 0] := (show Blk (wr.alloc (.cells #[.string ⟨#[]⟩, .int .i64 0, .slice none 0 0, .slice none 0 0, .slice none 0 0] 56)).drew wr.heap.size 56 #[.string ⟨#[]⟩, .int .i64 0, .slice none 0 0, .slice none 0 0, .slice none 0 0] from Blk.new _ _ _).below hbc (by simp)
                     have r0 := hy0.cell 0
                     have g0 := hy0.frozen 0
                     have r1 := hy0.cell 1
                     have g1 := hy0.frozen 1
                     have r2 := hy0.cell 2
                     have g2 := hy0.frozen 2
                     have r3 := hy0.cell 3
                     have g3 := hy0.frozen 3
                     have r4 := hy0.cell 4
                     have g4 := hy0.frozen 4
                     simp only [List.getElem?_toArray, List.getElem?_cons_zero, List.getElem?_cons_succ] at r0 r1 r2 r3 r4
                     have lz := hy0.lt
                     have HY0 := Lib.hid hy0
                     have HBC := Lib.hid hbz
                     clear hbc hbz hfl hy0))
              · obtain ⟨gy, hgy⟩ : ∃ x, x = wd.heap.size := ⟨_, rfl⟩
                have hal : Below wd.heap.size wd (wd.alloc (.cells #[.string (ruleQ s y).head, .int .i64 (ruleQ s y).schema, .slice E1 e1 f1, .slice E2 e2 f2, .slice E3 e3 f3] 56)) := below_one _ _
                have hy8 : Blk (wd.alloc (.cells #[.string (ruleQ s y).head, .int .i64 (ruleQ s y).schema, .slice E1 e1 f1, .slice E2 e2 f2, .slice E3 e3 f3] 56)) wd.heap.size 56 #[.string (ruleQ s y).head, .int .i64 (ruleQ s y).schema, .slice E1 e1 f1, .slice E2 e2 f2, .slice E3 e3 f3] := Blk.new _ _ _
                have he8 : qRuleR (mask 0 wr.heap.size (wd.alloc (.cells #[.string (ruleQ s y).head, .int .i64 (ruleQ s y).schema, .slice E1 e1 f1, .slice E2 e2 f2, .slice E3 e3 f3] 56))) [.string (ruleQ s y).head, .int .i64 (ruleQ s y).schema, .slice E1 e1 f1, .slice E2 e2 f2, .slice E3 e3 f3] (ruleQ s y) := qRuleR_mono _ _ (mask_below0 hal) _ _ HEL0.out
                have hb8 := below_step HBC.out hal
                have hle := HBC.out.size
                rw [← hgy] at hy8 hle ⊢
                exact ⟨E1, e1, f1, E2, e2, f2, E3, e3, f3, gy, rfl, hb8, hle, hy8, he8⟩
              · have hlz := HY0.out.lt
                have hg8 : wd.grownBy (wd.setCells wr.heap.size 0 [.string (ruleQ s y).head, .int .i64 (ruleQ s y).schema, .slice E1 e1 f1, .slice E2 e2 f2, .slice E3 e3 f3]) (some wr.heap.size) := grown_setL _ _ _ (World.grownBy.refl _ _)
                have hy8 : Blk (wd.setCells wr.heap.size 0 [.string (ruleQ s y).head, .int .i64 (ruleQ s y).schema, .slice E1 e1 f1, .slice E2 e2 f2, .slice E3 e3 f3]) wr.heap.size 56 #[.string (ruleQ s y).head, .int .i64 (ruleQ s y).schema, .slice E1 e1 f1, .slice E2 e2 f2, .slice E3 e3 f3] := by
                  have := (((((HY0.out.put 0 (.string (ruleQ s y).head)).put 1 (.int .i64 (ruleQ s y).schema)).put 2 (.slice E1 e1 f1)).put 3 (.slice E2 e2 f2)).put 4 (.slice E3 e3 f3))
                  simp only [List.setIfInBounds_toArray, List.set_cons_zero, List.set_cons_succ] at this
                  exact this
                have he8 : qRuleR (mask 0 wr.heap.size (wd.setCells wr.heap.size 0 [.string (ruleQ s y).head, .int .i64 (ruleQ s y).schema, .slice E1 e1 f1, .slice E2 e2 f2, .slice E3 e3 f3])) [.string (ruleQ s y).head, .int .i64 (ruleQ s y).schema, .slice E1 e1 f1, .slice E2 e2 f2, .slice E3 e3 f3] (ruleQ s y) := by
                  have h := qRuleR_mono _ _ (mask_below (lo := 0) (M := wr.heap.size + 1) hg8 (Nat.zero_le _) (Nat.lt_succ_self _)) _ _ HEL0.out
                  rw [mask_split (Nat.zero_le _) (Nat.le_succ _)] at h
                  exact qRuleR_unm _ _ _ _ _ h
                have hb8 : Below wr.heap.size wr (wd.setCells wr.heap.size 0 [.string (ruleQ s y).head, .int .i64 (ruleQ s y).schema, .slice E1 e1 f1, .slice E2 e2 f2, .slice E3 e3 f3]) := below_grown HBC.out hg8 (Nat.le_refl _)
                exact ⟨E1, e1, f1, E2, e2, f2, E3, e3, f3, wr.heap.size, rfl, hb8, Nat.le_refl _, hy8, he8⟩
            rintro E1 e1 f1 E2 e2 f2 E3 e3 f3 gy wy ⟨hbz, hgy, hy, hel⟩
            clear HKT HPX HEX HCV k0 k1 k2 k3 k4 k5 lk hbl s0 s1 s2 s3 s4
            have HEL := Lib.hid (new_hideL qRuleR_unm (fun b hb => ⟨Nat.zero_le _, (HSB.out b hb).2⟩) hel)
            have HY := Lib.hid hy
            clear hy hel hgy
            have hz := HZ.out.below hbz
            have hku := HKU.out.below hbz
            have hsb : ∀ b ∈ S, w.heap.size + 1 ≤ b ∧ b < wy.heap.size := fun b hb' => ⟨(HSB.out b hb').1, Nat.lt_of_lt_of_le (HSB.out b hb').2 (hbz).size⟩
            have hrw := HRW.out.below qRuleR_mono hbz
            have hwj := Nat.le_trans HWJ.out (hbz).size
            have hd3 := HD3.out.below qSchemaR_mono hbz
            have hp5 := HP5.out.below hbz HP5.out.lt
            have hp6 := HP6.out.below hbz HP6.out.lt
            clear HZ HKU HSB HRW HWJ HD3 HP5 HP6
            have HZ := Lib.hid hz
            have HKU := Lib.hid hku
            have HSB := Lib.hid hsb
            have HRW := Lib.hid hrw
            have HWJ := Lib.hid hwj
            have HD3 := Lib.hid hd3
            have HP5 := Lib.hid hp5
            have HP6 := Lib.hid hp6
            clear hz hku hsb hrw hwj hd3 hp5 hp6
            clear hbz
            go_upto_region 20 with fail
            go_cut [6] from 78 to 81 (fun v wx => v = .bool (ob && tk) ∧ wx = wy)
            case first =>
              · cases ob with
                | false =>
                  go_wp2_with fail
                  go_meet
                  exact ⟨rfl, rfl⟩
                | true =>
                  cases tk with
                  | false =>
                    go_wp2_with fail
                    go_meet
                    exact ⟨rfl, rfl⟩
                  | true =>
                    go_wp2_with fail
                    go_meet
                    exact ⟨rfl, rfl⟩
            case rest =>
              obtain ⟨rfl, rfl⟩ := hcut
              obtain ⟨wy, rfl⟩ : ∃ x, x = wc := ⟨_, rfl⟩
              obtain ⟨ob1, hob1⟩ : ∃ b, b = (ob && tk) := ⟨_, rfl⟩
              rw [← hob1]
              have Hob1 := Lib.hid hob1
              clear hob1
              obtain ⟨co, hor, hin, hco⟩ := HRW.out
              have HOR := Lib.hid hor
              have HIN := Lib.hid hin
              have HCO := Lib.hid hco
              clear hor hin hco
              have HLN : Hid (((s.rules.take k).map (ruleQ s)).length = k) := Lib.hid (by have := HL4.out; simp; omega)
              have hor2 : wy.ownsRow b4 56 5 (.slice vA vm vc) k co := by have := HOR.out; rwa [HLN.out] at this
              have HOR2 := Lib.hid hor2
              clear hor2
              have q2 := HZ.out.x.cell 3
              simp only [List.getElem?_toArray, List.getElem?_cons_zero, List.getElem?_cons_succ] at q2
              have lx := HZ.out.x.lt
              have y0 := HY.out.cell 0
              have y1 := HY.out.cell 1
              have y2 := HY.out.cell 2
              have y3 := HY.out.cell 3
              have y4 := HY.out.cell 4
              simp only [List.getElem?_toArray, List.getElem?_cons_zero, List.getElem?_cons_succ] at y0 y1 y2 y3 y4
              have ly := HY.out.lt
              go_wp2_with (at_builtin; refine wpList_append_own_at _ rfl (.tmp 83) (.tmp 85) 25 rfl b4 56 j4 _ 5 96 Try.underlying25 I4.out Z4.out.1 Z4.out.2.1 Z4.out.2.2 rfl (by decide) (.slice vA vm vc) k co rfl (HOR2.out.alloc _) ⟨wy.heap.size, 0, none⟩ 1 1 [.string (ruleQ s y).head, .int .i64 (ruleQ s y).schema, .slice E1 e1 f1, .slice E2 e2 f2, .slice E3 e3 f3] rfl rfl (rf_news (Blk.new _ _ _)) (by intro x hx; simp only [List.mem_cons, List.not_mem_nil, or_false] at hx; rcases hx with rfl | rfl | rfl | rfl | rfl <;> rfl) (by have := HNB4.out; unfold maxLen; omega) (by have := HNB4.out; omega) (by have := HWJ.out; have := HBW4.out; simp; omega) ?_
                           intro v' W9 hown hgrow hnil hat
                           obtain ⟨vA', vm', vc', rfl⟩ := own_form hown
                           have hb8 : Below wy.heap.size wy (wy.alloc (.cells #[.string (ruleQ s y).head, .int .i64 (ruleQ s y).schema, .slice E1 e1 f1, .slice E2 e2 f2, .slice E3 e3 f3] 56)) := below_one _ _
                           have hz8 : (wy.alloc (.cells #[.string (ruleQ s y).head, .int .i64 (ruleQ s y).schema, .slice E1 e1 f1, .slice E2 e2 f2, .slice E3 e3 f3] 56)).heap.size = wy.heap.size + 1 := by simp
                           obtain ⟨S', hs1, hs2, hrow9⟩ := RowS.push (lo := w.heap.size + 1) HIN.out (HCO.out.mono qRuleR_mono (hideL_below hb8)) qRuleR_mono (fun b hb => ⟨(HSB.out b hb).1, by have := (HSB.out b hb).2; omega⟩) (by have := HZ.out.x.lt; have := HGX.out; omega) (by rw [HLN.out]; exact hown) hgrow hat (qRuleR_mono _ _ (hideL_below hb8) _ _ HEL.out) rfl
                           rw [map_snoc HM.out] at hrow9
                           have hz9 := (HZ.out.below hb8).far hgrow (fun r e => by have := HOC.out r e; have := HGX.out; have := HBW4.out; omega)
                           have hk9 := (HKU.out.below hb8).grown hgrow (fun r e => .inr (by have := HOC.out r e; have := HBW4.out; have := HWU.out; omega))
                           have ho9 : ∀ r, Value.ownBlock (.slice vA' vm' vc') = some r → r = b4 ∨ W4 ≤ r := fun r e => by
                             rcases hat with h | h
                             · exact HOC.out r (h ▸ e)
                             · have e2 := h.symm.trans e
                               injection e2 with e2
                               have := HWJ.out
                               omega
                           have hw9 : W4 ≤ W9.heap.size := by have := hgrow.size; have := HWJ.out; omega
                           have h09 : ∀ b ∈ ([w.heap.size + 1, gx, b3, b4, b5, b6] : List Nat), b ∈ S' := fun b hb => (hs1 b (by have := (HSB.out b (HS0.out b hb)).2; omega)).2 (HS0.out b hb)
                           have hd3 := (HD3.out.below qSchemaR_mono hb8).kept qSchemaR_mono hgrow (fun r e _ => HIN.out r e) (fun r e e2 => by have := HOC.out r e; have := HNE3.out r e2; omega) hs1
                           have hp5 := Blk.grown (HP5.out.alloc _) hgrow (fun e => by have := HOC.out _ e.symm; have := HBW4.out; have := HBB.out; omega)
                           have hp6 := Blk.grown (HP6.out.alloc _) hgrow (fun e => by have := HOC.out _ e.symm; have := HBW4.out; have := HBB.out; omega)
                           have q9 := hz9.x.cell 3
                           have f9 := hz9.x.frozen 3
                           simp only [List.getElem?_toArray, List.getElem?_cons_zero, List.getElem?_cons_succ] at q9
                           have l9 := hz9.x.lt
                           have HS29 := Lib.hid hs2
                           have HRW9 := Lib.hid hrow9
                           have HZ9 := Lib.hid hz9
                           have HK9 := Lib.hid hk9
                           have HO9 := Lib.hid ho9
                           have HW9 := Lib.hid hw9
                           have H09 := Lib.hid h09
                           have HD93 := Lib.hid hd3
                           have HP95 := Lib.hid hp5
                           have HP96 := Lib.hid hp6
                           clear hown hgrow hnil hat hb8 hz8 hs1 hs2 hrow9 hz9 hk9 ho9 hw9 h09 hd3 hp5 hp6)
              go_roundg (n4 - (k + 1))
              case measure => have := HQ.out; omega
              case rel =>
                have hg9 : W9.grownBy (W9.setCell ⟨gx, 3, none⟩ (.slice vA' vm' vc')) (some gx) := grown_near (World.grownBy.refl _ _) _ _
                have hgs : gx ∈ S' := H09.out gx (by simp)
                have hgr : ∀ r, some gx = some r → r < W9.heap.size → r ∈ S' := fun r e _ => by injection e with e; rw [← e]; exact hgs
                have hsz : (W9.setCell ⟨gx, 3, none⟩ (.slice vA' vm' vc')).heap.size = W9.heap.size := by simp
                refine ⟨k + 1, S', vA', vm', vc', by omega, rfl, by rw [all_snoc HM.out, ← Bool.and_assoc, ← HOB.out, Hob1.out, HTK.out], by go_num, ?_, HK9.out.grown hg9 (fun r e => .inl (by injection e with e; have := HGM.out; omega)), fun b hb => by rw [hsz]; exact HS29.out b hb, H09.out, HRW9.out.kept qRuleR_mono hg9 hgr (fun r e e2 => by injection e with e; have := HO9.out r e2; have := HBW4.out; have := HGX.out; omega) (fun _ _ => Iff.rfl), HO9.out, by rw [hsz]; exact HW9.out, HD93.out.kept qSchemaR_mono hg9 hgr (fun r e e2 => by injection e with e; have := HNE3.out r e2; omega) (fun _ _ => Iff.rfl), Blk.grown HP95.out hg9 (fun e => by injection e with e; have := HBB.out; have := HBW4.out; omega), Blk.grown HP96.out hg9 (fun e => by injection e with e; have := HBB.out; have := HBW4.out; omega)⟩
                have := HZ9.out.put HGX.out.1 3 (.slice vA' vm' vc')
                simpa only [List.setIfInBounds_toArray, List.set_cons_zero, List.set_cons_succ] using this
          · have hke : k = s.rules.length := by have := HL4.out; omega
            have HOK : Hid (ob = (obp && s.rules.all (ruleOk s))) := Lib.hid (by rw [HOB.out, hke, List.take_length])
            have hrw : RowS S b4 56 5 qRuleR (.slice vA vm vc) (s.rules.map (ruleQ s)) wr := by have := HRW.out; rwa [hke, List.take_length] at this
            clear HRW hke HOB HQ
            have HRW := Lib.hid hrw
            clear hrw
            go_upto_region 23 with fail
            clear kc lk hk hlt
            obtain ⟨obq, hobq⟩ : ∃ x, x = ob := ⟨_, rfl⟩
            rw [← hobq] at HOK ⊢
            have HOK4 := Lib.hid HOK.out
            clear hobq HOK
            obtain ⟨obp, hobp⟩ : ∃ x, x = obq := ⟨_, rfl⟩
            rw [← hobp] at HOK4 ⊢
            clear hobp
            obtain ⟨V4, rfl⟩ : ∃ x, x = vA := ⟨_, rfl⟩
            obtain ⟨l4, rfl⟩ : ∃ x, x = vm := ⟨_, rfl⟩
            obtain ⟨g4, rfl⟩ : ∃ x, x = vc := ⟨_, rfl⟩
            obtain ⟨SS, rfl⟩ : ∃ x, x = S := ⟨_, rfl⟩
            obtain ⟨wl, rfl⟩ : ∃ x, x = wr := ⟨_, rfl⟩
            obtain ⟨kk4, rfl⟩ : ∃ x, x = k := ⟨_, rfl⟩
            obtain ⟨W5, hW5⟩ : ∃ x, x = wl.heap.size := ⟨_, rfl⟩
            have HD4 := Lib.hid HRW.out
            have HNE4 : Hid (∀ r, Value.ownBlock (.slice V4 l4 g4) = some r → r < W5 ∧ gx ≠ r ∧ r ≠ b5 ∧ r ≠ b6) := Lib.hid (fun r e => by
              obtain ⟨cs, h1, _⟩ := HRW.out
              have h2 := (h1.lt r e).2
              have := HOC.out r e
              have := HBB.out
              have := HBW4.out
              refine ⟨by omega, by omega, by omega, by omega⟩)
            have HNX3 : Hid (∀ r, Value.ownBlock (.slice V3 l3 g3) = some r → r < W5 ∧ gx ≠ r ∧ r ≠ b4 ∧ r ≠ b5 ∧ r ≠ b6) := Lib.hid (fun r e => by have h := HNE3.out r e; have := HWJ.out; exact ⟨by omega, h.2⟩)
            clear HNE3
            have HNE3 := Lib.hid HNX3.out
            clear HNX3
            have HBW5 : Hid (b6 < W5 ∧ b3 ≤ b5 ∧ b5 ≤ b6 ∧ gx < b5) := Lib.hid (by have := HBB.out; have := HBW4.out; have := HWJ.out; omega)
            have HRWN : Hid (RowS SS b5 69 5 qConvertR (.slice (some ⟨b5, 0, none⟩) 0 0) ((s.converts.take 0).map (convertQ s)) wl) := Lib.hid (RowS.lit HP5.out (HS0.out b5 (by simp)))
            clear HRW HOC HWJ HP5
            have HRW := Lib.hid HRWN.out
            have HOC : Hid (∀ r, Value.ownBlock (.slice (some ⟨b5, 0, none⟩) 0 0) = some r → r = b5 ∨ W5 ≤ r) := Lib.hid (fun r e => by
              have e2 : some b5 = some r := e
              injection e2 with e2
              exact .inl e2.symm)
            have HWJ : Hid (W5 ≤ wl.heap.size) := Lib.hid (by omega)
            clear HRWN hW5
            go_loopg [6, 13] n5 (fun q o i wr => ∃ (k : Nat) (S : List Nat) (vA : Option Addr) (vm vc : Nat), k ≤ n5 ∧ q = n5 - k ∧ o = .bool (obp && (s.converts.take k).all (convertOk s)) ∧ i = .int .i64 (k : Int) ∧ XZ w gx #[.slice A1 n1 c1, .slice A2 n2 c2, .slice A3 n3 c3, .slice A4 n4 c4, .slice A5 n5 c5, .slice A6 n6 c6] #[.slice A1 n1 c1, .slice U um uc, .slice V3 l3 g3, .slice V4 l4 g4, .slice vA vm vc, .slice (some ⟨b6, 0, none⟩) 0 0] #[.slice none 0 0, .slice none 0 0, .slice none 0 0, .slice none 0 0, .slice none 0 0, .slice none 0 0] wr ∧ KU Mx wu wr ∧ (∀ b ∈ S, w.heap.size + 1 ≤ b ∧ b < wr.heap.size) ∧ (∀ b ∈ ([w.heap.size + 1, gx, b3, b4, b5, b6] : List Nat), b ∈ S) ∧ RowS S b5 69 5 qConvertR (.slice vA vm vc) ((s.converts.take k).map (convertQ s)) wr ∧ (∀ r, Value.ownBlock (.slice vA vm vc) = some r → r = b5 ∨ W5 ≤ r) ∧ W5 ≤ wr.heap.size ∧ RowS S b3 40 6 qSchemaR (.slice V3 l3 g3) (s.schemas.map (schemaQ s)) wr ∧ RowS S b4 56 5 qRuleR (.slice V4 l4 g4) (s.rules.map (ruleQ s)) wr ∧ Blk wr b6 74 #[])
            case atStart => exact ⟨0, SS, _, _, _, Nat.zero_le _, rfl, by rw [List.take_zero, List.all_nil, Bool.and_true], rfl, HZ.out, HKU.out, HSB.out, HS0.out, HRW.out, HOC.out, HWJ.out, HD3.out, HD4.out, HP6.out⟩
            case round =>
              clear HZ HKU HSB HS0 HRW HOC HWJ HD3 HD4 HP6
              obtain ⟨k, S, vA, vm, vc, hk, hq, rfl, rfl, hz, hku, hsb, hs0, hrw, hoc, hwj, hd3, hd4, hp6⟩ := hrel
              have HQ := Lib.hid hq
              clear hq
              obtain ⟨ob, hob⟩ : ∃ b, b = (obp && (s.converts.take k).all (convertOk s)) := ⟨_, rfl⟩
              rw [← hob]
              have HOB := Lib.hid hob
              clear hob
              have HZ := Lib.hid hz
              have HKU := Lib.hid hku
              have HSB := Lib.hid hsb
              have HS0 := Lib.hid hs0
              have HRW := Lib.hid hrw
              have HOC := Lib.hid hoc
              have HWJ := Lib.hid hwj
              have HD3 := Lib.hid hd3
              have HD4 := Lib.hid hd4
              have HP6 := Lib.hid hp6
              clear hz hku hsb hs0 hrw hoc hwj hd3 hd4 hp6
              have kc := HZ.out.s.cell 4
              simp only [List.getElem?_toArray, List.getElem?_cons_zero, List.getElem?_cons_succ] at kc
              have lk := HZ.out.s.lt
              by_cases hlt : k < n5
              · have hkn : (k : Int) < (n5 : Int) := by omega
                have hk0 : (0 : Int) ≤ (k : Int) := by omega
                obtain ⟨y, hm⟩ : ∃ y, s.converts[k]? = some y := ⟨s.converts[k]'(by have := HL5.out; omega), List.getElem?_eq_getElem _⟩
                have HM := Lib.hid hm
                clear hm kc lk
                have HPW := Lib.hid (src_parts (qSourceR_mono _ _ HZ.out.bl _ _ HS.out))
                obtain ⟨b, off, y', B1, m1, d1, rfl, hbl, hy', s0, s1, s2, s3, s4, hz1⟩ := qConvert_at (HPW.out.2.2.2.2.1.1) hlt
                obtain rfl : y = y' := by have := HM.out; rw [hy'] at this; exact (Option.some.inj this).symm
                have HPX : Hid (∀ X, Below wr.heap.size wr X → qSourceR X [.slice A1 n1 c1, .slice A2 n2 c2, .slice A3 n3 c3, .slice A4 n4 c4, .slice (some ⟨b, off, none⟩) n5 c5, .slice A6 n6 c6] s) := Lib.hid (fun X hX => qSourceR_mono _ _ (below_step HZ.out.bl hX) _ _ HS.out)
                have HEX : Hid (∀ X, Below wr.heap.size wr X → SlB 5 56 qMoveR X (.slice B1 m1 d1) y.moves) := Lib.hid (fun X hX => hz1.mono qMoveR_mono hX)
                clear HPW hy' hz1
                obtain ⟨k0, k1, k2, k3, k4, k5⟩ := six_cells HZ.out.s (Below.refl _ _)
                have lk := HZ.out.s.lt
                obtain ⟨tk, htk⟩ : ∃ b, b = convertOk s y := ⟨_, rfl⟩
                have HTK := Lib.hid htk
                have HCV : Hid (∀ X, Below wr.heap.size wr X → Calls Try.prog 43 #[.agg #[.slice A1 n1 c1, .slice A2 n2 c2, .slice A3 n3 c3, .slice A4 n4 c4, .slice (some ⟨b, off, none⟩) n5 c5, .slice A6 n6 c6], .agg #[.string y.from_, .string y.to_, .int .i64 y.a, .int .i64 y.b, .slice B1 m1 d1]] X (RetPair qConvertR 0 (convertQ s y) tk X)) := Lib.hid (fun X hX => by
                  have h := refConvertX_any A1 A2 A3 A4 (some ⟨b, off, none⟩) A6 n1 c1 n2 c2 n3 c3 n4 c4 n5 c5 n6 c6 B1 m1 d1 s y X (HPX.out _ hX) (HEX.out _ hX)
                  rw [← htk] at h
                  exact h)
                clear htk
                go_upto_region 25 with fail
                have HKT : Hid (∀ X : World, Below wr.heap.size wr X → X.cell? ⟨w.heap.size, 0, none⟩ = some (.slice A1 n1 c1) ∧ X.cell? ⟨w.heap.size, 1, none⟩ = some (.slice A2 n2 c2) ∧ X.cell? ⟨w.heap.size, 2, none⟩ = some (.slice A3 n3 c3) ∧ X.cell? ⟨w.heap.size, 3, none⟩ = some (.slice A4 n4 c4) ∧ X.cell? ⟨w.heap.size, 4, none⟩ = some (.slice (some ⟨b, off, none⟩) n5 c5) ∧ X.cell? ⟨w.heap.size, 5, none⟩ = some (.slice A6 n6 c6) ∧ X.cell? ⟨b, off + k * 5, none⟩ = some (.string y.from_) ∧ X.cell? ⟨b, off + k * 5 + 1, none⟩ = some (.string y.to_) ∧ X.cell? ⟨b, off + k * 5 + 2, none⟩ = some (.int .i64 y.a) ∧ X.cell? ⟨b, off + k * 5 + 3, none⟩ = some (.int .i64 y.b) ∧ X.cell? ⟨b, off + k * 5 + 4, none⟩ = some (.slice B1 m1 d1)) := Lib.hid (fun X hX => ⟨(hX.cell (p := ⟨w.heap.size, 0, none⟩) lk).trans k0, (hX.cell (p := ⟨w.heap.size, 1, none⟩) lk).trans k1, (hX.cell (p := ⟨w.heap.size, 2, none⟩) lk).trans k2, (hX.cell (p := ⟨w.heap.size, 3, none⟩) lk).trans k3, (hX.cell (p := ⟨w.heap.size, 4, none⟩) lk).trans k4, (hX.cell (p := ⟨w.heap.size, 5, none⟩) lk).trans k5, (hX.cell (p := ⟨b, off + k * 5, none⟩) hbl).trans s0, (hX.cell (p := ⟨b, off + k * 5 + 1, none⟩) hbl).trans s1, (hX.cell (p := ⟨b, off + k * 5 + 2, none⟩) hbl).trans s2, (hX.cell (p := ⟨b, off + k * 5 + 3, none⟩) hbl).trans s3, (hX.cell (p := ⟨b, off + k * 5 + 4, none⟩) hbl).trans s4⟩)
                apply wp_via4 (G := fun E1 e1 f1 gy w3 => Below wr.heap.size wr w3 ∧ wr.heap.size ≤ gy ∧ Blk w3 gy 69 #[.string (convertQ s y).from_, .string (convertQ s y).to_, .int .i64 (convertQ s y).a, .int .i64 (convertQ s y).b, .slice E1 e1 f1] ∧ qConvertR (mask 0 wr.heap.size w3) [.string (convertQ s y).from_, .string (convertQ s y).to_, .int .i64 (convertQ s y).a, .int .i64 (convertQ s y).b, .slice E1 e1 f1] (convertQ s y))
                · go_region_held3 (fun w' => w'.cell? ⟨w.heap.size, 0, none⟩ = some (.slice A1 n1 c1) ∧ w'.cell? ⟨w.heap.size, 1, none⟩ = some (.slice A2 n2 c2) ∧ w'.cell? ⟨w.heap.size, 2, none⟩ = some (.slice A3 n3 c3) ∧ w'.cell? ⟨w.heap.size, 3, none⟩ = some (.slice A4 n4 c4) ∧ w'.cell? ⟨w.heap.size, 4, none⟩ = some (.slice (some ⟨b, off, none⟩) n5 c5) ∧ w'.cell? ⟨w.heap.size, 5, none⟩ = some (.slice A6 n6 c6) ∧ w'.cell? ⟨b, off + k * 5, none⟩ = some (.string y.from_) ∧ w'.cell? ⟨b, off + k * 5 + 1, none⟩ = some (.string y.to_) ∧ w'.cell? ⟨b, off + k * 5 + 2, none⟩ = some (.int .i64 y.a) ∧ w'.cell? ⟨b, off + k * 5 + 3, none⟩ = some (.int .i64 y.b) ∧ w'.cell? ⟨b, off + k * 5 + 4, none⟩ = some (.slice B1 m1 d1))
                    (first | with_reducible exact HKT.out _ HBC.out | with_reducible exact HKT.out _ (Below.refl _ _).drew | with_reducible exact HKT.out _ (below_one _ _).drew | with_reducible exact HKT.out _ (HBC.out.alloc HBC.out.size _) | with_reducible exact HKT.out _ (below_grown HBC.out (grown_setL [.string (convertQ s y).from_, .string (convertQ s y).to_, .int .i64 (convertQ s y).a, .int .i64 (convertQ s y).b, .slice E1 e1 f1] 0 _ (World.grownBy.refl _ (some wr.heap.size))) (Nat.le_refl _)) | with_reducible exact HKT.out _ (Below.refl _ _))
                    (first
                      | (go_at_call 43; ((with_reducible refine (HCV.out _ (Below.refl _ _).drew).mono ?_)); rintro e wd ⟨cs, rfl, hel, hbc⟩
                         obtain ⟨E1, e1, f1, rfl, hfl⟩ := hel
                         have hbz : Below wr.heap.size wr wd := Below.trans (Below.refl _ _).drew hbc
                         have HEL0 : Hid (qConvertR (mask 0 wr.heap.size wd) [.string (convertQ s y).from_, .string (convertQ s y).to_, .int .i64 (convertQ s y).a, .int .i64 (convertQ s y).b, .slice E1 e1 f1] (convertQ s y)) := Lib.hid ⟨E1, e1, f1, rfl, hfl⟩
                         have HBC := Lib.hid hbz
                         clear hbc hbz hfl)
                      | (go_at_call 43; ((with_reducible refine (HCV.out _ (below_one _ _).drew).mono ?_)); rintro e wd ⟨cs, rfl, hel, hbc⟩
                         obtain ⟨E1, e1, f1, rfl, hfl⟩ := hel
                         have hbz : Below wr.heap.size wr wd := below_step (below_one _ _).drew hbc
                         have HEL0 : Hid (qConvertR (mask 0 (wr.heap.size + 1) wd) [.string (convertQ s y).from_, .string (convertQ s y).to_, .int .i64 (convertQ s y).a, .int .i64 (convertQ s y).b, .slice E1 e1 f1] (convertQ s y)) := Lib.hid (by
                           have h : qConvertR (mask 0 (wr.alloc (.cells #[.string ⟨#[]⟩, .string ⟨#[]⟩, .int .i64 0, .int .i64 0, .slice none 0 0] 69)).drew.heap.size wd) [.string (convertQ s y).from_, .string (convertQ s y).to_, .int .i64 (convertQ s y).a, .int .i64 (convertQ s y).b, .slice E1 e1 f1] (convertQ s y) := ⟨E1, e1, f1, rfl, hfl⟩
                           have e : (wr.alloc (.cells #[.string ⟨#[]⟩, .string ⟨#[]⟩, .int .i64 0, .int .i64 0, .slice none 0 0] 69)).drew.heap.size = wr.heap.size + 1 := by simp
                           rw [e] at h
                           exact h)
                         have hy0 : Blk wd wr.heap.size 69 #[.string ⟨#[]⟩, .string ⟨#[]⟩, .int .i64 0, .int .i64 0, .slice none 0 0] := (show Blk (wr.alloc (.cells #[.string ⟨#[]⟩, .string ⟨#[]⟩, .int .i64 0, .int .i64 0, .slice none 0 0] 69)).drew wr.heap.size 69 #[.string ⟨#[]⟩, .string ⟨#[]⟩, .int .i64 0, .int .i64 0, .slice none 0 0] from Blk.new _ _ _).below hbc (by simp)
                         have r0 := hy0.cell 0
                         have g0 := hy0.frozen 0
                         have r1 := hy0.cell 1
                         have g1 := hy0.frozen 1
                         have r2 := hy0.cell 2
                         have g2 := hy0.frozen 2
                         have r3 := hy0.cell 3
                         have g3 := hy0.frozen 3
                         have r4 := hy0.cell 4
                         have g4 := hy0.frozen 4
                         simp only [List.getElem?_toArray, List.getElem?_cons_zero, List.getElem?_cons_succ] at r0 r1 r2 r3 r4
                         have lz := hy0.lt
                         have HY0 := Lib.hid hy0
                         have HBC := Lib.hid hbz
                         clear hbc hbz hfl hy0))
                  · obtain ⟨gy, hgy⟩ : ∃ x, x = wd.heap.size := ⟨_, rfl⟩
                    have hal : Below wd.heap.size wd (wd.alloc (.cells #[.string (convertQ s y).from_, .string (convertQ s y).to_, .int .i64 (convertQ s y).a, .int .i64 (convertQ s y).b, .slice E1 e1 f1] 69)) := below_one _ _
                    have hy8 : Blk (wd.alloc (.cells #[.string (convertQ s y).from_, .string (convertQ s y).to_, .int .i64 (convertQ s y).a, .int .i64 (convertQ s y).b, .slice E1 e1 f1] 69)) wd.heap.size 69 #[.string (convertQ s y).from_, .string (convertQ s y).to_, .int .i64 (convertQ s y).a, .int .i64 (convertQ s y).b, .slice E1 e1 f1] := Blk.new _ _ _
                    have he8 : qConvertR (mask 0 wr.heap.size (wd.alloc (.cells #[.string (convertQ s y).from_, .string (convertQ s y).to_, .int .i64 (convertQ s y).a, .int .i64 (convertQ s y).b, .slice E1 e1 f1] 69))) [.string (convertQ s y).from_, .string (convertQ s y).to_, .int .i64 (convertQ s y).a, .int .i64 (convertQ s y).b, .slice E1 e1 f1] (convertQ s y) := qConvertR_mono _ _ (mask_below0 hal) _ _ HEL0.out
                    have hb8 := below_step HBC.out hal
                    have hle := HBC.out.size
                    rw [← hgy] at hy8 hle ⊢
                    exact ⟨E1, e1, f1, gy, rfl, hb8, hle, hy8, he8⟩
                  · have hlz := HY0.out.lt
                    have hg8 : wd.grownBy (wd.setCells wr.heap.size 0 [.string (convertQ s y).from_, .string (convertQ s y).to_, .int .i64 (convertQ s y).a, .int .i64 (convertQ s y).b, .slice E1 e1 f1]) (some wr.heap.size) := grown_setL _ _ _ (World.grownBy.refl _ _)
                    have hy8 : Blk (wd.setCells wr.heap.size 0 [.string (convertQ s y).from_, .string (convertQ s y).to_, .int .i64 (convertQ s y).a, .int .i64 (convertQ s y).b, .slice E1 e1 f1]) wr.heap.size 69 #[.string (convertQ s y).from_, .string (convertQ s y).to_, .int .i64 (convertQ s y).a, .int .i64 (convertQ s y).b, .slice E1 e1 f1] := by
                      have := (((((HY0.out.put 0 (.string (convertQ s y).from_)).put 1 (.string (convertQ s y).to_)).put 2 (.int .i64 (convertQ s y).a)).put 3 (.int .i64 (convertQ s y).b)).put 4 (.slice E1 e1 f1))
                      simp only [List.setIfInBounds_toArray, List.set_cons_zero, List.set_cons_succ] at this
                      exact this
                    have he8 : qConvertR (mask 0 wr.heap.size (wd.setCells wr.heap.size 0 [.string (convertQ s y).from_, .string (convertQ s y).to_, .int .i64 (convertQ s y).a, .int .i64 (convertQ s y).b, .slice E1 e1 f1])) [.string (convertQ s y).from_, .string (convertQ s y).to_, .int .i64 (convertQ s y).a, .int .i64 (convertQ s y).b, .slice E1 e1 f1] (convertQ s y) := by
                      have h := qConvertR_mono _ _ (mask_below (lo := 0) (M := wr.heap.size + 1) hg8 (Nat.zero_le _) (Nat.lt_succ_self _)) _ _ HEL0.out
                      rw [mask_split (Nat.zero_le _) (Nat.le_succ _)] at h
                      exact qConvertR_unm _ _ _ _ _ h
                    have hb8 : Below wr.heap.size wr (wd.setCells wr.heap.size 0 [.string (convertQ s y).from_, .string (convertQ s y).to_, .int .i64 (convertQ s y).a, .int .i64 (convertQ s y).b, .slice E1 e1 f1]) := below_grown HBC.out hg8 (Nat.le_refl _)
                    exact ⟨E1, e1, f1, wr.heap.size, rfl, hb8, Nat.le_refl _, hy8, he8⟩
                rintro E1 e1 f1 gy wy ⟨hbz, hgy, hy, hel⟩
                clear HKT HPX HEX HCV k0 k1 k2 k3 k4 k5 lk hbl s0 s1 s2 s3 s4
                have HEL := Lib.hid (new_hideL qConvertR_unm (fun b hb => ⟨Nat.zero_le _, (HSB.out b hb).2⟩) hel)
                have HY := Lib.hid hy
                clear hy hel hgy
                have hz := HZ.out.below hbz
                have hku := HKU.out.below hbz
                have hsb : ∀ b ∈ S, w.heap.size + 1 ≤ b ∧ b < wy.heap.size := fun b hb' => ⟨(HSB.out b hb').1, Nat.lt_of_lt_of_le (HSB.out b hb').2 (hbz).size⟩
                have hrw := HRW.out.below qConvertR_mono hbz
                have hwj := Nat.le_trans HWJ.out (hbz).size
                have hd3 := HD3.out.below qSchemaR_mono hbz
                have hd4 := HD4.out.below qRuleR_mono hbz
                have hp6 := HP6.out.below hbz HP6.out.lt
                clear HZ HKU HSB HRW HWJ HD3 HD4 HP6
                have HZ := Lib.hid hz
                have HKU := Lib.hid hku
                have HSB := Lib.hid hsb
                have HRW := Lib.hid hrw
                have HWJ := Lib.hid hwj
                have HD3 := Lib.hid hd3
                have HD4 := Lib.hid hd4
                have HP6 := Lib.hid hp6
                clear hz hku hsb hrw hwj hd3 hd4 hp6
                clear hbz
                go_upto_region 26 with fail
                go_cut [6] from 105 to 108 (fun v wx => v = .bool (ob && tk) ∧ wx = wy)
                case first =>
                  · cases ob with
                    | false =>
                      go_wp2_with fail
                      go_meet
                      exact ⟨rfl, rfl⟩
                    | true =>
                      cases tk with
                      | false =>
                        go_wp2_with fail
                        go_meet
                        exact ⟨rfl, rfl⟩
                      | true =>
                        go_wp2_with fail
                        go_meet
                        exact ⟨rfl, rfl⟩
                case rest =>
                  obtain ⟨rfl, rfl⟩ := hcut
                  obtain ⟨wy, rfl⟩ : ∃ x, x = wc := ⟨_, rfl⟩
                  obtain ⟨ob1, hob1⟩ : ∃ b, b = (ob && tk) := ⟨_, rfl⟩
                  rw [← hob1]
                  have Hob1 := Lib.hid hob1
                  clear hob1
                  obtain ⟨co, hor, hin, hco⟩ := HRW.out
                  have HOR := Lib.hid hor
                  have HIN := Lib.hid hin
                  have HCO := Lib.hid hco
                  clear hor hin hco
                  have HLN : Hid (((s.converts.take k).map (convertQ s)).length = k) := Lib.hid (by have := HL5.out; simp; omega)
                  have hor2 : wy.ownsRow b5 69 5 (.slice vA vm vc) k co := by have := HOR.out; rwa [HLN.out] at this
                  have HOR2 := Lib.hid hor2
                  clear hor2
                  have q2 := HZ.out.x.cell 4
                  simp only [List.getElem?_toArray, List.getElem?_cons_zero, List.getElem?_cons_succ] at q2
                  have lx := HZ.out.x.lt
                  have y0 := HY.out.cell 0
                  have y1 := HY.out.cell 1
                  have y2 := HY.out.cell 2
                  have y3 := HY.out.cell 3
                  have y4 := HY.out.cell 4
                  simp only [List.getElem?_toArray, List.getElem?_cons_zero, List.getElem?_cons_succ] at y0 y1 y2 y3 y4
                  have ly := HY.out.lt
                  go_wp2_with (at_builtin; refine wpList_append_own_at _ rfl (.tmp 110) (.tmp 112) 26 rfl b5 69 j5 _ 5 72 Try.underlying26 I5.out Z5.out.1 Z5.out.2.1 Z5.out.2.2 rfl (by decide) (.slice vA vm vc) k co rfl (HOR2.out.alloc _) ⟨wy.heap.size, 0, none⟩ 1 1 [.string (convertQ s y).from_, .string (convertQ s y).to_, .int .i64 (convertQ s y).a, .int .i64 (convertQ s y).b, .slice E1 e1 f1] rfl rfl (rf_news (Blk.new _ _ _)) (by intro x hx; simp only [List.mem_cons, List.not_mem_nil, or_false] at hx; rcases hx with rfl | rfl | rfl | rfl | rfl <;> rfl) (by have := HNB5.out; unfold maxLen; omega) (by have := HNB5.out; omega) (by have := HWJ.out; have := HBW5.out; simp; omega) ?_
                               intro v' W9 hown hgrow hnil hat
                               obtain ⟨vA', vm', vc', rfl⟩ := own_form hown
                               have hb8 : Below wy.heap.size wy (wy.alloc (.cells #[.string (convertQ s y).from_, .string (convertQ s y).to_, .int .i64 (convertQ s y).a, .int .i64 (convertQ s y).b, .slice E1 e1 f1] 69)) := below_one _ _
                               have hz8 : (wy.alloc (.cells #[.string (convertQ s y).from_, .string (convertQ s y).to_, .int .i64 (convertQ s y).a, .int .i64 (convertQ s y).b, .slice E1 e1 f1] 69)).heap.size = wy.heap.size + 1 := by simp
                               obtain ⟨S', hs1, hs2, hrow9⟩ := RowS.push (lo := w.heap.size + 1) HIN.out (HCO.out.mono qConvertR_mono (hideL_below hb8)) qConvertR_mono (fun b hb => ⟨(HSB.out b hb).1, by have := (HSB.out b hb).2; omega⟩) (by have := HZ.out.x.lt; have := HGX.out; omega) (by rw [HLN.out]; exact hown) hgrow hat (qConvertR_mono _ _ (hideL_below hb8) _ _ HEL.out) rfl
                               rw [map_snoc HM.out] at hrow9
                               have hz9 := (HZ.out.below hb8).far hgrow (fun r e => by have := HOC.out r e; have := HGX.out; have := HBW5.out; omega)
                               have hk9 := (HKU.out.below hb8).grown hgrow (fun r e => .inr (by have := HOC.out r e; have := HBW5.out; have := HWU.out; omega))
                               have ho9 : ∀ r, Value.ownBlock (.slice vA' vm' vc') = some r → r = b5 ∨ W5 ≤ r := fun r e => by
                                 rcases hat with h | h
                                 · exact HOC.out r (h ▸ e)
                                 · have e2 := h.symm.trans e
                                   injection e2 with e2
                                   have := HWJ.out
                                   omega
                               have hw9 : W5 ≤ W9.heap.size := by have := hgrow.size; have := HWJ.out; omega
                               have h09 : ∀ b ∈ ([w.heap.size + 1, gx, b3, b4, b5, b6] : List Nat), b ∈ S' := fun b hb => (hs1 b (by have := (HSB.out b (HS0.out b hb)).2; omega)).2 (HS0.out b hb)
                               have hd3 := (HD3.out.below qSchemaR_mono hb8).kept qSchemaR_mono hgrow (fun r e _ => HIN.out r e) (fun r e e2 => by have := HOC.out r e; have := HNE3.out r e2; omega) hs1
                               have hd4 := (HD4.out.below qRuleR_mono hb8).kept qRuleR_mono hgrow (fun r e _ => HIN.out r e) (fun r e e2 => by have := HOC.out r e; have := HNE4.out r e2; omega) hs1
                               have hp6 := Blk.grown (HP6.out.alloc _) hgrow (fun e => by have := HOC.out _ e.symm; have := HBW5.out; have := HBB.out; omega)
                               have q9 := hz9.x.cell 4
                               have f9 := hz9.x.frozen 4
                               simp only [List.getElem?_toArray, List.getElem?_cons_zero, List.getElem?_cons_succ] at q9
                               have l9 := hz9.x.lt
                               have HS29 := Lib.hid hs2
                               have HRW9 := Lib.hid hrow9
                               have HZ9 := Lib.hid hz9
                               have HK9 := Lib.hid hk9
                               have HO9 := Lib.hid ho9
                               have HW9 := Lib.hid hw9
                               have H09 := Lib.hid h09
                               have HD93 := Lib.hid hd3
                               have HD94 := Lib.hid hd4
                               have HP96 := Lib.hid hp6
                               clear hown hgrow hnil hat hb8 hz8 hs1 hs2 hrow9 hz9 hk9 ho9 hw9 h09 hd3 hd4 hp6)
                  go_roundg (n5 - (k + 1))
                  case measure => have := HQ.out; omega
                  case rel =>
                    have hg9 : W9.grownBy (W9.setCell ⟨gx, 4, none⟩ (.slice vA' vm' vc')) (some gx) := grown_near (World.grownBy.refl _ _) _ _
                    have hgs : gx ∈ S' := H09.out gx (by simp)
                    have hgr : ∀ r, some gx = some r → r < W9.heap.size → r ∈ S' := fun r e _ => by injection e with e; rw [← e]; exact hgs
                    have hsz : (W9.setCell ⟨gx, 4, none⟩ (.slice vA' vm' vc')).heap.size = W9.heap.size := by simp
                    refine ⟨k + 1, S', vA', vm', vc', by omega, rfl, by rw [all_snoc HM.out, ← Bool.and_assoc, ← HOB.out, Hob1.out, HTK.out], by go_num, ?_, HK9.out.grown hg9 (fun r e => .inl (by injection e with e; have := HGM.out; omega)), fun b hb => by rw [hsz]; exact HS29.out b hb, H09.out, HRW9.out.kept qConvertR_mono hg9 hgr (fun r e e2 => by injection e with e; have := HO9.out r e2; have := HBW5.out; have := HGX.out; omega) (fun _ _ => Iff.rfl), HO9.out, by rw [hsz]; exact HW9.out, HD93.out.kept qSchemaR_mono hg9 hgr (fun r e e2 => by injection e with e; have := HNE3.out r e2; omega) (fun _ _ => Iff.rfl), HD94.out.kept qRuleR_mono hg9 hgr (fun r e e2 => by injection e with e; have := HNE4.out r e2; omega) (fun _ _ => Iff.rfl), Blk.grown HP96.out hg9 (fun e => by injection e with e; have := HBB.out; have := HBW5.out; omega)⟩
                    have := HZ9.out.put HGX.out.1 4 (.slice vA' vm' vc')
                    simpa only [List.setIfInBounds_toArray, List.set_cons_zero, List.set_cons_succ] using this
              · have hke : k = s.converts.length := by have := HL5.out; omega
                have HOK : Hid (ob = (obp && s.converts.all (convertOk s))) := Lib.hid (by rw [HOB.out, hke, List.take_length])
                have hrw : RowS S b5 69 5 qConvertR (.slice vA vm vc) (s.converts.map (convertQ s)) wr := by have := HRW.out; rwa [hke, List.take_length] at this
                clear HRW hke HOB HQ
                have HRW := Lib.hid hrw
                clear hrw
                go_upto_region 29 with fail
                clear kc lk hk hlt
                obtain ⟨obq, hobq⟩ : ∃ x, x = ob := ⟨_, rfl⟩
                rw [← hobq] at HOK ⊢
                have HOK5 := Lib.hid HOK.out
                clear hobq HOK
                obtain ⟨obp, hobp⟩ : ∃ x, x = obq := ⟨_, rfl⟩
                rw [← hobp] at HOK5 ⊢
                clear hobp
                obtain ⟨V5, rfl⟩ : ∃ x, x = vA := ⟨_, rfl⟩
                obtain ⟨l5, rfl⟩ : ∃ x, x = vm := ⟨_, rfl⟩
                obtain ⟨g5, rfl⟩ : ∃ x, x = vc := ⟨_, rfl⟩
                obtain ⟨SS, rfl⟩ : ∃ x, x = S := ⟨_, rfl⟩
                obtain ⟨wl, rfl⟩ : ∃ x, x = wr := ⟨_, rfl⟩
                obtain ⟨kk5, rfl⟩ : ∃ x, x = k := ⟨_, rfl⟩
                obtain ⟨W6, hW6⟩ : ∃ x, x = wl.heap.size := ⟨_, rfl⟩
                have HD5 := Lib.hid HRW.out
                have HNE5 : Hid (∀ r, Value.ownBlock (.slice V5 l5 g5) = some r → r < W6 ∧ gx ≠ r ∧ r ≠ b6) := Lib.hid (fun r e => by
                  obtain ⟨cs, h1, _⟩ := HRW.out
                  have h2 := (h1.lt r e).2
                  have := HOC.out r e
                  have := HBB.out
                  have := HBW5.out
                  refine ⟨by omega, by omega, by omega⟩)
                have HNX3 : Hid (∀ r, Value.ownBlock (.slice V3 l3 g3) = some r → r < W6 ∧ gx ≠ r ∧ r ≠ b4 ∧ r ≠ b5 ∧ r ≠ b6) := Lib.hid (fun r e => by have h := HNE3.out r e; have := HWJ.out; exact ⟨by omega, h.2⟩)
                clear HNE3
                have HNE3 := Lib.hid HNX3.out
                clear HNX3
                have HNX4 : Hid (∀ r, Value.ownBlock (.slice V4 l4 g4) = some r → r < W6 ∧ gx ≠ r ∧ r ≠ b5 ∧ r ≠ b6) := Lib.hid (fun r e => by have h := HNE4.out r e; have := HWJ.out; exact ⟨by omega, h.2⟩)
                clear HNE4
                have HNE4 := Lib.hid HNX4.out
                clear HNX4
                have HBW6 : Hid (b6 < W6 ∧ b3 ≤ b6 ∧ b6 ≤ b6 ∧ gx < b6) := Lib.hid (by have := HBB.out; have := HBW5.out; have := HWJ.out; omega)
                have HRWN : Hid (RowS SS b6 74 3 qPurposeR (.slice (some ⟨b6, 0, none⟩) 0 0) ((s.purposes.take 0).map (purposeQ s)) wl) := Lib.hid (RowS.lit HP6.out (HS0.out b6 (by simp)))
                clear HRW HOC HWJ HP6
                have HRW := Lib.hid HRWN.out
                have HOC : Hid (∀ r, Value.ownBlock (.slice (some ⟨b6, 0, none⟩) 0 0) = some r → r = b6 ∨ W6 ≤ r) := Lib.hid (fun r e => by
                  have e2 : some b6 = some r := e
                  injection e2 with e2
                  exact .inl e2.symm)
                have HWJ : Hid (W6 ≤ wl.heap.size) := Lib.hid (by omega)
                clear HRWN hW6
                go_loopg [6, 16] n6 (fun q o i wr => ∃ (k : Nat) (S : List Nat) (vA : Option Addr) (vm vc : Nat), k ≤ n6 ∧ q = n6 - k ∧ o = .bool (obp && (s.purposes.take k).all (purposeOk s)) ∧ i = .int .i64 (k : Int) ∧ XZ w gx #[.slice A1 n1 c1, .slice A2 n2 c2, .slice A3 n3 c3, .slice A4 n4 c4, .slice A5 n5 c5, .slice A6 n6 c6] #[.slice A1 n1 c1, .slice U um uc, .slice V3 l3 g3, .slice V4 l4 g4, .slice V5 l5 g5, .slice vA vm vc] #[.slice none 0 0, .slice none 0 0, .slice none 0 0, .slice none 0 0, .slice none 0 0, .slice none 0 0] wr ∧ KU Mx wu wr ∧ (∀ b ∈ S, w.heap.size + 1 ≤ b ∧ b < wr.heap.size) ∧ (∀ b ∈ ([w.heap.size + 1, gx, b3, b4, b5, b6] : List Nat), b ∈ S) ∧ RowS S b6 74 3 qPurposeR (.slice vA vm vc) ((s.purposes.take k).map (purposeQ s)) wr ∧ (∀ r, Value.ownBlock (.slice vA vm vc) = some r → r = b6 ∨ W6 ≤ r) ∧ W6 ≤ wr.heap.size ∧ RowS S b3 40 6 qSchemaR (.slice V3 l3 g3) (s.schemas.map (schemaQ s)) wr ∧ RowS S b4 56 5 qRuleR (.slice V4 l4 g4) (s.rules.map (ruleQ s)) wr ∧ RowS S b5 69 5 qConvertR (.slice V5 l5 g5) (s.converts.map (convertQ s)) wr)
                case atStart => exact ⟨0, SS, _, _, _, Nat.zero_le _, rfl, by rw [List.take_zero, List.all_nil, Bool.and_true], rfl, HZ.out, HKU.out, HSB.out, HS0.out, HRW.out, HOC.out, HWJ.out, HD3.out, HD4.out, HD5.out⟩
                case round =>
                  clear HZ HKU HSB HS0 HRW HOC HWJ HD3 HD4 HD5
                  obtain ⟨k, S, vA, vm, vc, hk, hq, rfl, rfl, hz, hku, hsb, hs0, hrw, hoc, hwj, hd3, hd4, hd5⟩ := hrel
                  have HQ := Lib.hid hq
                  clear hq
                  obtain ⟨ob, hob⟩ : ∃ b, b = (obp && (s.purposes.take k).all (purposeOk s)) := ⟨_, rfl⟩
                  rw [← hob]
                  have HOB := Lib.hid hob
                  clear hob
                  have HZ := Lib.hid hz
                  have HKU := Lib.hid hku
                  have HSB := Lib.hid hsb
                  have HS0 := Lib.hid hs0
                  have HRW := Lib.hid hrw
                  have HOC := Lib.hid hoc
                  have HWJ := Lib.hid hwj
                  have HD3 := Lib.hid hd3
                  have HD4 := Lib.hid hd4
                  have HD5 := Lib.hid hd5
                  clear hz hku hsb hs0 hrw hoc hwj hd3 hd4 hd5
                  have kc := HZ.out.s.cell 5
                  simp only [List.getElem?_toArray, List.getElem?_cons_zero, List.getElem?_cons_succ] at kc
                  have lk := HZ.out.s.lt
                  by_cases hlt : k < n6
                  · have hkn : (k : Int) < (n6 : Int) := by omega
                    have hk0 : (0 : Int) ≤ (k : Int) := by omega
                    obtain ⟨y, hm⟩ : ∃ y, s.purposes[k]? = some y := ⟨s.purposes[k]'(by have := HL6.out; omega), List.getElem?_eq_getElem _⟩
                    have HM := Lib.hid hm
                    clear hm kc lk
                    have HPW := Lib.hid (src_parts (qSourceR_mono _ _ HZ.out.bl _ _ HS.out))
                    obtain ⟨b, off, y', B1, m1, d1, rfl, hbl, hy', s0, s1, s2, hz1⟩ := qPurpose_at (HPW.out.2.2.2.2.2.1) hlt
                    obtain rfl : y = y' := by have := HM.out; rw [hy'] at this; exact (Option.some.inj this).symm
                    have HPX : Hid (∀ X, Below wr.heap.size wr X → qSourceR X [.slice A1 n1 c1, .slice A2 n2 c2, .slice A3 n3 c3, .slice A4 n4 c4, .slice A5 n5 c5, .slice (some ⟨b, off, none⟩) n6 c6] s) := Lib.hid (fun X hX => qSourceR_mono _ _ (below_step HZ.out.bl hX) _ _ HS.out)
                    have HEX : Hid (∀ X, Below wr.heap.size wr X → SlB 4 48 qRefR X (.slice B1 m1 d1) y.may) := Lib.hid (fun X hX => hz1.mono qRefR_mono hX)
                    clear HPW hy' hz1
                    obtain ⟨k0, k1, k2, k3, k4, k5⟩ := six_cells HZ.out.s (Below.refl _ _)
                    have lk := HZ.out.s.lt
                    obtain ⟨tk, htk⟩ : ∃ b, b = purposeOk s y := ⟨_, rfl⟩
                    have HTK := Lib.hid htk
                    have HCV : Hid (∀ X, Below wr.heap.size wr X → Calls Try.prog 44 #[.agg #[.slice A1 n1 c1, .slice A2 n2 c2, .slice A3 n3 c3, .slice A4 n4 c4, .slice A5 n5 c5, .slice (some ⟨b, off, none⟩) n6 c6], .agg #[.string y.name, .slice B1 m1 d1, .int .i64 y.most]] X (RetPair qPurposeR 0 (purposeQ s y) tk X)) := Lib.hid (fun X hX => by
                      have h := refPurposeX_any A1 A2 A3 A4 A5 (some ⟨b, off, none⟩) n1 c1 n2 c2 n3 c3 n4 c4 n5 c5 n6 c6 B1 m1 d1 s y X (HPX.out _ hX) (HEX.out _ hX)
                      rw [← htk] at h
                      exact h)
                    clear htk
                    go_upto_region 31 with fail
                    have HKT : Hid (∀ X : World, Below wr.heap.size wr X → X.cell? ⟨w.heap.size, 0, none⟩ = some (.slice A1 n1 c1) ∧ X.cell? ⟨w.heap.size, 1, none⟩ = some (.slice A2 n2 c2) ∧ X.cell? ⟨w.heap.size, 2, none⟩ = some (.slice A3 n3 c3) ∧ X.cell? ⟨w.heap.size, 3, none⟩ = some (.slice A4 n4 c4) ∧ X.cell? ⟨w.heap.size, 4, none⟩ = some (.slice A5 n5 c5) ∧ X.cell? ⟨w.heap.size, 5, none⟩ = some (.slice (some ⟨b, off, none⟩) n6 c6) ∧ X.cell? ⟨b, off + k * 3, none⟩ = some (.string y.name) ∧ X.cell? ⟨b, off + k * 3 + 1, none⟩ = some (.slice B1 m1 d1) ∧ X.cell? ⟨b, off + k * 3 + 2, none⟩ = some (.int .i64 y.most)) := Lib.hid (fun X hX => ⟨(hX.cell (p := ⟨w.heap.size, 0, none⟩) lk).trans k0, (hX.cell (p := ⟨w.heap.size, 1, none⟩) lk).trans k1, (hX.cell (p := ⟨w.heap.size, 2, none⟩) lk).trans k2, (hX.cell (p := ⟨w.heap.size, 3, none⟩) lk).trans k3, (hX.cell (p := ⟨w.heap.size, 4, none⟩) lk).trans k4, (hX.cell (p := ⟨w.heap.size, 5, none⟩) lk).trans k5, (hX.cell (p := ⟨b, off + k * 3, none⟩) hbl).trans s0, (hX.cell (p := ⟨b, off + k * 3 + 1, none⟩) hbl).trans s1, (hX.cell (p := ⟨b, off + k * 3 + 2, none⟩) hbl).trans s2⟩)
                    apply wp_via4 (G := fun E1 e1 f1 gy w3 => Below wr.heap.size wr w3 ∧ wr.heap.size ≤ gy ∧ Blk w3 gy 74 #[.string (purposeQ s y).name, .slice E1 e1 f1, .int .i64 (purposeQ s y).most] ∧ qPurposeR (mask 0 wr.heap.size w3) [.string (purposeQ s y).name, .slice E1 e1 f1, .int .i64 (purposeQ s y).most] (purposeQ s y))
                    · go_region_held3 (fun w' => w'.cell? ⟨w.heap.size, 0, none⟩ = some (.slice A1 n1 c1) ∧ w'.cell? ⟨w.heap.size, 1, none⟩ = some (.slice A2 n2 c2) ∧ w'.cell? ⟨w.heap.size, 2, none⟩ = some (.slice A3 n3 c3) ∧ w'.cell? ⟨w.heap.size, 3, none⟩ = some (.slice A4 n4 c4) ∧ w'.cell? ⟨w.heap.size, 4, none⟩ = some (.slice A5 n5 c5) ∧ w'.cell? ⟨w.heap.size, 5, none⟩ = some (.slice (some ⟨b, off, none⟩) n6 c6) ∧ w'.cell? ⟨b, off + k * 3, none⟩ = some (.string y.name) ∧ w'.cell? ⟨b, off + k * 3 + 1, none⟩ = some (.slice B1 m1 d1) ∧ w'.cell? ⟨b, off + k * 3 + 2, none⟩ = some (.int .i64 y.most))
                        (first | with_reducible exact HKT.out _ HBC.out | with_reducible exact HKT.out _ (Below.refl _ _).drew | with_reducible exact HKT.out _ (below_one _ _).drew | with_reducible exact HKT.out _ (HBC.out.alloc HBC.out.size _) | with_reducible exact HKT.out _ (below_grown HBC.out (grown_setL [.string (purposeQ s y).name, .slice E1 e1 f1, .int .i64 (purposeQ s y).most] 0 _ (World.grownBy.refl _ (some wr.heap.size))) (Nat.le_refl _)) | with_reducible exact HKT.out _ (Below.refl _ _))
                        (first
                          | (go_at_call 44; ((with_reducible refine (HCV.out _ (Below.refl _ _).drew).mono ?_)); rintro e wd ⟨cs, rfl, hel, hbc⟩
                             obtain ⟨E1, e1, f1, rfl, hfl⟩ := hel
                             have hbz : Below wr.heap.size wr wd := Below.trans (Below.refl _ _).drew hbc
                             have HEL0 : Hid (qPurposeR (mask 0 wr.heap.size wd) [.string (purposeQ s y).name, .slice E1 e1 f1, .int .i64 (purposeQ s y).most] (purposeQ s y)) := Lib.hid ⟨E1, e1, f1, rfl, hfl⟩
                             have HBC := Lib.hid hbz
                             clear hbc hbz hfl)
                          | (go_at_call 44; ((with_reducible refine (HCV.out _ (below_one _ _).drew).mono ?_)); rintro e wd ⟨cs, rfl, hel, hbc⟩
                             obtain ⟨E1, e1, f1, rfl, hfl⟩ := hel
                             have hbz : Below wr.heap.size wr wd := below_step (below_one _ _).drew hbc
                             have HEL0 : Hid (qPurposeR (mask 0 (wr.heap.size + 1) wd) [.string (purposeQ s y).name, .slice E1 e1 f1, .int .i64 (purposeQ s y).most] (purposeQ s y)) := Lib.hid (by
                               have h : qPurposeR (mask 0 (wr.alloc (.cells #[.string ⟨#[]⟩, .slice none 0 0, .int .i64 0] 74)).drew.heap.size wd) [.string (purposeQ s y).name, .slice E1 e1 f1, .int .i64 (purposeQ s y).most] (purposeQ s y) := ⟨E1, e1, f1, rfl, hfl⟩
                               have e : (wr.alloc (.cells #[.string ⟨#[]⟩, .slice none 0 0, .int .i64 0] 74)).drew.heap.size = wr.heap.size + 1 := by simp
                               rw [e] at h
                               exact h)
                             have hy0 : Blk wd wr.heap.size 74 #[.string ⟨#[]⟩, .slice none 0 0, .int .i64 0] := (show Blk (wr.alloc (.cells #[.string ⟨#[]⟩, .slice none 0 0, .int .i64 0] 74)).drew wr.heap.size 74 #[.string ⟨#[]⟩, .slice none 0 0, .int .i64 0] from Blk.new _ _ _).below hbc (by simp)
                             have r0 := hy0.cell 0
                             have g0 := hy0.frozen 0
                             have r1 := hy0.cell 1
                             have g1 := hy0.frozen 1
                             have r2 := hy0.cell 2
                             have g2 := hy0.frozen 2
                             simp only [List.getElem?_toArray, List.getElem?_cons_zero, List.getElem?_cons_succ] at r0 r1 r2
                             have lz := hy0.lt
                             have HY0 := Lib.hid hy0
                             have HBC := Lib.hid hbz
                             clear hbc hbz hfl hy0))
                      · obtain ⟨gy, hgy⟩ : ∃ x, x = wd.heap.size := ⟨_, rfl⟩
                        have hal : Below wd.heap.size wd (wd.alloc (.cells #[.string (purposeQ s y).name, .slice E1 e1 f1, .int .i64 (purposeQ s y).most] 74)) := below_one _ _
                        have hy8 : Blk (wd.alloc (.cells #[.string (purposeQ s y).name, .slice E1 e1 f1, .int .i64 (purposeQ s y).most] 74)) wd.heap.size 74 #[.string (purposeQ s y).name, .slice E1 e1 f1, .int .i64 (purposeQ s y).most] := Blk.new _ _ _
                        have he8 : qPurposeR (mask 0 wr.heap.size (wd.alloc (.cells #[.string (purposeQ s y).name, .slice E1 e1 f1, .int .i64 (purposeQ s y).most] 74))) [.string (purposeQ s y).name, .slice E1 e1 f1, .int .i64 (purposeQ s y).most] (purposeQ s y) := qPurposeR_mono _ _ (mask_below0 hal) _ _ HEL0.out
                        have hb8 := below_step HBC.out hal
                        have hle := HBC.out.size
                        rw [← hgy] at hy8 hle ⊢
                        exact ⟨E1, e1, f1, gy, rfl, hb8, hle, hy8, he8⟩
                      · have hlz := HY0.out.lt
                        have hg8 : wd.grownBy (wd.setCells wr.heap.size 0 [.string (purposeQ s y).name, .slice E1 e1 f1, .int .i64 (purposeQ s y).most]) (some wr.heap.size) := grown_setL _ _ _ (World.grownBy.refl _ _)
                        have hy8 : Blk (wd.setCells wr.heap.size 0 [.string (purposeQ s y).name, .slice E1 e1 f1, .int .i64 (purposeQ s y).most]) wr.heap.size 74 #[.string (purposeQ s y).name, .slice E1 e1 f1, .int .i64 (purposeQ s y).most] := by
                          have := (((HY0.out.put 0 (.string (purposeQ s y).name)).put 1 (.slice E1 e1 f1)).put 2 (.int .i64 (purposeQ s y).most))
                          simp only [List.setIfInBounds_toArray, List.set_cons_zero, List.set_cons_succ] at this
                          exact this
                        have he8 : qPurposeR (mask 0 wr.heap.size (wd.setCells wr.heap.size 0 [.string (purposeQ s y).name, .slice E1 e1 f1, .int .i64 (purposeQ s y).most])) [.string (purposeQ s y).name, .slice E1 e1 f1, .int .i64 (purposeQ s y).most] (purposeQ s y) := by
                          have h := qPurposeR_mono _ _ (mask_below (lo := 0) (M := wr.heap.size + 1) hg8 (Nat.zero_le _) (Nat.lt_succ_self _)) _ _ HEL0.out
                          rw [mask_split (Nat.zero_le _) (Nat.le_succ _)] at h
                          exact qPurposeR_unm _ _ _ _ _ h
                        have hb8 : Below wr.heap.size wr (wd.setCells wr.heap.size 0 [.string (purposeQ s y).name, .slice E1 e1 f1, .int .i64 (purposeQ s y).most]) := below_grown HBC.out hg8 (Nat.le_refl _)
                        exact ⟨E1, e1, f1, wr.heap.size, rfl, hb8, Nat.le_refl _, hy8, he8⟩
                    rintro E1 e1 f1 gy wy ⟨hbz, hgy, hy, hel⟩
                    clear HKT HPX HEX HCV k0 k1 k2 k3 k4 k5 lk hbl s0 s1 s2
                    have HEL := Lib.hid (new_hideL qPurposeR_unm (fun b hb => ⟨Nat.zero_le _, (HSB.out b hb).2⟩) hel)
                    have HY := Lib.hid hy
                    clear hy hel hgy
                    have hz := HZ.out.below hbz
                    have hku := HKU.out.below hbz
                    have hsb : ∀ b ∈ S, w.heap.size + 1 ≤ b ∧ b < wy.heap.size := fun b hb' => ⟨(HSB.out b hb').1, Nat.lt_of_lt_of_le (HSB.out b hb').2 (hbz).size⟩
                    have hrw := HRW.out.below qPurposeR_mono hbz
                    have hwj := Nat.le_trans HWJ.out (hbz).size
                    have hd3 := HD3.out.below qSchemaR_mono hbz
                    have hd4 := HD4.out.below qRuleR_mono hbz
                    have hd5 := HD5.out.below qConvertR_mono hbz
                    clear HZ HKU HSB HRW HWJ HD3 HD4 HD5
                    have HZ := Lib.hid hz
                    have HKU := Lib.hid hku
                    have HSB := Lib.hid hsb
                    have HRW := Lib.hid hrw
                    have HWJ := Lib.hid hwj
                    have HD3 := Lib.hid hd3
                    have HD4 := Lib.hid hd4
                    have HD5 := Lib.hid hd5
                    clear hz hku hsb hrw hwj hd3 hd4 hd5
                    clear hbz
                    go_upto_region 32 with fail
                    go_cut [6] from 132 to 135 (fun v wx => v = .bool (ob && tk) ∧ wx = wy)
                    case first =>
                      · cases ob with
                        | false =>
                          go_wp2_with fail
                          go_meet
                          exact ⟨rfl, rfl⟩
                        | true =>
                          cases tk with
                          | false =>
                            go_wp2_with fail
                            go_meet
                            exact ⟨rfl, rfl⟩
                          | true =>
                            go_wp2_with fail
                            go_meet
                            exact ⟨rfl, rfl⟩
                    case rest =>
                      obtain ⟨rfl, rfl⟩ := hcut
                      obtain ⟨wy, rfl⟩ : ∃ x, x = wc := ⟨_, rfl⟩
                      obtain ⟨ob1, hob1⟩ : ∃ b, b = (ob && tk) := ⟨_, rfl⟩
                      rw [← hob1]
                      have Hob1 := Lib.hid hob1
                      clear hob1
                      obtain ⟨co, hor, hin, hco⟩ := HRW.out
                      have HOR := Lib.hid hor
                      have HIN := Lib.hid hin
                      have HCO := Lib.hid hco
                      clear hor hin hco
                      have HLN : Hid (((s.purposes.take k).map (purposeQ s)).length = k) := Lib.hid (by have := HL6.out; simp; omega)
                      have hor2 : wy.ownsRow b6 74 3 (.slice vA vm vc) k co := by have := HOR.out; rwa [HLN.out] at this
                      have HOR2 := Lib.hid hor2
                      clear hor2
                      have q2 := HZ.out.x.cell 5
                      simp only [List.getElem?_toArray, List.getElem?_cons_zero, List.getElem?_cons_succ] at q2
                      have lx := HZ.out.x.lt
                      have y0 := HY.out.cell 0
                      have y1 := HY.out.cell 1
                      have y2 := HY.out.cell 2
                      simp only [List.getElem?_toArray, List.getElem?_cons_zero, List.getElem?_cons_succ] at y0 y1 y2
                      have ly := HY.out.lt
                      go_wp2_with (at_builtin; refine wpList_append_own_at _ rfl (.tmp 137) (.tmp 139) 27 rfl b6 74 j6 _ 3 48 Try.underlying27 I6.out Z6.out.1 Z6.out.2.1 Z6.out.2.2 rfl (by decide) (.slice vA vm vc) k co rfl (HOR2.out.alloc _) ⟨wy.heap.size, 0, none⟩ 1 1 [.string (purposeQ s y).name, .slice E1 e1 f1, .int .i64 (purposeQ s y).most] rfl rfl (rf_news (Blk.new _ _ _)) (by intro x hx; simp only [List.mem_cons, List.not_mem_nil, or_false] at hx; rcases hx with rfl | rfl | rfl <;> rfl) (by have := HNB6.out; unfold maxLen; omega) (by have := HNB6.out; omega) (by have := HWJ.out; have := HBW6.out; simp; omega) ?_
                                   intro v' W9 hown hgrow hnil hat
                                   obtain ⟨vA', vm', vc', rfl⟩ := own_form hown
                                   have hb8 : Below wy.heap.size wy (wy.alloc (.cells #[.string (purposeQ s y).name, .slice E1 e1 f1, .int .i64 (purposeQ s y).most] 74)) := below_one _ _
                                   have hz8 : (wy.alloc (.cells #[.string (purposeQ s y).name, .slice E1 e1 f1, .int .i64 (purposeQ s y).most] 74)).heap.size = wy.heap.size + 1 := by simp
                                   obtain ⟨S', hs1, hs2, hrow9⟩ := RowS.push (lo := w.heap.size + 1) HIN.out (HCO.out.mono qPurposeR_mono (hideL_below hb8)) qPurposeR_mono (fun b hb => ⟨(HSB.out b hb).1, by have := (HSB.out b hb).2; omega⟩) (by have := HZ.out.x.lt; have := HGX.out; omega) (by rw [HLN.out]; exact hown) hgrow hat (qPurposeR_mono _ _ (hideL_below hb8) _ _ HEL.out) rfl
                                   rw [map_snoc HM.out] at hrow9
                                   have hz9 := (HZ.out.below hb8).far hgrow (fun r e => by have := HOC.out r e; have := HGX.out; have := HBW6.out; omega)
                                   have hk9 := (HKU.out.below hb8).grown hgrow (fun r e => .inr (by have := HOC.out r e; have := HBW6.out; have := HWU.out; omega))
                                   have ho9 : ∀ r, Value.ownBlock (.slice vA' vm' vc') = some r → r = b6 ∨ W6 ≤ r := fun r e => by
                                     rcases hat with h | h
                                     · exact HOC.out r (h ▸ e)
                                     · have e2 := h.symm.trans e
                                       injection e2 with e2
                                       have := HWJ.out
                                       omega
                                   have hw9 : W6 ≤ W9.heap.size := by have := hgrow.size; have := HWJ.out; omega
                                   have h09 : ∀ b ∈ ([w.heap.size + 1, gx, b3, b4, b5, b6] : List Nat), b ∈ S' := fun b hb => (hs1 b (by have := (HSB.out b (HS0.out b hb)).2; omega)).2 (HS0.out b hb)
                                   have hd3 := (HD3.out.below qSchemaR_mono hb8).kept qSchemaR_mono hgrow (fun r e _ => HIN.out r e) (fun r e e2 => by have := HOC.out r e; have := HNE3.out r e2; omega) hs1
                                   have hd4 := (HD4.out.below qRuleR_mono hb8).kept qRuleR_mono hgrow (fun r e _ => HIN.out r e) (fun r e e2 => by have := HOC.out r e; have := HNE4.out r e2; omega) hs1
                                   have hd5 := (HD5.out.below qConvertR_mono hb8).kept qConvertR_mono hgrow (fun r e _ => HIN.out r e) (fun r e e2 => by have := HOC.out r e; have := HNE5.out r e2; omega) hs1
                                   have q9 := hz9.x.cell 5
                                   have f9 := hz9.x.frozen 5
                                   simp only [List.getElem?_toArray, List.getElem?_cons_zero, List.getElem?_cons_succ] at q9
                                   have l9 := hz9.x.lt
                                   have HS29 := Lib.hid hs2
                                   have HRW9 := Lib.hid hrow9
                                   have HZ9 := Lib.hid hz9
                                   have HK9 := Lib.hid hk9
                                   have HO9 := Lib.hid ho9
                                   have HW9 := Lib.hid hw9
                                   have H09 := Lib.hid h09
                                   have HD93 := Lib.hid hd3
                                   have HD94 := Lib.hid hd4
                                   have HD95 := Lib.hid hd5
                                   clear hown hgrow hnil hat hb8 hz8 hs1 hs2 hrow9 hz9 hk9 ho9 hw9 h09 hd3 hd4 hd5 )
                      go_roundg (n6 - (k + 1))
                      case measure => have := HQ.out; omega
                      case rel =>
                        have hg9 : W9.grownBy (W9.setCell ⟨gx, 5, none⟩ (.slice vA' vm' vc')) (some gx) := grown_near (World.grownBy.refl _ _) _ _
                        have hgs : gx ∈ S' := H09.out gx (by simp)
                        have hgr : ∀ r, some gx = some r → r < W9.heap.size → r ∈ S' := fun r e _ => by injection e with e; rw [← e]; exact hgs
                        have hsz : (W9.setCell ⟨gx, 5, none⟩ (.slice vA' vm' vc')).heap.size = W9.heap.size := by simp
                        refine ⟨k + 1, S', vA', vm', vc', by omega, rfl, by rw [all_snoc HM.out, ← Bool.and_assoc, ← HOB.out, Hob1.out, HTK.out], by go_num, ?_, HK9.out.grown hg9 (fun r e => .inl (by injection e with e; have := HGM.out; omega)), fun b hb => by rw [hsz]; exact HS29.out b hb, H09.out, HRW9.out.kept qPurposeR_mono hg9 hgr (fun r e e2 => by injection e with e; have := HO9.out r e2; have := HBW6.out; have := HGX.out; omega) (fun _ _ => Iff.rfl), HO9.out, by rw [hsz]; exact HW9.out, HD93.out.kept qSchemaR_mono hg9 hgr (fun r e e2 => by injection e with e; have := HNE3.out r e2; omega) (fun _ _ => Iff.rfl), HD94.out.kept qRuleR_mono hg9 hgr (fun r e e2 => by injection e with e; have := HNE4.out r e2; omega) (fun _ _ => Iff.rfl), HD95.out.kept qConvertR_mono hg9 hgr (fun r e e2 => by injection e with e; have := HNE5.out r e2; omega) (fun _ _ => Iff.rfl)⟩
                        have := HZ9.out.put HGX.out.1 5 (.slice vA' vm' vc')
                        simpa only [List.setIfInBounds_toArray, List.set_cons_zero, List.set_cons_succ] using this
                  · have hke : k = s.purposes.length := by have := HL6.out; omega
                    have HOK : Hid (ob = (obp && s.purposes.all (purposeOk s))) := Lib.hid (by rw [HOB.out, hke, List.take_length])
                    have hrw : RowS S b6 74 3 qPurposeR (.slice vA vm vc) (s.purposes.map (purposeQ s)) wr := by have := HRW.out; rwa [hke, List.take_length] at this
                    clear HRW hke HOB HQ
                    have HRW := Lib.hid hrw
                    clear hrw
                    have HFIN : Hid (ob = numOk s) := Lib.hid (by rw [HOK.out, HOK5.out, HOK4.out, HOK3.out, HTU.out]; rfl)
                    clear HOK
                    cases ob with
                    | false =>
                      have HE : Hid (resolveP s = (110, noSource)) := Lib.hid (by rw [resolveP_test, ← HTW.out, if_neg (by simp), ← HFIN.out, if_neg (by simp)])
                      have z0 := HZ.out.r.cell 0
                      have u0 := HZ.out.r.frozen 0
                      have z1 := HZ.out.r.cell 1
                      have u1 := HZ.out.r.frozen 1
                      have z2 := HZ.out.r.cell 2
                      have u2 := HZ.out.r.frozen 2
                      have z3 := HZ.out.r.cell 3
                      have u3 := HZ.out.r.frozen 3
                      have z4 := HZ.out.r.cell 4
                      have u4 := HZ.out.r.frozen 4
                      have z5 := HZ.out.r.cell 5
                      have u5 := HZ.out.r.frozen 5
                      simp only [List.getElem?_toArray, List.getElem?_cons_zero, List.getElem?_cons_succ] at z0 z1 z2 z3 z4 z5
                      have lz := HZ.out.r.lt
                      go_wp2_with fail
                      have hbl : Below w.heap.size w (wr.setCells (w.heap.size + 1) 0 [.slice none 0 0, .slice none 0 0, .slice none 0 0, .slice none 0 0, .slice none 0 0, .slice none 0 0]) := below_grown HZ.out.bl (grown_setL _ _ _ (World.grownBy.refl _ _)) (by omega)
                      refine ⟨rfl, .tuple #[.agg #[.slice none 0 0, .slice none 0 0, .slice none 0 0, .slice none 0 0, .slice none 0 0, .slice none 0 0], .int .i64 110], ?_, [.slice none 0 0, .slice none 0 0, .slice none 0 0, .slice none 0 0, .slice none 0 0, .slice none 0 0], by rw [HE.out], by rw [HE.out]; exact noSrc _, hbl⟩
                      simp [results, Try.results13, go_sem, *]
                    | true =>
                      have HE : Hid (resolveP s = (0, numQ s)) := Lib.hid (by rw [resolveP_test, ← HTW.out, if_neg (by simp), ← HFIN.out, if_pos rfl])
                      have z0 := HZ.out.r.cell 0
                      have u0 := HZ.out.r.frozen 0
                      have z1 := HZ.out.r.cell 1
                      have u1 := HZ.out.r.frozen 1
                      have z2 := HZ.out.r.cell 2
                      have u2 := HZ.out.r.frozen 2
                      have z3 := HZ.out.r.cell 3
                      have u3 := HZ.out.r.frozen 3
                      have z4 := HZ.out.r.cell 4
                      have u4 := HZ.out.r.frozen 4
                      have z5 := HZ.out.r.cell 5
                      have u5 := HZ.out.r.frozen 5
                      simp only [List.getElem?_toArray, List.getElem?_cons_zero, List.getElem?_cons_succ] at z0 z1 z2 z3 z4 z5
                      have lz := HZ.out.r.lt
                      have y0 := HZ.out.x.cell 0
                      have y1 := HZ.out.x.cell 1
                      have y2 := HZ.out.x.cell 2
                      have y3 := HZ.out.x.cell 3
                      have y4 := HZ.out.x.cell 4
                      have y5 := HZ.out.x.cell 5
                      simp only [List.getElem?_toArray, List.getElem?_cons_zero, List.getElem?_cons_succ] at y0 y1 y2 y3 y4 y5
                      have lx := HZ.out.x.lt
                      go_wp2_with fail
                      have hg5 : wr.grownBy (wr.setCells (w.heap.size + 1) 0 [.slice A1 n1 c1, .slice U um uc, .slice V3 l3 g3, .slice V4 l4 g4, .slice V5 l5 g5, .slice vA vm vc]) (some (w.heap.size + 1)) := grown_setL _ _ _ (World.grownBy.refl _ _)
                      have hbl : Below w.heap.size w (wr.setCells (w.heap.size + 1) 0 [.slice A1 n1 c1, .slice U um uc, .slice V3 l3 g3, .slice V4 l4 g4, .slice V5 l5 g5, .slice vA vm vc]) := below_grown HZ.out.bl hg5 (by omega)
                      have hgr : ∀ r, some (w.heap.size + 1) = some r → r < wr.heap.size → r ∈ S := fun r e _ => by injection e with e; rw [← e]; exact HS0.out _ (by simp)
                      have hne3 : ∀ r, some (w.heap.size + 1) = some r → Value.ownBlock (.slice V3 l3 g3) ≠ some r := fun r e e2 => by
                        obtain ⟨cs, h1, _⟩ := HD3.out
                        have := (h1.lt r e2).1
                        have := HGX.out
                        injection e with e
                        omega
                      have hne4 : ∀ r, some (w.heap.size + 1) = some r → Value.ownBlock (.slice V4 l4 g4) ≠ some r := fun r e e2 => by
                        obtain ⟨cs, h1, _⟩ := HD4.out
                        have := (h1.lt r e2).1
                        have := HGX.out
                        have := HBB.out
                        injection e with e
                        omega
                      have hne5 : ∀ r, some (w.heap.size + 1) = some r → Value.ownBlock (.slice V5 l5 g5) ≠ some r := fun r e e2 => by
                        obtain ⟨cs, h1, _⟩ := HD5.out
                        have := (h1.lt r e2).1
                        have := HGX.out
                        have := HBB.out
                        injection e with e
                        omega
                      have hne6 : ∀ r, some (w.heap.size + 1) = some r → Value.ownBlock (.slice vA vm vc) ≠ some r := fun r e e2 => by
                        obtain ⟨cs, h1, _⟩ := HRW.out
                        have := (h1.lt r e2).1
                        have := HGX.out
                        have := HBB.out
                        injection e with e
                        omega
                      have key : qSourceR (wr.setCells (w.heap.size + 1) 0 [.slice A1 n1 c1, .slice U um uc, .slice V3 l3 g3, .slice V4 l4 g4, .slice V5 l5 g5, .slice vA vm vc]) [.slice A1 n1 c1, .slice U um uc, .slice V3 l3 g3, .slice V4 l4 g4, .slice V5 l5 g5, .slice vA vm vc] (numQ s) := by
                        have p1 := (src_parts (qSourceR_mono _ _ hbl _ _ HS.out)).1
                        have p2 := ((HKU.out.grown hg5 (fun r e => .inl (by injection e with e; have := HGX.out; have := HGM.out; omega))).sl qUnitR_mono HUS.out).unm qUnitR_unm
                        have p3 := (HD3.out.kept qSchemaR_mono hg5 hgr hne3 (fun _ _ => Iff.rfl)).sl qSchemaR_unm
                        have p4 := (HD4.out.kept qRuleR_mono hg5 hgr hne4 (fun _ _ => Iff.rfl)).sl qRuleR_unm
                        have p5 := (HD5.out.kept qConvertR_mono hg5 hgr hne5 (fun _ _ => Iff.rfl)).sl qConvertR_unm
                        have p6 := (HRW.out.kept qPurposeR_mono hg5 hgr hne6 (fun _ _ => Iff.rfl)).sl qPurposeR_unm
                        exact src_whole p1 p2 ⟨p3, by have := HNB3.out; have := HL3.out; show (List.map _ _).length * 96 ≤ _; rw [List.length_map]; omega⟩ ⟨p4, by have := HNB4.out; have := HL4.out; show (List.map _ _).length * 96 ≤ _; rw [List.length_map]; omega⟩ ⟨p5, by have := HNB5.out; have := HL5.out; show (List.map _ _).length * 72 ≤ _; rw [List.length_map]; omega⟩ ⟨p6, by have := HNB6.out; have := HL6.out; show (List.map _ _).length * 48 ≤ _; rw [List.length_map]; omega⟩
                      have hc1 : (0 : Int) = (resolveP s).1 := by rw [HE.out]
                      have key2 : qSourceR (wr.setCells (w.heap.size + 1) 0 [.slice A1 n1 c1, .slice U um uc, .slice V3 l3 g3, .slice V4 l4 g4, .slice V5 l5 g5, .slice vA vm vc]) [.slice A1 n1 c1, .slice U um uc, .slice V3 l3 g3, .slice V4 l4 g4, .slice V5 l5 g5, .slice vA vm vc] (resolveP s).2 := by rw [HE.out]; exact key
                      refine ⟨rfl, .tuple #[.agg #[.slice A1 n1 c1, .slice U um uc, .slice V3 l3 g3, .slice V4 l4 g4, .slice V5 l5 g5, .slice vA vm vc], .int .i64 0], ?_, [.slice A1 n1 c1, .slice U um uc, .slice V3 l3 g3, .slice V4 l4 g4, .slice V5 l5 g5, .slice vA vm vc], by rw [← hc1], key2, hbl⟩
                      simp [results, Try.results13, go_sem, *]
end Go.Proofs.Ytkkkephjljiplaa

namespace Go.Proofs.Ytkkkephjljiplaa
open Go.RowKit

set_option maxHeartbeats 4000000 in
set_option maxRecDepth 100000 in
theorem resolveSpec_any (A1 A2 A3 A4 A5 A6 : Option Addr) (n1 c1 n2 c2 n3 c3 n4 c4 n5 c5 n6 c6 : Nat) (s : QSource) (w : World)
    (h1 : SlB 1 16 strR w (.slice A1 n1 c1) s.issuers) (h2 : SlB 5 56 qUnitR w (.slice A2 n2 c2) s.units) (h3 : SlB 6 96 qSchemaR w (.slice A3 n3 c3) s.schemas) (h4 : SlB 5 96 qRuleR w (.slice A4 n4 c4) s.rules) (h5 : SlB 5 72 qConvertR w (.slice A5 n5 c5) s.converts) (h6 : SlB 3 48 qPurposeR w (.slice A6 n6 c6) s.purposes) :
    Calls Try.prog 3 #[.agg #[.slice A1 n1 c1, .slice A2 n2 c2, .slice A3 n3 c3, .slice A4 n4 c4, .slice A5 n5 c5, .slice A6 n6 c6]] w fun e w' => e = .returned (.bool true) ∧ Below w.heap.size w w' := by
  have H1 := Lib.hid h1
  clear h1
  have H2 := Lib.hid h2
  clear h2
  have H3 := Lib.hid h3
  clear h3
  have H4 := Lib.hid h4
  clear h4
  have H5 := Lib.hid h5
  clear h5
  have H6 := Lib.hid h6
  clear h6
  go_enter Try.func3, Try.ntmps3
  go_upto_region 1 with fail
  have hk : Blk (w.alloc (.cells #[.slice A1 n1 c1, .slice A2 n2 c2, .slice A3 n3 c3, .slice A4 n4 c4, .slice A5 n5 c5, .slice A6 n6 c6] 29)) w.heap.size 29 #[.slice A1 n1 c1, .slice A2 n2 c2, .slice A3 n3 c3, .slice A4 n4 c4, .slice A5 n5 c5, .slice A6 n6 c6] := Blk.new _ _ _
  have hb : Below w.heap.size w (w.alloc (.cells #[.slice A1 n1 c1, .slice A2 n2 c2, .slice A3 n3 c3, .slice A4 n4 c4, .slice A5 n5 c5, .slice A6 n6 c6] 29)) := (Below.refl _ _).alloc (Nat.le_refl _) _
  obtain ⟨g, hg⟩ : ∃ g, g = w.heap.size := ⟨_, rfl⟩
  rw [← hg] at hk ⊢
  generalize w.alloc (.cells #[.slice A1 n1 c1, .slice A2 n2 c2, .slice A3 n3 c3, .slice A4 n4 c4, .slice A5 n5 c5, .slice A6 n6 c6] 29) = wb at hk hb ⊢
  have HK := Lib.hid hk
  have HB := Lib.hid hb
  clear hk hb hg
  go_wp2_with fail
  refine (sane_any wb).mono ?_
  rintro e w1 ⟨rfl, hb1⟩
  have hk1 := HK.out.below hb1 HK.out.lt
  have k0 := hk1.cell 0
  have k1 := hk1.cell 1
  have k2 := hk1.cell 2
  have k3 := hk1.cell 3
  have k4 := hk1.cell 4
  have k5 := hk1.cell 5
  simp only [List.getElem?_toArray, List.getElem?_cons_zero, List.getElem?_cons_succ] at k0 k1 k2 k3 k4 k5
  have HK1 := Lib.hid hk1
  have HB1 := Lib.hid (HB.out.trans (hb1.mono HB.out.size))
  clear hk1 hb1 HK HB
  go_wp2_with fail
  refine (few_any A1 A2 A3 A4 A5 A6 n1 c1 n2 c2 n3 c3 n4 c4 n5 c5 n6 c6 s w1 (H3.out.1.mono qSchemaR_mono HB1.out) (H4.out.1.mono qRuleR_mono HB1.out) (H5.out.1.mono qConvertR_mono HB1.out) (H6.out.1.mono qPurposeR_mono HB1.out)).mono ?_
  rintro e w2 ⟨⟨b, rfl⟩, hb2⟩
  clear k0 k1 k2 k3 k4 k5
  have HK2 := Lib.hid (HK1.out.below hb2 HK1.out.lt)
  have HB2 := Lib.hid (HB1.out.trans (hb2.mono HB1.out.size))
  clear hb2 HB1 HK1
  cases b with
  | false =>
    go_wp2_with fail
    go_ret
    exact ⟨rfl, HB2.out⟩
  | true =>
    have k0 := HK2.out.cell 0
    have k1 := HK2.out.cell 1
    have k2 := HK2.out.cell 2
    have k3 := HK2.out.cell 3
    have k4 := HK2.out.cell 4
    have k5 := HK2.out.cell 5
    simp only [List.getElem?_toArray, List.getElem?_cons_zero, List.getElem?_cons_succ] at k0 k1 k2 k3 k4 k5
    go_wp2_with fail
    refine (resolve_any A1 A2 A3 A4 A5 A6 n1 c1 n2 c2 n3 c3 n4 c4 n5 c5 n6 c6 s w2 (H1.out.mono strR_mono HB2.out) (H2.out.mono qUnitR_mono HB2.out) (H3.out.mono qSchemaR_mono HB2.out) (H4.out.mono qRuleR_mono HB2.out) (H5.out.mono qConvertR_mono HB2.out) (H6.out.mono qPurposeR_mono HB2.out)).mono ?_
    rintro e w3 ⟨cs, rfl, ⟨X1, p1, q1, X2, p2, q2, X3, p3, q3, X4, p4, q4, X5, p5, q5, X6, p6, q6, rfl, x1, x2, x3, x4, x5, x6⟩, hb3⟩
    obtain ⟨ev, xv, hr⟩ : ∃ a b, resolveP s = (a, b) := ⟨_, _, rfl⟩
    rw [hr] at x1 x2 x3 x4 x5 x6 ⊢
    dsimp only at x1 x2 x3 x4 x5 x6
    have HR := Lib.hid hr
    clear hr
    have HB3 := Lib.hid (HB2.out.trans (hb3.mono HB2.out.size))
    have HK3 := Lib.hid (HK2.out.below hb3 HK2.out.lt)
    clear k0 k1 k2 k3 k4 k5 hb3 HB2 HK2
    go_upto_region 6 with fail
    have hal : Below w3.heap.size w3 (w3.alloc (.cells #[.slice X1 p1 q1, .slice X2 p2 q2, .slice X3 p3 q3, .slice X4 p4 q4, .slice X5 p5 q5, .slice X6 p6 q6] 29)) := (Below.refl _ _).alloc (Nat.le_refl _) _
    have hx4 : Blk (w3.alloc (.cells #[.slice X1 p1 q1, .slice X2 p2 q2, .slice X3 p3 q3, .slice X4 p4 q4, .slice X5 p5 q5, .slice X6 p6 q6] 29)) w3.heap.size 29 #[.slice X1 p1 q1, .slice X2 p2 q2, .slice X3 p3 q3, .slice X4 p4 q4, .slice X5 p5 q5, .slice X6 p6 q6] := Blk.new _ _ _
    have HB4 := Lib.hid (HB3.out.trans (hal.mono HB3.out.size))
    have HK4 := Lib.hid (HK3.out.below hal HK3.out.lt)
    have X1' := Lib.hid (x1.mono strR_mono hal)
    clear x1
    have X2' := Lib.hid (x2.mono qUnitR_mono hal)
    clear x2
    have X3' := Lib.hid (x3.mono qSchemaR_mono hal)
    clear x3
    have X4' := Lib.hid (x4.mono qRuleR_mono hal)
    clear x4
    have X5' := Lib.hid (x5.mono qConvertR_mono hal)
    clear x5
    have X6' := Lib.hid (x6.mono qPurposeR_mono hal)
    clear x6
    obtain ⟨gx, hgx⟩ : ∃ g, g = w3.heap.size := ⟨_, rfl⟩
    rw [← hgx] at hx4 ⊢
    generalize w3.alloc (.cells #[.slice X1 p1 q1, .slice X2 p2 q2, .slice X3 p3 q3, .slice X4 p4 q4, .slice X5 p5 q5, .slice X6 p6 q6] 29) = w4 at hx4 HB4 HK4 X1' X2' X3' X4' X5' X6' ⊢
    have HX4 := Lib.hid hx4
    clear hx4 hgx hal HB3 HK3
    obtain ⟨k0, k1, k2, k3, k4, k5⟩ := six_cells HK4.out (Below.refl _ _)
    have HXS : Hid (qSourceR w4 [.slice X1 p1 q1, .slice X2 p2 q2, .slice X3 p3 q3, .slice X4 p4 q4, .slice X5 p5 q5, .slice X6 p6 q6] xv) := Lib.hid (src_whole X1'.out X2'.out X3'.out X4'.out X5'.out X6'.out)
    clear X1' X2' X3' X4' X5' X6'
    have HS4 : Hid (qSourceR w4 [.slice A1 n1 c1, .slice A2 n2 c2, .slice A3 n3 c3, .slice A4 n4 c4, .slice A5 n5 c5, .slice A6 n6 c6] s) := Lib.hid (src_whole (H1.out.mono strR_mono HB4.out) (H2.out.mono qUnitR_mono HB4.out) (H3.out.mono qSchemaR_mono HB4.out) (H4.out.mono qRuleR_mono HB4.out) (H5.out.mono qConvertR_mono HB4.out) (H6.out.mono qPurposeR_mono HB4.out))
    have lk := HK4.out.lt
    go_wp2_with fail
    refine (refResolve_any A1 A2 A3 A4 A5 A6 n1 c1 n2 c2 n3 c3 n4 c4 n5 c5 n6 c6 s w4 HS4.out).mono ?_
    intro e w5 h5
    unfold RetResolve at h5
    rw [HR.out] at h5
    obtain ⟨cs, rfl, ⟨Z1, t1, u1, Z2, t2, u2, Z3, t3, u3, Z4, t4, u4, Z5, t5, u5, Z6, t6, u6, rfl, z1, z2, z3, z4, z5, z6⟩, hb5⟩ := h5
    have HZS : Hid (qSourceR w5 [.slice Z1 t1 u1, .slice Z2 t2 u2, .slice Z3 t3 u3, .slice Z4 t4 u4, .slice Z5 t5 u5, .slice Z6 t6 u6] xv) := Lib.hid (src_whole z1 z2 z3 z4 z5 z6)
    have HB5 := Lib.hid hb5
    clear z1 z2 z3 z4 z5 z6 hb5 k0 k1 k2 k3 k4 k5 lk HS4
    go_upto_region 7 with fail
    have hal : Below w5.heap.size w5 (w5.alloc (.cells #[.slice Z1 t1 u1, .slice Z2 t2 u2, .slice Z3 t3 u3, .slice Z4 t4 u4, .slice Z5 t5 u5, .slice Z6 t6 u6] 29)) := below_one _ _
    have hz6 : Blk (w5.alloc (.cells #[.slice Z1 t1 u1, .slice Z2 t2 u2, .slice Z3 t3 u3, .slice Z4 t4 u4, .slice Z5 t5 u5, .slice Z6 t6 u6] 29)) w5.heap.size 29 #[.slice Z1 t1 u1, .slice Z2 t2 u2, .slice Z3 t3 u3, .slice Z4 t4 u4, .slice Z5 t5 u5, .slice Z6 t6 u6] := Blk.new _ _ _
    obtain ⟨gy, hgy⟩ : ∃ g, g = w5.heap.size := ⟨_, rfl⟩
    rw [← hgy] at hz6 ⊢
    generalize w5.alloc (.cells #[.slice Z1 t1 u1, .slice Z2 t2 u2, .slice Z3 t3 u3, .slice Z4 t4 u4, .slice Z5 t5 u5, .slice Z6 t6 u6] 29) = w6 at hal hz6 ⊢
    have HB6 := Lib.hid (below_step HB5.out hal)
    have HZ6 := Lib.hid (qSourceR_mono _ _ hal _ _ HZS.out)
    have HX6 := Lib.hid (qSourceR_mono _ _ HB6.out _ _ HXS.out)
    obtain ⟨x0, x1, x2, x3, x4, x5⟩ := six_cells HX4.out HB6.out
    obtain ⟨z0, z1, z2, z3, z4, z5⟩ := six_cells hz6 (Below.refl _ _)
    have lx := Nat.lt_of_lt_of_le HX4.out.lt HB6.out.size
    have lz := hz6.lt
    clear hal hz6 hgy
    go_wp2_with fail
    refine (same_src [.slice X1 p1 q1, .slice X2 p2 q2, .slice X3 p3 q3, .slice X4 p4 q4, .slice X5 p5 q5, .slice X6 p6 q6] [.slice Z1 t1 u1, .slice Z2 t2 u2, .slice Z3 t3 u3, .slice Z4 t4 u4, .slice Z5 t5 u5, .slice Z6 t6 u6] xv w6 HX6.out HZ6.out).mono ?_
    rintro e w7 ⟨rfl, hb7⟩
    have HB7 := Lib.hid (below_step (below_step HB4.out HB6.out) hb7)
    clear x0 x1 x2 x3 x4 x5 z0 z1 z2 z3 z4 z5 lx lz hb7
    go_wp2_with fail
    go_ret
    exact ⟨rfl, HB7.out⟩

end Go.Proofs.Ytkkkephjljiplaa
