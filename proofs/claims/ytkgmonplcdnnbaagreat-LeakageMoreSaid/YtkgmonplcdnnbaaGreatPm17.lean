/- Contracts of syntax.Same's parts: Field. Written by gensm.py. -/
import Derived.Test.YtkgmonplcdnnbaaGreatPm16
import Derived.RegionTactic
import Derived.ChangeAlike
namespace Go.Proofs.YtkgmonplcdnnbaaGreat
open Go.RowKit
theorem qField_same {x y : QField} (e0 : x.name = y.name) (e1 : (decide (x.w0 = y.w0) && decide (x.w1 = y.w1) && decide (x.w2 = y.w2) && decide (x.w3 = y.w3)) = true) (e2 : x.type.kind = y.type.kind) (e3 : x.type.lo = y.type.lo) (e4 : x.type.hi = y.type.hi) (e5 : x.type.of_ = y.type.of_) (e6 : x.type.unit = y.type.unit) (e7 : x.type.names = y.type.names) : true = decide (x = y) := by
 obtain ⟨n, ⟨t0, t1, t2, t3, t4, t5⟩, v0, v1, v2, v3⟩ := x
 obtain ⟨n', ⟨t0', t1', t2', t3', t4', t5'⟩, v0', v1', v2', v3'⟩ := y
 simp only [Bool.and_eq_true, decide_eq_true_eq] at e1
 simp_all
set_option maxHeartbeats 4000000 in
set_option maxRecDepth 100000 in
theorem sameField_any (A1 B1 : Option Addr) (n1 c1 m1 d1 : Nat) (x y : QField) (w : World) (h1 : SlR 1 strR w (.slice A1 n1 c1) x.type.names) (k1 : SlR 1 strR w (.slice B1 m1 d1) y.type.names) :
 Calls Tryz.prog 152 #[.agg #[.string x.name, .int .i64 x.type.kind, .int .i64 x.type.lo, .int .i64 x.type.hi, .string x.type.of_, .int .i64 x.type.unit, .slice A1 n1 c1, .int .i64 x.w0, .int .i64 x.w1, .int .i64 x.w2, .int .i64 x.w3], .agg #[.string y.name, .int .i64 y.type.kind, .int .i64 y.type.lo, .int .i64 y.type.hi, .string y.type.of_, .int .i64 y.type.unit, .slice B1 m1 d1, .int .i64 y.w0, .int .i64 y.w1, .int .i64 y.w2, .int .i64 y.w3]] w fun e w' => e = .returned (.bool (decide (x = y))) ∧ Below w.heap.size w w' := by
 have H1 := Lib.hid h1
 have K1 := Lib.hid k1
 clear h1 k1
 go_enter Tryz.func152, Tryz.ntmps152
 go_upto_region 1 with fail
 obtain ⟨wb, hwb⟩ : ∃ wq, wq = (w.alloc (.cells #[.string x.name, .int .i64 x.type.kind, .int .i64 x.type.lo, .int .i64 x.type.hi, .string x.type.of_, .int .i64 x.type.unit, .slice A1 n1 c1, .int .i64 x.w0, .int .i64 x.w1, .int .i64 x.w2, .int .i64 x.w3] 58)).alloc (.cells #[.string y.name, .int .i64 y.type.kind, .int .i64 y.type.lo, .int .i64 y.type.hi, .string y.type.of_, .int .i64 y.type.unit, .slice B1 m1 d1, .int .i64 y.w0, .int .i64 y.w1, .int .i64 y.w2, .int .i64 y.w3] 58) := ⟨_, rfl⟩
 rw [← hwb]
 have hbb : Below w.heap.size w wb := by rw [hwb]; exact ((Below.refl _ _).alloc (Nat.le_refl _) _).alloc (by simp) _
 have kA : Blk wb w.heap.size 58 #[.string x.name, .int .i64 x.type.kind, .int .i64 x.type.lo, .int .i64 x.type.hi, .string x.type.of_, .int .i64 x.type.unit, .slice A1 n1 c1, .int .i64 x.w0, .int .i64 x.w1, .int .i64 x.w2, .int .i64 x.w3] := by rw [hwb]; exact (Blk.new _ _ _).alloc _
 have kB : Blk wb (w.heap.size + 1) 58 #[.string y.name, .int .i64 y.type.kind, .int .i64 y.type.lo, .int .i64 y.type.hi, .string y.type.of_, .int .i64 y.type.unit, .slice B1 m1 d1, .int .i64 y.w0, .int .i64 y.w1, .int .i64 y.w2, .int .i64 y.w3] := by rw [hwb]; exact blkNew (by simp)
 obtain ⟨ga, hga⟩ : ∃ g, g = w.heap.size := ⟨_, rfl⟩
 obtain ⟨gb, hgb⟩ : ∃ g, g = w.heap.size + 1 := ⟨_, rfl⟩
 rw [← hgb] at kB ⊢
 rw [← hga] at kA ⊢
 have HGA : ga = w.heap.size := hga
 clear hwb hga hgb
 have la := kA.lt
 have lb := kB.lt
 have a0 := kA.cell 0
 have b0 := kB.cell 0
 have a1 := kA.cell 1
 have b1 := kB.cell 1
 have a2 := kA.cell 2
 have b2 := kB.cell 2
 have a3 := kA.cell 3
 have b3 := kB.cell 3
 have a4 := kA.cell 4
 have b4 := kB.cell 4
 have a5 := kA.cell 5
 have b5 := kB.cell 5
 have a6 := kA.cell 6
 have b6 := kB.cell 6
 have a7 := kA.cell 7
 have b7 := kB.cell 7
 have a8 := kA.cell 8
 have b8 := kB.cell 8
 have a9 := kA.cell 9
 have b9 := kB.cell 9
 have a10 := kA.cell 10
 have b10 := kB.cell 10
 simp only [List.getElem?_toArray, List.getElem?_cons_zero, List.getElem?_cons_succ] at a0 b0 a1 b1 a2 b2 a3 b3 a4 b4 a5 b5 a6 b6 a7 b7 a8 b8 a9 b9 a10 b10
 have HA := Lib.hid kA
 have HB := Lib.hid kB
 have HBB := Lib.hid hbb
 have HBR0 : Hid (Below wb.heap.size wb wb) := Lib.hid (Below.refl _ _)
 clear kA kB hbb HGA
 clear HBR0
 go_region
 ·
  obtain ⟨wc, hwc⟩ : ∃ q, q = ((wb.alloc (.cells #[.int .i64 x.type.kind, .int .i64 x.type.lo, .int .i64 x.type.hi, .string x.type.of_, .int .i64 x.type.unit, .slice A1 n1 c1] 55)).alloc (.cells #[.int .i64 y.type.kind, .int .i64 y.type.lo, .int .i64 y.type.hi, .string y.type.of_, .int .i64 y.type.unit, .slice B1 m1 d1] 55)).drew := ⟨_, rfl⟩
  rw [← hwc]
  have kS : Blk wc wb.heap.size 55 #[.int .i64 x.type.kind, .int .i64 x.type.lo, .int .i64 x.type.hi, .string x.type.of_, .int .i64 x.type.unit, .slice A1 n1 c1] := by rw [hwc]; exact ((Blk.new _ _ _).alloc _).drew
  have kT : Blk wc (wb.heap.size + 1) 55 #[.int .i64 y.type.kind, .int .i64 y.type.lo, .int .i64 y.type.hi, .string y.type.of_, .int .i64 y.type.unit, .slice B1 m1 d1] := by rw [hwc]; exact (blkNew (by simp)).drew
  have HBR0 : Hid (Below wb.heap.size wb wc) := Lib.hid (by rw [hwc]; exact below_drewN (((Below.refl _ _).alloc (Nat.le_refl _) _).alloc (by simp) _) 1)
  clear hwc
  obtain ⟨gs, hgs⟩ : ∃ g, g = wb.heap.size := ⟨_, rfl⟩
  obtain ⟨gt, hgt⟩ : ∃ g, g = wb.heap.size + 1 := ⟨_, rfl⟩
  rw [← hgt] at kT ⊢
  rw [← hgs] at kS ⊢
  clear hgs hgt
  clear a0 b0 a1 b1 a2 b2 a3 b3 a4 b4 a5 b5 a6 b6 a7 b7 a8 b8 a9 b9 a10 b10
  have a0 := (HA.out.below HBR0.out la).cell 0
  have b0 := (HB.out.below HBR0.out lb).cell 0
  have a1 := (HA.out.below HBR0.out la).cell 1
  have b1 := (HB.out.below HBR0.out lb).cell 1
  have a2 := (HA.out.below HBR0.out la).cell 2
  have b2 := (HB.out.below HBR0.out lb).cell 2
  have a3 := (HA.out.below HBR0.out la).cell 3
  have b3 := (HB.out.below HBR0.out lb).cell 3
  have a4 := (HA.out.below HBR0.out la).cell 4
  have b4 := (HB.out.below HBR0.out lb).cell 4
  have a5 := (HA.out.below HBR0.out la).cell 5
  have b5 := (HB.out.below HBR0.out lb).cell 5
  have a6 := (HA.out.below HBR0.out la).cell 6
  have b6 := (HB.out.below HBR0.out lb).cell 6
  have a7 := (HA.out.below HBR0.out la).cell 7
  have b7 := (HB.out.below HBR0.out lb).cell 7
  have a8 := (HA.out.below HBR0.out la).cell 8
  have b8 := (HB.out.below HBR0.out lb).cell 8
  have a9 := (HA.out.below HBR0.out la).cell 9
  have b9 := (HB.out.below HBR0.out lb).cell 9
  have a10 := (HA.out.below HBR0.out la).cell 10
  have b10 := (HB.out.below HBR0.out lb).cell 10
  simp only [List.getElem?_toArray, List.getElem?_cons_zero, List.getElem?_cons_succ] at a0 b0 a1 b1 a2 b2 a3 b3 a4 b4 a5 b5 a6 b6 a7 b7 a8 b8 a9 b9 a10 b10
  have s0c := kS.cell 0
  have t0c := kT.cell 0
  have s1c := kS.cell 1
  have t1c := kT.cell 1
  have s2c := kS.cell 2
  have t2c := kT.cell 2
  have s3c := kS.cell 3
  have t3c := kT.cell 3
  have s4c := kS.cell 4
  have t4c := kT.cell 4
  have s5c := kS.cell 5
  have t5c := kT.cell 5
  simp only [List.getElem?_toArray, List.getElem?_cons_zero, List.getElem?_cons_succ] at s0c t0c s1c t1c s2c t2c s3c t3c s4c t4c s5c t5c
  have ls := kS.lt
  have lt := kT.lt
  clear kS kT
  by_cases e0 : x.name = y.name
  case neg =>
   have s0 : (x.name.toList == y.name.toList) = false := by rw [str_beq]; exact decide_eq_false e0
   have E0 := Lib.hid e0
   clear e0
   go_wp2_with fail
   go_ret
   refine ⟨ret_bool ?_, HBB.out.trans (HBR0.out.mono HBB.out.size)⟩
   exact (decide_eq_false (fun h => E0.out (by rw [h]))).symm
  have s0 : (x.name.toList == y.name.toList) = true := by rw [str_beq]; exact decide_eq_true e0
  have E0 := Lib.hid e0
  clear e0
  have hfo := eqlFour x.w0 x.w1 x.w2 x.w3 y.w0 y.w1 y.w2 y.w3
  by_cases e1 : (decide (x.w0 = y.w0) && decide (x.w1 = y.w1) && decide (x.w2 = y.w2) && decide (x.w3 = y.w3)) = true
  case neg =>
   have s1 : (decide (x.w0 = y.w0) && decide (x.w1 = y.w1) && decide (x.w2 = y.w2) && decide (x.w3 = y.w3)) = false := by simpa using e1
   rw [s1] at hfo
   have E1 := Lib.hid e1
   clear e1 s1
   go_wp2_with fail
   go_ret
   exact ⟨ret_bool (decide_eq_false (fun h => E1.out (by rw [h]; simp))).symm, HBB.out.trans (HBR0.out.mono HBB.out.size)⟩
  rw [e1] at hfo
  have E1 := Lib.hid e1
  clear e1
  by_cases e2 : x.type.kind = y.type.kind
  case neg =>
   have E2 := Lib.hid e2
   go_wp2_with fail
   go_ret
   refine ⟨ret_bool ?_, HBB.out.trans (HBR0.out.mono HBB.out.size)⟩
   exact (decide_eq_false (fun h => E2.out (by rw [h]))).symm
  have E2 := Lib.hid e2
  by_cases e3 : x.type.lo = y.type.lo
  case neg =>
   have E3 := Lib.hid e3
   go_wp2_with fail
   go_ret
   refine ⟨ret_bool ?_, HBB.out.trans (HBR0.out.mono HBB.out.size)⟩
   exact (decide_eq_false (fun h => E3.out (by rw [h]))).symm
  have E3 := Lib.hid e3
  by_cases e4 : x.type.hi = y.type.hi
  case neg =>
   have E4 := Lib.hid e4
   go_wp2_with fail
   go_ret
   refine ⟨ret_bool ?_, HBB.out.trans (HBR0.out.mono HBB.out.size)⟩
   exact (decide_eq_false (fun h => E4.out (by rw [h]))).symm
  have E4 := Lib.hid e4
  by_cases e5 : x.type.of_ = y.type.of_
  case neg =>
   have s5 : (x.type.of_.toList == y.type.of_.toList) = false := by rw [str_beq]; exact decide_eq_false e5
   have E5 := Lib.hid e5
   clear e5
   go_wp2_with fail
   go_ret
   refine ⟨ret_bool ?_, HBB.out.trans (HBR0.out.mono HBB.out.size)⟩
   exact (decide_eq_false (fun h => E5.out (by rw [h]))).symm
  have s5 : (x.type.of_.toList == y.type.of_.toList) = true := by rw [str_beq]; exact decide_eq_true e5
  have E5 := Lib.hid e5
  clear e5
  by_cases e6 : x.type.unit = y.type.unit
  case neg =>
   have E6 := Lib.hid e6
   go_wp2_with fail
   go_ret
   refine ⟨ret_bool ?_, HBB.out.trans (HBR0.out.mono HBB.out.size)⟩
   exact (decide_eq_false (fun h => E6.out (by rw [h]))).symm
  have E6 := Lib.hid e6
  by_cases e7 : x.type.names = y.type.names
  case neg =>
   have HC : Hid (Calls Tryz.prog 82 #[.slice A1 n1 c1, .slice B1 m1 d1] wc fun e w' => e = .returned (.bool false) ∧ Below wc.heap.size wc w') := Lib.hid (by
    have := equalStr_any A1 B1 n1 c1 m1 d1 x.type.names y.type.names wc (H1.out.mono strR_mono (HBB.out.trans (HBR0.out.mono HBB.out.size))) (K1.out.mono strR_mono (HBB.out.trans (HBR0.out.mono HBB.out.size)))
    rw [show sameL x.type.names y.type.names = false by simp [sameL, e7]] at this
    exact this)
   have E7 := Lib.hid e7
   clear e7
   go_wp2_with (go_at_call 82; refine HC.out.mono ?_; clear HC)
   rintro e w1 ⟨rfl, hb1⟩
   have HBR1 := Lib.hid (HBR0.out.trans (hb1.mono HBR0.out.size))
   clear hb1
   go_wp2_with fail
   go_ret
   exact ⟨ret_bool (decide_eq_false (fun h => E7.out (by rw [h]))).symm, HBB.out.trans (HBR1.out.mono HBB.out.size)⟩
  have HC : Hid (Calls Tryz.prog 82 #[.slice A1 n1 c1, .slice B1 m1 d1] wc fun e w' => e = .returned (.bool true) ∧ Below wc.heap.size wc w') := Lib.hid (by
   have := equalStr_any A1 B1 n1 c1 m1 d1 x.type.names y.type.names wc (H1.out.mono strR_mono (HBB.out.trans (HBR0.out.mono HBB.out.size))) (K1.out.mono strR_mono (HBB.out.trans (HBR0.out.mono HBB.out.size)))
   rw [show sameL x.type.names y.type.names = true by simp [sameL, e7]] at this
   exact this)
  have E7 := Lib.hid e7
  clear e7
  go_wp2_with (go_at_call 82; refine HC.out.mono ?_; clear HC)
  rintro e w1 ⟨rfl, hb1⟩
  have HBR1 := Lib.hid (HBR0.out.trans (hb1.mono HBR0.out.size))
  clear hb1
  go_wp2_with fail
  go_ret
  exact ⟨ret_bool (qField_same E0.out E1.out E2.out E3.out E4.out E5.out E6.out E7.out), HBB.out.trans (HBR1.out.mono HBB.out.size)⟩
 ·
  obtain ⟨wc, hwc⟩ : ∃ q, q = ((wb.alloc (.cells #[.int .i64 y.type.kind, .int .i64 y.type.lo, .int .i64 y.type.hi, .string y.type.of_, .int .i64 y.type.unit, .slice B1 m1 d1] 55)).alloc (.cells #[.int .i64 x.type.kind, .int .i64 x.type.lo, .int .i64 x.type.hi, .string x.type.of_, .int .i64 x.type.unit, .slice A1 n1 c1] 55)).drew := ⟨_, rfl⟩
  rw [← hwc]
  have kS : Blk wc (wb.heap.size + 1) 55 #[.int .i64 x.type.kind, .int .i64 x.type.lo, .int .i64 x.type.hi, .string x.type.of_, .int .i64 x.type.unit, .slice A1 n1 c1] := by rw [hwc]; exact (blkNew (by simp)).drew
  have kT : Blk wc wb.heap.size 55 #[.int .i64 y.type.kind, .int .i64 y.type.lo, .int .i64 y.type.hi, .string y.type.of_, .int .i64 y.type.unit, .slice B1 m1 d1] := by rw [hwc]; exact ((Blk.new _ _ _).alloc _).drew
  have HBR0 : Hid (Below wb.heap.size wb wc) := Lib.hid (by rw [hwc]; exact below_drewN (((Below.refl _ _).alloc (Nat.le_refl _) _).alloc (by simp) _) 1)
  clear hwc
  obtain ⟨gs, hgs⟩ : ∃ g, g = wb.heap.size + 1 := ⟨_, rfl⟩
  obtain ⟨gt, hgt⟩ : ∃ g, g = wb.heap.size := ⟨_, rfl⟩
  rw [← hgs] at kS ⊢
  rw [← hgt] at kT ⊢
  clear hgs hgt
  clear a0 b0 a1 b1 a2 b2 a3 b3 a4 b4 a5 b5 a6 b6 a7 b7 a8 b8 a9 b9 a10 b10
  have a0 := (HA.out.below HBR0.out la).cell 0
  have b0 := (HB.out.below HBR0.out lb).cell 0
  have a1 := (HA.out.below HBR0.out la).cell 1
  have b1 := (HB.out.below HBR0.out lb).cell 1
  have a2 := (HA.out.below HBR0.out la).cell 2
  have b2 := (HB.out.below HBR0.out lb).cell 2
  have a3 := (HA.out.below HBR0.out la).cell 3
  have b3 := (HB.out.below HBR0.out lb).cell 3
  have a4 := (HA.out.below HBR0.out la).cell 4
  have b4 := (HB.out.below HBR0.out lb).cell 4
  have a5 := (HA.out.below HBR0.out la).cell 5
  have b5 := (HB.out.below HBR0.out lb).cell 5
  have a6 := (HA.out.below HBR0.out la).cell 6
  have b6 := (HB.out.below HBR0.out lb).cell 6
  have a7 := (HA.out.below HBR0.out la).cell 7
  have b7 := (HB.out.below HBR0.out lb).cell 7
  have a8 := (HA.out.below HBR0.out la).cell 8
  have b8 := (HB.out.below HBR0.out lb).cell 8
  have a9 := (HA.out.below HBR0.out la).cell 9
  have b9 := (HB.out.below HBR0.out lb).cell 9
  have a10 := (HA.out.below HBR0.out la).cell 10
  have b10 := (HB.out.below HBR0.out lb).cell 10
  simp only [List.getElem?_toArray, List.getElem?_cons_zero, List.getElem?_cons_succ] at a0 b0 a1 b1 a2 b2 a3 b3 a4 b4 a5 b5 a6 b6 a7 b7 a8 b8 a9 b9 a10 b10
  have s0c := kS.cell 0
  have t0c := kT.cell 0
  have s1c := kS.cell 1
  have t1c := kT.cell 1
  have s2c := kS.cell 2
  have t2c := kT.cell 2
  have s3c := kS.cell 3
  have t3c := kT.cell 3
  have s4c := kS.cell 4
  have t4c := kT.cell 4
  have s5c := kS.cell 5
  have t5c := kT.cell 5
  simp only [List.getElem?_toArray, List.getElem?_cons_zero, List.getElem?_cons_succ] at s0c t0c s1c t1c s2c t2c s3c t3c s4c t4c s5c t5c
  have ls := kS.lt
  have lt := kT.lt
  clear kS kT
  by_cases e0 : x.name = y.name
  case neg =>
   have s0 : (x.name.toList == y.name.toList) = false := by rw [str_beq]; exact decide_eq_false e0
   have E0 := Lib.hid e0
   clear e0
   go_wp2_with fail
   go_ret
   refine ⟨ret_bool ?_, HBB.out.trans (HBR0.out.mono HBB.out.size)⟩
   exact (decide_eq_false (fun h => E0.out (by rw [h]))).symm
  have s0 : (x.name.toList == y.name.toList) = true := by rw [str_beq]; exact decide_eq_true e0
  have E0 := Lib.hid e0
  clear e0
  have hfo := eqlFour x.w0 x.w1 x.w2 x.w3 y.w0 y.w1 y.w2 y.w3
  by_cases e1 : (decide (x.w0 = y.w0) && decide (x.w1 = y.w1) && decide (x.w2 = y.w2) && decide (x.w3 = y.w3)) = true
  case neg =>
   have s1 : (decide (x.w0 = y.w0) && decide (x.w1 = y.w1) && decide (x.w2 = y.w2) && decide (x.w3 = y.w3)) = false := by simpa using e1
   rw [s1] at hfo
   have E1 := Lib.hid e1
   clear e1 s1
   go_wp2_with fail
   go_ret
   exact ⟨ret_bool (decide_eq_false (fun h => E1.out (by rw [h]; simp))).symm, HBB.out.trans (HBR0.out.mono HBB.out.size)⟩
  rw [e1] at hfo
  have E1 := Lib.hid e1
  clear e1
  by_cases e2 : x.type.kind = y.type.kind
  case neg =>
   have E2 := Lib.hid e2
   go_wp2_with fail
   go_ret
   refine ⟨ret_bool ?_, HBB.out.trans (HBR0.out.mono HBB.out.size)⟩
   exact (decide_eq_false (fun h => E2.out (by rw [h]))).symm
  have E2 := Lib.hid e2
  by_cases e3 : x.type.lo = y.type.lo
  case neg =>
   have E3 := Lib.hid e3
   go_wp2_with fail
   go_ret
   refine ⟨ret_bool ?_, HBB.out.trans (HBR0.out.mono HBB.out.size)⟩
   exact (decide_eq_false (fun h => E3.out (by rw [h]))).symm
  have E3 := Lib.hid e3
  by_cases e4 : x.type.hi = y.type.hi
  case neg =>
   have E4 := Lib.hid e4
   go_wp2_with fail
   go_ret
   refine ⟨ret_bool ?_, HBB.out.trans (HBR0.out.mono HBB.out.size)⟩
   exact (decide_eq_false (fun h => E4.out (by rw [h]))).symm
  have E4 := Lib.hid e4
  by_cases e5 : x.type.of_ = y.type.of_
  case neg =>
   have s5 : (x.type.of_.toList == y.type.of_.toList) = false := by rw [str_beq]; exact decide_eq_false e5
   have E5 := Lib.hid e5
   clear e5
   go_wp2_with fail
   go_ret
   refine ⟨ret_bool ?_, HBB.out.trans (HBR0.out.mono HBB.out.size)⟩
   exact (decide_eq_false (fun h => E5.out (by rw [h]))).symm
  have s5 : (x.type.of_.toList == y.type.of_.toList) = true := by rw [str_beq]; exact decide_eq_true e5
  have E5 := Lib.hid e5
  clear e5
  by_cases e6 : x.type.unit = y.type.unit
  case neg =>
   have E6 := Lib.hid e6
   go_wp2_with fail
   go_ret
   refine ⟨ret_bool ?_, HBB.out.trans (HBR0.out.mono HBB.out.size)⟩
   exact (decide_eq_false (fun h => E6.out (by rw [h]))).symm
  have E6 := Lib.hid e6
  by_cases e7 : x.type.names = y.type.names
  case neg =>
   have HC : Hid (Calls Tryz.prog 82 #[.slice A1 n1 c1, .slice B1 m1 d1] wc fun e w' => e = .returned (.bool false) ∧ Below wc.heap.size wc w') := Lib.hid (by
    have := equalStr_any A1 B1 n1 c1 m1 d1 x.type.names y.type.names wc (H1.out.mono strR_mono (HBB.out.trans (HBR0.out.mono HBB.out.size))) (K1.out.mono strR_mono (HBB.out.trans (HBR0.out.mono HBB.out.size)))
    rw [show sameL x.type.names y.type.names = false by simp [sameL, e7]] at this
    exact this)
   have E7 := Lib.hid e7
   clear e7
   go_wp2_with (go_at_call 82; refine HC.out.mono ?_; clear HC)
   rintro e w1 ⟨rfl, hb1⟩
   have HBR1 := Lib.hid (HBR0.out.trans (hb1.mono HBR0.out.size))
   clear hb1
   go_wp2_with fail
   go_ret
   exact ⟨ret_bool (decide_eq_false (fun h => E7.out (by rw [h]))).symm, HBB.out.trans (HBR1.out.mono HBB.out.size)⟩
  have HC : Hid (Calls Tryz.prog 82 #[.slice A1 n1 c1, .slice B1 m1 d1] wc fun e w' => e = .returned (.bool true) ∧ Below wc.heap.size wc w') := Lib.hid (by
   have := equalStr_any A1 B1 n1 c1 m1 d1 x.type.names y.type.names wc (H1.out.mono strR_mono (HBB.out.trans (HBR0.out.mono HBB.out.size))) (K1.out.mono strR_mono (HBB.out.trans (HBR0.out.mono HBB.out.size)))
   rw [show sameL x.type.names y.type.names = true by simp [sameL, e7]] at this
   exact this)
  have E7 := Lib.hid e7
  clear e7
  go_wp2_with (go_at_call 82; refine HC.out.mono ?_; clear HC)
  rintro e w1 ⟨rfl, hb1⟩
  have HBR1 := Lib.hid (HBR0.out.trans (hb1.mono HBR0.out.size))
  clear hb1
  go_wp2_with fail
  go_ret
  exact ⟨ret_bool (qField_same E0.out E1.out E2.out E3.out E4.out E5.out E6.out E7.out), HBB.out.trans (HBR1.out.mono HBB.out.size)⟩
set_option maxHeartbeats 4000000 in
theorem eqfField_any (A B : Option Addr) (n c m d : Nat) (l r : List QField) (w : World) (hl : SlR 11 qFieldR w (.slice A n c) l) (hr : SlR 11 qFieldR w (.slice B m d) r) :
 Calls Tryz.prog 151 #[.slice A n c, .slice B m d, .func (.func 152) #[] #[]] w fun e w' => e = .returned (.bool (sameL l r)) ∧ Below w.heap.size w w' := by
 have hn2 : n ≤ 9223372036854775807 := by have := hl.le; omega
 have hln := hl.len
 have hrn := hr.len
 have HL := Lib.hid hl
 have HR := Lib.hid hr
 clear hl hr
 by_cases e : n = m
 ·
  subst e
  have el : l.length = r.length := by omega
  have HN := Lib.hid hln
  have HE := Lib.hid el
  clear hln hrn el
  obtain ⟨v, hv⟩ : ∃ v, sameL l r = v := ⟨_, rfl⟩
  rw [hv]
  have HV : Hid (sameL (l.drop 0) (r.drop 0) = v) := Lib.hid hv
  clear hv
  go_enter Tryz.func151, Tryz.ntmps151
  go_wp2_with fail
  go_loopg [17] n (fun q i wr => ∃ k : Nat, k ≤ n ∧ q = n - k ∧ i = .int .i64 k ∧ sameL (l.drop k) (r.drop k) = v ∧ Below w.heap.size w wr)
  case atStart => exact ⟨0, Nat.zero_le _, rfl, rfl, HV.out, Below.refl _ _⟩
  case round =>
   obtain ⟨k, hk, hq, rfl, hv, hb⟩ := hrel
   have HQ := Lib.hid hq
   have HB := Lib.hid hb
   have HV2 := Lib.hid hv
   clear hq hb hv HV
   by_cases hlt : k < n
   ·
    obtain ⟨a, ao, x, A1, n1, c1, rfl, hal, hx, e0, e1, e2, e3, e4, e5, e6, e7, e8, e9, e10, g1⟩ := qField_at (HL.out.mono qFieldR_mono HB.out) hlt
    obtain ⟨b, bo, y, B1, m1, d1, rfl, hbl, hy, f0, f1, f2, f3, f4, f5, f6, f7, f8, f9, f10, j1⟩ := qField_at (HR.out.mono qFieldR_mono HB.out) hlt
    have HX := Lib.hid hx
    have HY := Lib.hid hy
    have G1 := Lib.hid g1
    have J1 := Lib.hid j1
    have hkn : (k : Int) < (n : Int) := by omega
    have hk0 : (0 : Int) ≤ (k : Int) := by omega
    clear hx hy g1 j1
    go_wp2_with (go_at_call 152; refine (sameField_any A1 B1 n1 c1 m1 d1 x y _ (G1.out.1.mono strR_mono (((Below.refl _ _).alloc (Nat.le_refl _) _).alloc (by simp) _)) (J1.out.1.mono strR_mono (((Below.refl _ _).alloc (Nat.le_refl _) _).alloc (by simp) _))).mono ?_)
    rintro e w1 ⟨rfl, hb1⟩
    have HB1 := Lib.hid (HB.out.trans ((((Below.refl _ _).alloc (Nat.le_refl _) _).alloc (by simp) _).trans (hb1.mono (by simp; omega)) |>.mono HB.out.size))
    by_cases exy : x = y
    ·
     have hd : decide (x = y) = true := decide_eq_true exy
     rw [hd]
     have HXE := Lib.hid exy
     clear exy hd hb1
     go_wp2_with fail
     go_roundg (n - (k + 1))
     case measure => have := HQ.out; omega
     case rel => exact ⟨k + 1, by omega, rfl, by go_num, sameL_go HX.out HY.out HV2.out HXE.out, HB1.out⟩
    ·
     obtain rfl := sameL_stop HX.out HY.out HV2.out exy
     have hd : decide (x = y) = false := decide_eq_false exy
     rw [hd]
     clear hd exy hb1
     go_wp2_with fail
     go_ret
     exact ⟨rfl, HB1.out⟩
   ·
    obtain rfl := sameL_end HV2.out HE.out (by have := HN.out; omega)
    go_wp2_with fail
    go_ret
    exact ⟨rfl, HB.out⟩
 ·
  have el : ¬ l.length = r.length := by omega
  rw [sameL_len el]
  go_enter Tryz.func151, Tryz.ntmps151
  go_wp2_with fail
  go_ret
  exact ⟨rfl, Below.refl _ _⟩
end Go.Proofs.YtkgmonplcdnnbaaGreat
