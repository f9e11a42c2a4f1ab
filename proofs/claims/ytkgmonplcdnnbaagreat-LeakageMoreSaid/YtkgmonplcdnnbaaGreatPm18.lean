/- A world in which some blocks are hidden: what is read there does not depend on them. Plain lemmas. -/
import Derived.Test.YtkgmonplcdnnbaaGreatPm16
import Derived.Test.YtkgmonplcdnnbaaGreatPm17
import Derived.Test.YtkgmonplcdnnbaaGreatPm00
import Derived.Test.YtkgmonplcdnnbaaGreatPm02
import Derived.Test.YtkgmonplcdnnbaaGreatPm01
namespace Go.Proofs.YtkgmonplcdnnbaaGreat
open Go.RowKit
theorem qDep_same {x y : QDep} (e0 : x.names = y.names) (e1 : x.name = y.name) (e2 : x.src = y.src) (e3 : x.dst = y.dst) : true = decide (x = y) := by
 obtain ⟨u0, u1, u2, u3⟩ := x
 obtain ⟨v0, v1, v2, v3⟩ := y
 skip
 simp_all
set_option maxHeartbeats 4000000 in
set_option maxRecDepth 100000 in
theorem sameDepend_any (A1 B1 A2 B2 : Option Addr) (n1 c1 m1 d1 n2 c2 m2 d2 : Nat) (x y : QDep) (w : World) (h1 : SlR 1 strR w (.slice A1 n1 c1) x.names) (k1 : SlR 1 strR w (.slice B1 m1 d1) y.names) (h2 : SlR 1 iR w (.slice A2 n2 c2) x.src) (k2 : SlR 1 iR w (.slice B2 m2 d2) y.src) :
 Calls Tryz.prog 154 #[.agg #[.slice A1 n1 c1, .string x.name, .slice A2 n2 c2, .int .i64 x.dst], .agg #[.slice B1 m1 d1, .string y.name, .slice B2 m2 d2, .int .i64 y.dst]] w fun e w' => e = .returned (.bool (decide (x = y))) ∧ Below w.heap.size w w' := by
 have H1 := Lib.hid h1
 have K1 := Lib.hid k1
 have H2 := Lib.hid h2
 have K2 := Lib.hid k2
 clear h1 k1 h2 k2
 go_enter Tryz.func154, Tryz.ntmps154
 go_upto_region 1 with fail
 obtain ⟨wb, hwb⟩ : ∃ wq, wq = (w.alloc (.cells #[.slice A1 n1 c1, .string x.name, .slice A2 n2 c2, .int .i64 x.dst] 75)).alloc (.cells #[.slice B1 m1 d1, .string y.name, .slice B2 m2 d2, .int .i64 y.dst] 75) := ⟨_, rfl⟩
 rw [← hwb]
 have hbb : Below w.heap.size w wb := by rw [hwb]; exact ((Below.refl _ _).alloc (Nat.le_refl _) _).alloc (by simp) _
 have kA : Blk wb w.heap.size 75 #[.slice A1 n1 c1, .string x.name, .slice A2 n2 c2, .int .i64 x.dst] := by rw [hwb]; exact (Blk.new _ _ _).alloc _
 have kB : Blk wb (w.heap.size + 1) 75 #[.slice B1 m1 d1, .string y.name, .slice B2 m2 d2, .int .i64 y.dst] := by rw [hwb]; exact blkNew (by simp)
 obtain ⟨ga, hga⟩ : ∃ g, g = w.heap.size := ⟨_, rfl⟩
 obtain ⟨gb, hgb⟩ : ∃ g, g = w.heap.size + 1 := ⟨_, rfl⟩
 rw [← hgb] at kB ⊢
 rw [← hga] at kA ⊢
 have HGA : ga = w.heap.size := hga
 clear hwb hga hgb
 have la := kA.lt
 have lb := kB.lt
 have a0 := kA.cell 0
 have b0 := kB.cell 0
 have a1 := kA.cell 1
 have b1 := kB.cell 1
 have a2 := kA.cell 2
 have b2 := kB.cell 2
 have a3 := kA.cell 3
 have b3 := kB.cell 3
 simp only [List.getElem?_toArray, List.getElem?_cons_zero, List.getElem?_cons_succ] at a0 b0 a1 b1 a2 b2 a3 b3
 have HA := Lib.hid kA
 have HB := Lib.hid kB
 have HBB := Lib.hid hbb
 have HBR0 : Hid (Below wb.heap.size wb wb) := Lib.hid (Below.refl _ _)
 clear kA kB hbb HGA
 by_cases e0 : x.names = y.names
 case neg =>
  have HC : Hid (Calls Tryz.prog 82 #[.slice A1 n1 c1, .slice B1 m1 d1] wb fun e w' => e = .returned (.bool false) ∧ Below wb.heap.size wb w') := Lib.hid (by
   have := equalStr_any A1 B1 n1 c1 m1 d1 x.names y.names wb (H1.out.mono strR_mono (HBB.out.trans (HBR0.out.mono HBB.out.size))) (K1.out.mono strR_mono (HBB.out.trans (HBR0.out.mono HBB.out.size)))
   rw [show sameL x.names y.names = false by simp [sameL, e0]] at this
   exact this)
  have E0 := Lib.hid e0
  clear e0
  go_wp2_with (go_at_call 82; refine HC.out.mono ?_; clear HC)
  rintro e w1 ⟨rfl, hb1⟩
  have HBR1 := Lib.hid (HBR0.out.trans (hb1.mono HBR0.out.size))
  clear hb1
  go_wp2_with fail
  go_ret
  exact ⟨ret_bool (decide_eq_false (fun h => E0.out (by rw [h]))).symm, HBB.out.trans (HBR1.out.mono HBB.out.size)⟩
 have HC : Hid (Calls Tryz.prog 82 #[.slice A1 n1 c1, .slice B1 m1 d1] wb fun e w' => e = .returned (.bool true) ∧ Below wb.heap.size wb w') := Lib.hid (by
  have := equalStr_any A1 B1 n1 c1 m1 d1 x.names y.names wb (H1.out.mono strR_mono (HBB.out.trans (HBR0.out.mono HBB.out.size))) (K1.out.mono strR_mono (HBB.out.trans (HBR0.out.mono HBB.out.size)))
  rw [show sameL x.names y.names = true by simp [sameL, e0]] at this
  exact this)
 have E0 := Lib.hid e0
 clear e0
 go_wp2_with (go_at_call 82; refine HC.out.mono ?_; clear HC)
 rintro e w1 ⟨rfl, hb1⟩
 have HBR1 := Lib.hid (HBR0.out.trans (hb1.mono HBR0.out.size))
 clear hb1 a0 b0 a1 b1 a2 b2 a3 b3
 have a0 := (HA.out.below HBR1.out la).cell 0
 have b0 := (HB.out.below HBR1.out lb).cell 0
 have a1 := (HA.out.below HBR1.out la).cell 1
 have b1 := (HB.out.below HBR1.out lb).cell 1
 have a2 := (HA.out.below HBR1.out la).cell 2
 have b2 := (HB.out.below HBR1.out lb).cell 2
 have a3 := (HA.out.below HBR1.out la).cell 3
 have b3 := (HB.out.below HBR1.out lb).cell 3
 simp only [List.getElem?_toArray, List.getElem?_cons_zero, List.getElem?_cons_succ] at a0 b0 a1 b1 a2 b2 a3 b3
 by_cases e1 : x.name = y.name
 case neg =>
  have s1 : (x.name.toList == y.name.toList) = false := by rw [str_beq]; exact decide_eq_false e1
  have E1 := Lib.hid e1
  clear e1
  go_wp2_with fail
  go_ret
  refine ⟨ret_bool ?_, HBB.out.trans (HBR1.out.mono HBB.out.size)⟩
  exact (decide_eq_false (fun h => E1.out (by rw [h]))).symm
 have s1 : (x.name.toList == y.name.toList) = true := by rw [str_beq]; exact decide_eq_true e1
 have E1 := Lib.hid e1
 clear e1
 by_cases e2 : x.src = y.src
 case neg =>
  have HC : Hid (Calls Tryz.prog 51 #[.slice A2 n2 c2, .slice B2 m2 d2] w1 fun e w' => e = .returned (.bool false) ∧ Below w1.heap.size w1 w') := Lib.hid (by
   have := equalInt_any A2 B2 n2 c2 m2 d2 x.src y.src w1 (H2.out.mono iR_mono (HBB.out.trans (HBR1.out.mono HBB.out.size))) (K2.out.mono iR_mono (HBB.out.trans (HBR1.out.mono HBB.out.size)))
   rw [show sameL x.src y.src = false by simp [sameL, e2]] at this
   exact this)
  have E2 := Lib.hid e2
  clear e2
  go_wp2_with (go_at_call 51; refine HC.out.mono ?_; clear HC)
  rintro e w2 ⟨rfl, hb2⟩
  have HBR2 := Lib.hid (HBR1.out.trans (hb2.mono HBR1.out.size))
  clear hb2
  go_wp2_with fail
  go_ret
  exact ⟨ret_bool (decide_eq_false (fun h => E2.out (by rw [h]))).symm, HBB.out.trans (HBR2.out.mono HBB.out.size)⟩
 have HC : Hid (Calls Tryz.prog 51 #[.slice A2 n2 c2, .slice B2 m2 d2] w1 fun e w' => e = .returned (.bool true) ∧ Below w1.heap.size w1 w') := Lib.hid (by
  have := equalInt_any A2 B2 n2 c2 m2 d2 x.src y.src w1 (H2.out.mono iR_mono (HBB.out.trans (HBR1.out.mono HBB.out.size))) (K2.out.mono iR_mono (HBB.out.trans (HBR1.out.mono HBB.out.size)))
  rw [show sameL x.src y.src = true by simp [sameL, e2]] at this
  exact this)
 have E2 := Lib.hid e2
 clear e2
 go_wp2_with (go_at_call 51; refine HC.out.mono ?_; clear HC)
 rintro e w2 ⟨rfl, hb2⟩
 have HBR2 := Lib.hid (HBR1.out.trans (hb2.mono HBR1.out.size))
 clear hb2 a0 b0 a1 b1 a2 b2 a3 b3
 have a0 := (HA.out.below HBR2.out la).cell 0
 have b0 := (HB.out.below HBR2.out lb).cell 0
 have a1 := (HA.out.below HBR2.out la).cell 1
 have b1 := (HB.out.below HBR2.out lb).cell 1
 have a2 := (HA.out.below HBR2.out la).cell 2
 have b2 := (HB.out.below HBR2.out lb).cell 2
 have a3 := (HA.out.below HBR2.out la).cell 3
 have b3 := (HB.out.below HBR2.out lb).cell 3
 simp only [List.getElem?_toArray, List.getElem?_cons_zero, List.getElem?_cons_succ] at a0 b0 a1 b1 a2 b2 a3 b3
 by_cases e3 : x.dst = y.dst
 case neg =>
  have E3 := Lib.hid e3
  go_wp2_with fail
  go_ret
  refine ⟨ret_bool ?_, HBB.out.trans (HBR2.out.mono HBB.out.size)⟩
  rw [decide_eq_false (fun h => E3.out (by rw [h]))]; simpa using E3.out
 have E3 := Lib.hid e3
 go_wp2_with fail
 go_ret
 exact ⟨ret_bool (by rw [← qDep_same E0.out E1.out E2.out E3.out] <;> simp [E3.out]), HBB.out.trans (HBR2.out.mono HBB.out.size)⟩
set_option maxHeartbeats 4000000 in
theorem eqfDepend_any (A B : Option Addr) (n c m d : Nat) (l r : List QDep) (w : World) (hl : SlR 4 qDepR w (.slice A n c) l) (hr : SlR 4 qDepR w (.slice B m d) r) :
 Calls Tryz.prog 153 #[.slice A n c, .slice B m d, .func (.func 154) #[] #[]] w fun e w' => e = .returned (.bool (sameL l r)) ∧ Below w.heap.size w w' := by
 have hn2 : n ≤ 9223372036854775807 := by have := hl.le; omega
 have hln := hl.len
 have hrn := hr.len
 have HL := Lib.hid hl
 have HR := Lib.hid hr
 clear hl hr
 by_cases e : n = m
 ·
  subst e
  have el : l.length = r.length := by omega
  have HN := Lib.hid hln
  have HE := Lib.hid el
  clear hln hrn el
  obtain ⟨v, hv⟩ : ∃ v, sameL l r = v := ⟨_, rfl⟩
  rw [hv]
  have HV : Hid (sameL (l.drop 0) (r.drop 0) = v) := Lib.hid hv
  clear hv
  go_enter Tryz.func153, Tryz.ntmps153
  go_wp2_with fail
  go_loopg [17] n (fun q i wr => ∃ k : Nat, k ≤ n ∧ q = n - k ∧ i = .int .i64 k ∧ sameL (l.drop k) (r.drop k) = v ∧ Below w.heap.size w wr)
  case atStart => exact ⟨0, Nat.zero_le _, rfl, rfl, HV.out, Below.refl _ _⟩
  case round =>
   obtain ⟨k, hk, hq, rfl, hv, hb⟩ := hrel
   have HQ := Lib.hid hq
   have HB := Lib.hid hb
   have HV2 := Lib.hid hv
   clear hq hb hv HV
   by_cases hlt : k < n
   ·
    obtain ⟨a, ao, x, A1, n1, c1, A2, n2, c2, rfl, hal, hx, e0, e1, e2, e3, g1, g2⟩ := qDep_at (HL.out.mono qDepR_mono HB.out) hlt
    obtain ⟨b, bo, y, B1, m1, d1, B2, m2, d2, rfl, hbl, hy, f0, f1, f2, f3, j1, j2⟩ := qDep_at (HR.out.mono qDepR_mono HB.out) hlt
    have HX := Lib.hid hx
    have HY := Lib.hid hy
    have G1 := Lib.hid g1
    have J1 := Lib.hid j1
    have G2 := Lib.hid g2
    have J2 := Lib.hid j2
    have hkn : (k : Int) < (n : Int) := by omega
    have hk0 : (0 : Int) ≤ (k : Int) := by omega
    clear hx hy g1 g2 j1 j2
    go_wp2_with (go_at_call 154; refine (sameDepend_any A1 B1 A2 B2 n1 c1 m1 d1 n2 c2 m2 d2 x y _ (G1.out.1.mono strR_mono (((Below.refl _ _).alloc (Nat.le_refl _) _).alloc (by simp) _)) (J1.out.1.mono strR_mono (((Below.refl _ _).alloc (Nat.le_refl _) _).alloc (by simp) _)) (G2.out.1.mono iR_mono (((Below.refl _ _).alloc (Nat.le_refl _) _).alloc (by simp) _)) (J2.out.1.mono iR_mono (((Below.refl _ _).alloc (Nat.le_refl _) _).alloc (by simp) _))).mono ?_)
    rintro e w1 ⟨rfl, hb1⟩
    have HB1 := Lib.hid (HB.out.trans ((((Below.refl _ _).alloc (Nat.le_refl _) _).alloc (by simp) _).trans (hb1.mono (by simp; omega)) |>.mono HB.out.size))
    by_cases exy : x = y
    ·
     have hd : decide (x = y) = true := decide_eq_true exy
     rw [hd]
     have HXE := Lib.hid exy
     clear exy hd hb1
     go_wp2_with fail
     go_roundg (n - (k + 1))
     case measure => have := HQ.out; omega
     case rel => exact ⟨k + 1, by omega, rfl, by go_num, sameL_go HX.out HY.out HV2.out HXE.out, HB1.out⟩
    ·
     obtain rfl := sameL_stop HX.out HY.out HV2.out exy
     have hd : decide (x = y) = false := decide_eq_false exy
     rw [hd]
     clear hd exy hb1
     go_wp2_with fail
     go_ret
     exact ⟨rfl, HB1.out⟩
   ·
    obtain rfl := sameL_end HV2.out HE.out (by have := HN.out; omega)
    go_wp2_with fail
    go_ret
    exact ⟨rfl, HB.out⟩
 ·
  have el : ¬ l.length = r.length := by omega
  rw [sameL_len el]
  go_enter Tryz.func153, Tryz.ntmps153
  go_wp2_with fail
  go_ret
  exact ⟨rfl, Below.refl _ _⟩
theorem qPurpose_same {x y : QPurpose} (e0 : x.name = y.name) (e1 : x.most = y.most) (e2 : x.may = y.may) : true = decide (x = y) := by
 obtain ⟨u0, u1, u2⟩ := x
 obtain ⟨v0, v1, v2⟩ := y
 skip
 simp_all
set_option maxHeartbeats 4000000 in
set_option maxRecDepth 100000 in
theorem samePurpose_any (A1 B1 : Option Addr) (n1 c1 m1 d1 : Nat) (x y : QPurpose) (w : World) (h1 : SlR 4 qRefR w (.slice A1 n1 c1) x.may) (k1 : SlR 4 qRefR w (.slice B1 m1 d1) y.may) :
 Calls Tryz.prog 91 #[.agg #[.string x.name, .slice A1 n1 c1, .int .i64 x.most], .agg #[.string y.name, .slice B1 m1 d1, .int .i64 y.most]] w fun e w' => e = .returned (.bool (decide (x = y))) ∧ Below w.heap.size w w' := by
 have H1 := Lib.hid h1
 have K1 := Lib.hid k1
 clear h1 k1
 go_enter Tryz.func91, Tryz.ntmps91
 go_upto_region 1 with fail
 obtain ⟨wb, hwb⟩ : ∃ wq, wq = (w.alloc (.cells #[.string x.name, .slice A1 n1 c1, .int .i64 x.most] 89)).alloc (.cells #[.string y.name, .slice B1 m1 d1, .int .i64 y.most] 89) := ⟨_, rfl⟩
 rw [← hwb]
 have hbb : Below w.heap.size w wb := by rw [hwb]; exact ((Below.refl _ _).alloc (Nat.le_refl _) _).alloc (by simp) _
 have kA : Blk wb w.heap.size 89 #[.string x.name, .slice A1 n1 c1, .int .i64 x.most] := by rw [hwb]; exact (Blk.new _ _ _).alloc _
 have kB : Blk wb (w.heap.size + 1) 89 #[.string y.name, .slice B1 m1 d1, .int .i64 y.most] := by rw [hwb]; exact blkNew (by simp)
 obtain ⟨ga, hga⟩ : ∃ g, g = w.heap.size := ⟨_, rfl⟩
 obtain ⟨gb, hgb⟩ : ∃ g, g = w.heap.size + 1 := ⟨_, rfl⟩
 rw [← hgb] at kB ⊢
 rw [← hga] at kA ⊢
 have HGA : ga = w.heap.size := hga
 clear hwb hga hgb
 have la := kA.lt
 have lb := kB.lt
 have a0 := kA.cell 0
 have b0 := kB.cell 0
 have a1 := kA.cell 1
 have b1 := kB.cell 1
 have a2 := kA.cell 2
 have b2 := kB.cell 2
 simp only [List.getElem?_toArray, List.getElem?_cons_zero, List.getElem?_cons_succ] at a0 b0 a1 b1 a2 b2
 have HA := Lib.hid kA
 have HB := Lib.hid kB
 have HBB := Lib.hid hbb
 have HBR0 : Hid (Below wb.heap.size wb wb) := Lib.hid (Below.refl _ _)
 clear kA kB hbb HGA
 by_cases e0 : x.name = y.name
 case neg =>
  have s0 : (x.name.toList == y.name.toList) = false := by rw [str_beq]; exact decide_eq_false e0
  have E0 := Lib.hid e0
  clear e0
  go_wp2_with fail
  go_ret
  refine ⟨ret_bool ?_, HBB.out.trans (HBR0.out.mono HBB.out.size)⟩
  exact (decide_eq_false (fun h => E0.out (by rw [h]))).symm
 have s0 : (x.name.toList == y.name.toList) = true := by rw [str_beq]; exact decide_eq_true e0
 have E0 := Lib.hid e0
 clear e0
 by_cases e1 : x.most = y.most
 case neg =>
  have E1 := Lib.hid e1
  go_wp2_with fail
  go_ret
  refine ⟨ret_bool ?_, HBB.out.trans (HBR0.out.mono HBB.out.size)⟩
  exact (decide_eq_false (fun h => E1.out (by rw [h]))).symm
 have E1 := Lib.hid e1
 by_cases e2 : x.may = y.may
 case neg =>
  have HC : Hid (Calls Tryz.prog 159 #[.slice A1 n1 c1, .slice B1 m1 d1] wb fun e w' => e = .returned (.bool false) ∧ Below wb.heap.size wb w') := Lib.hid (by
   have := equalRef_any A1 B1 n1 c1 m1 d1 x.may y.may wb (H1.out.mono qRefR_mono (HBB.out.trans (HBR0.out.mono HBB.out.size))) (K1.out.mono qRefR_mono (HBB.out.trans (HBR0.out.mono HBB.out.size)))
   rw [show sameL x.may y.may = false by simp [sameL, e2]] at this
   exact this)
  have E2 := Lib.hid e2
  clear e2
  go_wp2_with (go_at_call 159; refine HC.out.mono ?_; clear HC)
  rintro e w1 ⟨rfl, hb1⟩
  have HBR1 := Lib.hid (HBR0.out.trans (hb1.mono HBR0.out.size))
  clear hb1
  go_wp2_with fail
  go_ret
  exact ⟨ret_bool (decide_eq_false (fun h => E2.out (by rw [h]))).symm, HBB.out.trans (HBR1.out.mono HBB.out.size)⟩
 have HC : Hid (Calls Tryz.prog 159 #[.slice A1 n1 c1, .slice B1 m1 d1] wb fun e w' => e = .returned (.bool true) ∧ Below wb.heap.size wb w') := Lib.hid (by
  have := equalRef_any A1 B1 n1 c1 m1 d1 x.may y.may wb (H1.out.mono qRefR_mono (HBB.out.trans (HBR0.out.mono HBB.out.size))) (K1.out.mono qRefR_mono (HBB.out.trans (HBR0.out.mono HBB.out.size)))
  rw [show sameL x.may y.may = true by simp [sameL, e2]] at this
  exact this)
 have E2 := Lib.hid e2
 clear e2
 go_wp2_with (go_at_call 159; refine HC.out.mono ?_; clear HC)
 rintro e w1 ⟨rfl, hb1⟩
 have HBR1 := Lib.hid (HBR0.out.trans (hb1.mono HBR0.out.size))
 clear hb1
 go_wp2_with fail
 go_ret
 exact ⟨ret_bool (qPurpose_same E0.out E1.out E2.out), HBB.out.trans (HBR1.out.mono HBB.out.size)⟩
set_option maxHeartbeats 4000000 in
theorem eqfPurpose_any (A B : Option Addr) (n c m d : Nat) (l r : List QPurpose) (w : World) (hl : SlR 3 qPurposeR w (.slice A n c) l) (hr : SlR 3 qPurposeR w (.slice B m d) r) :
 Calls Tryz.prog 90 #[.slice A n c, .slice B m d, .func (.func 91) #[] #[]] w fun e w' => e = .returned (.bool (sameL l r)) ∧ Below w.heap.size w w' := by
 have hn2 : n ≤ 9223372036854775807 := by have := hl.le; omega
 have hln := hl.len
 have hrn := hr.len
 have HL := Lib.hid hl
 have HR := Lib.hid hr
 clear hl hr
 by_cases e : n = m
 ·
  subst e
  have el : l.length = r.length := by omega
  have HN := Lib.hid hln
  have HE := Lib.hid el
  clear hln hrn el
  obtain ⟨v, hv⟩ : ∃ v, sameL l r = v := ⟨_, rfl⟩
  rw [hv]
  have HV : Hid (sameL (l.drop 0) (r.drop 0) = v) := Lib.hid hv
  clear hv
  go_enter Tryz.func90, Tryz.ntmps90
  go_wp2_with fail
  go_loopg [17] n (fun q i wr => ∃ k : Nat, k ≤ n ∧ q = n - k ∧ i = .int .i64 k ∧ sameL (l.drop k) (r.drop k) = v ∧ Below w.heap.size w wr)
  case atStart => exact ⟨0, Nat.zero_le _, rfl, rfl, HV.out, Below.refl _ _⟩
  case round =>
   obtain ⟨k, hk, hq, rfl, hv, hb⟩ := hrel
   have HQ := Lib.hid hq
   have HB := Lib.hid hb
   have HV2 := Lib.hid hv
   clear hq hb hv HV
   by_cases hlt : k < n
   ·
    obtain ⟨a, ao, x, A1, n1, c1, rfl, hal, hx, e0, e1, e2, g1⟩ := qPurpose_at (HL.out.mono qPurposeR_mono HB.out) hlt
    obtain ⟨b, bo, y, B1, m1, d1, rfl, hbl, hy, f0, f1, f2, j1⟩ := qPurpose_at (HR.out.mono qPurposeR_mono HB.out) hlt
    have HX := Lib.hid hx
    have HY := Lib.hid hy
    have G1 := Lib.hid g1
    have J1 := Lib.hid j1
    have hkn : (k : Int) < (n : Int) := by omega
    have hk0 : (0 : Int) ≤ (k : Int) := by omega
    clear hx hy g1 j1
    go_wp2_with (go_at_call 91; refine (samePurpose_any A1 B1 n1 c1 m1 d1 x y _ (G1.out.1.mono qRefR_mono (((Below.refl _ _).alloc (Nat.le_refl _) _).alloc (by simp) _)) (J1.out.1.mono qRefR_mono (((Below.refl _ _).alloc (Nat.le_refl _) _).alloc (by simp) _))).mono ?_)
    rintro e w1 ⟨rfl, hb1⟩
    have HB1 := Lib.hid (HB.out.trans ((((Below.refl _ _).alloc (Nat.le_refl _) _).alloc (by simp) _).trans (hb1.mono (by simp; omega)) |>.mono HB.out.size))
    by_cases exy : x = y
    ·
     have hd : decide (x = y) = true := decide_eq_true exy
     rw [hd]
     have HXE := Lib.hid exy
     clear exy hd hb1
     go_wp2_with fail
     go_roundg (n - (k + 1))
     case measure => have := HQ.out; omega
     case rel => exact ⟨k + 1, by omega, rfl, by go_num, sameL_go HX.out HY.out HV2.out HXE.out, HB1.out⟩
    ·
     obtain rfl := sameL_stop HX.out HY.out HV2.out exy
     have hd : decide (x = y) = false := decide_eq_false exy
     rw [hd]
     clear hd exy hb1
     go_wp2_with fail
     go_ret
     exact ⟨rfl, HB1.out⟩
   ·
    obtain rfl := sameL_end HV2.out HE.out (by have := HN.out; omega)
    go_wp2_with fail
    go_ret
    exact ⟨rfl, HB.out⟩
 ·
  have el : ¬ l.length = r.length := by omega
  rw [sameL_len el]
  go_enter Tryz.func90, Tryz.ntmps90
  go_wp2_with fail
  go_ret
  exact ⟨rfl, Below.refl _ _⟩
theorem qSchema_same {x y : QSchema} (e0 : x.name = y.name) (e1 : x.by_ = y.by_) (e2 : x.issuer = y.issuer) (e3 : x.version = y.version) (e4 : x.fields = y.fields) (e5 : x.deps = y.deps) : true = decide (x = y) := by
 obtain ⟨u0, u1, u2, u3, u4, u5⟩ := x
 obtain ⟨v0, v1, v2, v3, v4, v5⟩ := y
 skip
 simp_all
set_option maxHeartbeats 4000000 in
set_option maxRecDepth 100000 in
theorem sameSchema_any (A1 B1 A2 B2 : Option Addr) (n1 c1 m1 d1 n2 c2 m2 d2 : Nat) (x y : QSchema) (w : World) (h1 : SlR 11 qFieldR w (.slice A1 n1 c1) x.fields) (k1 : SlR 11 qFieldR w (.slice B1 m1 d1) y.fields) (h2 : SlR 4 qDepR w (.slice A2 n2 c2) x.deps) (k2 : SlR 4 qDepR w (.slice B2 m2 d2) y.deps) :
 Calls Tryz.prog 85 #[.agg #[.string x.name, .string x.by_, .int .i64 x.issuer, .int .i64 x.version, .slice A1 n1 c1, .slice A2 n2 c2], .agg #[.string y.name, .string y.by_, .int .i64 y.issuer, .int .i64 y.version, .slice B1 m1 d1, .slice B2 m2 d2]] w fun e w' => e = .returned (.bool (decide (x = y))) ∧ Below w.heap.size w w' := by
 have H1 := Lib.hid h1
 have K1 := Lib.hid k1
 have H2 := Lib.hid h2
 have K2 := Lib.hid k2
 clear h1 k1 h2 k2
 go_enter Tryz.func85, Tryz.ntmps85
 go_upto_region 1 with fail
 obtain ⟨wb, hwb⟩ : ∃ wq, wq = (w.alloc (.cells #[.string x.name, .string x.by_, .int .i64 x.issuer, .int .i64 x.version, .slice A1 n1 c1, .slice A2 n2 c2] 52)).alloc (.cells #[.string y.name, .string y.by_, .int .i64 y.issuer, .int .i64 y.version, .slice B1 m1 d1, .slice B2 m2 d2] 52) := ⟨_, rfl⟩
 rw [← hwb]
 have hbb : Below w.heap.size w wb := by rw [hwb]; exact ((Below.refl _ _).alloc (Nat.le_refl _) _).alloc (by simp) _
 have kA : Blk wb w.heap.size 52 #[.string x.name, .string x.by_, .int .i64 x.issuer, .int .i64 x.version, .slice A1 n1 c1, .slice A2 n2 c2] := by rw [hwb]; exact (Blk.new _ _ _).alloc _
 have kB : Blk wb (w.heap.size + 1) 52 #[.string y.name, .string y.by_, .int .i64 y.issuer, .int .i64 y.version, .slice B1 m1 d1, .slice B2 m2 d2] := by rw [hwb]; exact blkNew (by simp)
 obtain ⟨ga, hga⟩ : ∃ g, g = w.heap.size := ⟨_, rfl⟩
 obtain ⟨gb, hgb⟩ : ∃ g, g = w.heap.size + 1 := ⟨_, rfl⟩
 rw [← hgb] at kB ⊢
 rw [← hga] at kA ⊢
 have HGA : ga = w.heap.size := hga
 clear hwb hga hgb
 have la := kA.lt
 have lb := kB.lt
 have a0 := kA.cell 0
 have b0 := kB.cell 0
 have a1 := kA.cell 1
 have b1 := kB.cell 1
 have a2 := kA.cell 2
 have b2 := kB.cell 2
 have a3 := kA.cell 3
 have b3 := kB.cell 3
 have a4 := kA.cell 4
 have b4 := kB.cell 4
 have a5 := kA.cell 5
 have b5 := kB.cell 5
 simp only [List.getElem?_toArray, List.getElem?_cons_zero, List.getElem?_cons_succ] at a0 b0 a1 b1 a2 b2 a3 b3 a4 b4 a5 b5
 have HA := Lib.hid kA
 have HB := Lib.hid kB
 have HBB := Lib.hid hbb
 have HBR0 : Hid (Below wb.heap.size wb wb) := Lib.hid (Below.refl _ _)
 clear kA kB hbb HGA
 by_cases e0 : x.name = y.name
 case neg =>
  have s0 : (x.name.toList == y.name.toList) = false := by rw [str_beq]; exact decide_eq_false e0
  have E0 := Lib.hid e0
  clear e0
  go_wp2_with fail
  go_ret
  refine ⟨ret_bool ?_, HBB.out.trans (HBR0.out.mono HBB.out.size)⟩
  exact (decide_eq_false (fun h => E0.out (by rw [h]))).symm
 have s0 : (x.name.toList == y.name.toList) = true := by rw [str_beq]; exact decide_eq_true e0
 have E0 := Lib.hid e0
 clear e0
 by_cases e1 : x.by_ = y.by_
 case neg =>
  have s1 : (x.by_.toList == y.by_.toList) = false := by rw [str_beq]; exact decide_eq_false e1
  have E1 := Lib.hid e1
  clear e1
  go_wp2_with fail
  go_ret
  refine ⟨ret_bool ?_, HBB.out.trans (HBR0.out.mono HBB.out.size)⟩
  exact (decide_eq_false (fun h => E1.out (by rw [h]))).symm
 have s1 : (x.by_.toList == y.by_.toList) = true := by rw [str_beq]; exact decide_eq_true e1
 have E1 := Lib.hid e1
 clear e1
 by_cases e2 : x.issuer = y.issuer
 case neg =>
  have E2 := Lib.hid e2
  go_wp2_with fail
  go_ret
  refine ⟨ret_bool ?_, HBB.out.trans (HBR0.out.mono HBB.out.size)⟩
  exact (decide_eq_false (fun h => E2.out (by rw [h]))).symm
 have E2 := Lib.hid e2
 by_cases e3 : x.version = y.version
 case neg =>
  have E3 := Lib.hid e3
  go_wp2_with fail
  go_ret
  refine ⟨ret_bool ?_, HBB.out.trans (HBR0.out.mono HBB.out.size)⟩
  exact (decide_eq_false (fun h => E3.out (by rw [h]))).symm
 have E3 := Lib.hid e3
 by_cases e4 : x.fields = y.fields
 case neg =>
  have HC : Hid (Calls Tryz.prog 151 #[.slice A1 n1 c1, .slice B1 m1 d1, .func (.func 152) #[] #[]] wb fun e w' => e = .returned (.bool false) ∧ Below wb.heap.size wb w') := Lib.hid (by
   have := eqfField_any A1 B1 n1 c1 m1 d1 x.fields y.fields wb (H1.out.mono qFieldR_mono (HBB.out.trans (HBR0.out.mono HBB.out.size))) (K1.out.mono qFieldR_mono (HBB.out.trans (HBR0.out.mono HBB.out.size)))
   rw [show sameL x.fields y.fields = false by simp [sameL, e4]] at this
   exact this)
  have E4 := Lib.hid e4
  clear e4
  go_wp2_with (go_at_call 151; refine HC.out.mono ?_; clear HC)
  rintro e w1 ⟨rfl, hb1⟩
  have HBR1 := Lib.hid (HBR0.out.trans (hb1.mono HBR0.out.size))
  clear hb1
  go_wp2_with fail
  go_ret
  exact ⟨ret_bool (decide_eq_false (fun h => E4.out (by rw [h]))).symm, HBB.out.trans (HBR1.out.mono HBB.out.size)⟩
 have HC : Hid (Calls Tryz.prog 151 #[.slice A1 n1 c1, .slice B1 m1 d1, .func (.func 152) #[] #[]] wb fun e w' => e = .returned (.bool true) ∧ Below wb.heap.size wb w') := Lib.hid (by
  have := eqfField_any A1 B1 n1 c1 m1 d1 x.fields y.fields wb (H1.out.mono qFieldR_mono (HBB.out.trans (HBR0.out.mono HBB.out.size))) (K1.out.mono qFieldR_mono (HBB.out.trans (HBR0.out.mono HBB.out.size)))
  rw [show sameL x.fields y.fields = true by simp [sameL, e4]] at this
  exact this)
 have E4 := Lib.hid e4
 clear e4
 go_wp2_with (go_at_call 151; refine HC.out.mono ?_; clear HC)
 rintro e w1 ⟨rfl, hb1⟩
 have HBR1 := Lib.hid (HBR0.out.trans (hb1.mono HBR0.out.size))
 clear hb1 a0 b0 a1 b1 a2 b2 a3 b3 a4 b4 a5 b5
 have a0 := (HA.out.below HBR1.out la).cell 0
 have b0 := (HB.out.below HBR1.out lb).cell 0
 have a1 := (HA.out.below HBR1.out la).cell 1
 have b1 := (HB.out.below HBR1.out lb).cell 1
 have a2 := (HA.out.below HBR1.out la).cell 2
 have b2 := (HB.out.below HBR1.out lb).cell 2
 have a3 := (HA.out.below HBR1.out la).cell 3
 have b3 := (HB.out.below HBR1.out lb).cell 3
 have a4 := (HA.out.below HBR1.out la).cell 4
 have b4 := (HB.out.below HBR1.out lb).cell 4
 have a5 := (HA.out.below HBR1.out la).cell 5
 have b5 := (HB.out.below HBR1.out lb).cell 5
 simp only [List.getElem?_toArray, List.getElem?_cons_zero, List.getElem?_cons_succ] at a0 b0 a1 b1 a2 b2 a3 b3 a4 b4 a5 b5
 by_cases e5 : x.deps = y.deps
 case neg =>
  have HC : Hid (Calls Tryz.prog 153 #[.slice A2 n2 c2, .slice B2 m2 d2, .func (.func 154) #[] #[]] w1 fun e w' => e = .returned (.bool false) ∧ Below w1.heap.size w1 w') := Lib.hid (by
   have := eqfDepend_any A2 B2 n2 c2 m2 d2 x.deps y.deps w1 (H2.out.mono qDepR_mono (HBB.out.trans (HBR1.out.mono HBB.out.size))) (K2.out.mono qDepR_mono (HBB.out.trans (HBR1.out.mono HBB.out.size)))
   rw [show sameL x.deps y.deps = false by simp [sameL, e5]] at this
   exact this)
  have E5 := Lib.hid e5
  clear e5
  go_wp2_with (go_at_call 153; refine HC.out.mono ?_; clear HC)
  rintro e w2 ⟨rfl, hb2⟩
  have HBR2 := Lib.hid (HBR1.out.trans (hb2.mono HBR1.out.size))
  clear hb2
  go_wp2_with fail
  go_ret
  exact ⟨ret_bool (decide_eq_false (fun h => E5.out (by rw [h]))).symm, HBB.out.trans (HBR2.out.mono HBB.out.size)⟩
 have HC : Hid (Calls Tryz.prog 153 #[.slice A2 n2 c2, .slice B2 m2 d2, .func (.func 154) #[] #[]] w1 fun e w' => e = .returned (.bool true) ∧ Below w1.heap.size w1 w') := Lib.hid (by
  have := eqfDepend_any A2 B2 n2 c2 m2 d2 x.deps y.deps w1 (H2.out.mono qDepR_mono (HBB.out.trans (HBR1.out.mono HBB.out.size))) (K2.out.mono qDepR_mono (HBB.out.trans (HBR1.out.mono HBB.out.size)))
  rw [show sameL x.deps y.deps = true by simp [sameL, e5]] at this
  exact this)
 have E5 := Lib.hid e5
 clear e5
 go_wp2_with (go_at_call 153; refine HC.out.mono ?_; clear HC)
 rintro e w2 ⟨rfl, hb2⟩
 have HBR2 := Lib.hid (HBR1.out.trans (hb2.mono HBR1.out.size))
 clear hb2
 go_wp2_with fail
 go_ret
 exact ⟨ret_bool (qSchema_same E0.out E1.out E2.out E3.out E4.out E5.out), HBB.out.trans (HBR2.out.mono HBB.out.size)⟩
set_option maxHeartbeats 4000000 in
theorem eqfSchema_any (A B : Option Addr) (n c m d : Nat) (l r : List QSchema) (w : World) (hl : SlR 6 qSchemaR w (.slice A n c) l) (hr : SlR 6 qSchemaR w (.slice B m d) r) :
 Calls Tryz.prog 84 #[.slice A n c, .slice B m d, .func (.func 85) #[] #[]] w fun e w' => e = .returned (.bool (sameL l r)) ∧ Below w.heap.size w w' := by
 have hn2 : n ≤ 9223372036854775807 := by have := hl.le; omega
 have hln := hl.len
 have hrn := hr.len
 have HL := Lib.hid hl
 have HR := Lib.hid hr
 clear hl hr
 by_cases e : n = m
 ·
  subst e
  have el : l.length = r.length := by omega
  have HN := Lib.hid hln
  have HE := Lib.hid el
  clear hln hrn el
  obtain ⟨v, hv⟩ : ∃ v, sameL l r = v := ⟨_, rfl⟩
  rw [hv]
  have HV : Hid (sameL (l.drop 0) (r.drop 0) = v) := Lib.hid hv
  clear hv
  go_enter Tryz.func84, Tryz.ntmps84
  go_wp2_with fail
  go_loopg [17] n (fun q i wr => ∃ k : Nat, k ≤ n ∧ q = n - k ∧ i = .int .i64 k ∧ sameL (l.drop k) (r.drop k) = v ∧ Below w.heap.size w wr)
  case atStart => exact ⟨0, Nat.zero_le _, rfl, rfl, HV.out, Below.refl _ _⟩
  case round =>
   obtain ⟨k, hk, hq, rfl, hv, hb⟩ := hrel
   have HQ := Lib.hid hq
   have HB := Lib.hid hb
   have HV2 := Lib.hid hv
   clear hq hb hv HV
   by_cases hlt : k < n
   ·
    obtain ⟨a, ao, x, A1, n1, c1, A2, n2, c2, rfl, hal, hx, e0, e1, e2, e3, e4, e5, g1, g2⟩ := qSchema_at (HL.out.mono qSchemaR_mono HB.out) hlt
    obtain ⟨b, bo, y, B1, m1, d1, B2, m2, d2, rfl, hbl, hy, f0, f1, f2, f3, f4, f5, j1, j2⟩ := qSchema_at (HR.out.mono qSchemaR_mono HB.out) hlt
    have HX := Lib.hid hx
    have HY := Lib.hid hy
    have G1 := Lib.hid g1
    have J1 := Lib.hid j1
    have G2 := Lib.hid g2
    have J2 := Lib.hid j2
    have hkn : (k : Int) < (n : Int) := by omega
    have hk0 : (0 : Int) ≤ (k : Int) := by omega
    clear hx hy g1 g2 j1 j2
    go_wp2_with (go_at_call 85; refine (sameSchema_any A1 B1 A2 B2 n1 c1 m1 d1 n2 c2 m2 d2 x y _ (G1.out.1.mono qFieldR_mono (((Below.refl _ _).alloc (Nat.le_refl _) _).alloc (by simp) _)) (J1.out.1.mono qFieldR_mono (((Below.refl _ _).alloc (Nat.le_refl _) _).alloc (by simp) _)) (G2.out.1.mono qDepR_mono (((Below.refl _ _).alloc (Nat.le_refl _) _).alloc (by simp) _)) (J2.out.1.mono qDepR_mono (((Below.refl _ _).alloc (Nat.le_refl _) _).alloc (by simp) _))).mono ?_)
    rintro e w1 ⟨rfl, hb1⟩
    have HB1 := Lib.hid (HB.out.trans ((((Below.refl _ _).alloc (Nat.le_refl _) _).alloc (by simp) _).trans (hb1.mono (by simp; omega)) |>.mono HB.out.size))
    by_cases exy : x = y
    ·
     have hd : decide (x = y) = true := decide_eq_true exy
     rw [hd]
     have HXE := Lib.hid exy
     clear exy hd hb1
     go_wp2_with fail
     go_roundg (n - (k + 1))
     case measure => have := HQ.out; omega
     case rel => exact ⟨k + 1, by omega, rfl, by go_num, sameL_go HX.out HY.out HV2.out HXE.out, HB1.out⟩
    ·
     obtain rfl := sameL_stop HX.out HY.out HV2.out exy
     have hd : decide (x = y) = false := decide_eq_false exy
     rw [hd]
     clear hd exy hb1
     go_wp2_with fail
     go_ret
     exact ⟨rfl, HB1.out⟩
   ·
    obtain rfl := sameL_end HV2.out HE.out (by have := HN.out; omega)
    go_wp2_with fail
    go_ret
    exact ⟨rfl, HB.out⟩
 ·
  have el : ¬ l.length = r.length := by omega
  rw [sameL_len el]
  go_enter Tryz.func84, Tryz.ntmps84
  go_wp2_with fail
  go_ret
  exact ⟨rfl, Below.refl _ _⟩
theorem qRule_same {x y : QRule} (e0 : x.head = y.head) (e1 : x.schema = y.schema) (e2 : x.froms = y.froms) (e3 : x.where_ = y.where_) (e4 : x.sets = y.sets) : true = decide (x = y) := by
 obtain ⟨u0, u1, u2, u3, u4⟩ := x
 obtain ⟨v0, v1, v2, v3, v4⟩ := y
 skip
 simp_all
set_option maxHeartbeats 4000000 in
set_option maxRecDepth 100000 in
theorem sameRule_any (A1 B1 A2 B2 A3 B3 : Option Addr) (n1 c1 m1 d1 n2 c2 m2 d2 n3 c3 m3 d3 : Nat) (x y : QRule) (w : World) (h1 : SlR 8 qFromR w (.slice A1 n1 c1) x.froms) (k1 : SlR 8 qFromR w (.slice B1 m1 d1) y.froms) (h2 : SlR 11 qAtomR w (.slice A2 n2 c2) x.where_) (k2 : SlR 11 qAtomR w (.slice B2 m2 d2) y.where_) (h3 : SlR 7 qSetR w (.slice A3 n3 c3) x.sets) (k3 : SlR 7 qSetR w (.slice B3 m3 d3) y.sets) :
 Calls Tryz.prog 87 #[.agg #[.string x.head, .int .i64 x.schema, .slice A1 n1 c1, .slice A2 n2 c2, .slice A3 n3 c3], .agg #[.string y.head, .int .i64 y.schema, .slice B1 m1 d1, .slice B2 m2 d2, .slice B3 m3 d3]] w fun e w' => e = .returned (.bool (decide (x = y))) ∧ Below w.heap.size w w' := by
 have H1 := Lib.hid h1
 have K1 := Lib.hid k1
 have H2 := Lib.hid h2
 have K2 := Lib.hid k2
 have H3 := Lib.hid h3
 have K3 := Lib.hid k3
 clear h1 k1 h2 k2 h3 k3
 go_enter Tryz.func87, Tryz.ntmps87
 go_upto_region 1 with fail
 obtain ⟨wb, hwb⟩ : ∃ wq, wq = (w.alloc (.cells #[.string x.head, .int .i64 x.schema, .slice A1 n1 c1, .slice A2 n2 c2, .slice A3 n3 c3] 83)).alloc (.cells #[.string y.head, .int .i64 y.schema, .slice B1 m1 d1, .slice B2 m2 d2, .slice B3 m3 d3] 83) := ⟨_, rfl⟩
 rw [← hwb]
 have hbb : Below w.heap.size w wb := by rw [hwb]; exact ((Below.refl _ _).alloc (Nat.le_refl _) _).alloc (by simp) _
 have kA : Blk wb w.heap.size 83 #[.string x.head, .int .i64 x.schema, .slice A1 n1 c1, .slice A2 n2 c2, .slice A3 n3 c3] := by rw [hwb]; exact (Blk.new _ _ _).alloc _
 have kB : Blk wb (w.heap.size + 1) 83 #[.string y.head, .int .i64 y.schema, .slice B1 m1 d1, .slice B2 m2 d2, .slice B3 m3 d3] := by rw [hwb]; exact blkNew (by simp)
 obtain ⟨ga, hga⟩ : ∃ g, g = w.heap.size := ⟨_, rfl⟩
 obtain ⟨gb, hgb⟩ : ∃ g, g = w.heap.size + 1 := ⟨_, rfl⟩
 rw [← hgb] at kB ⊢
 rw [← hga] at kA ⊢
 have HGA : ga = w.heap.size := hga
 clear hwb hga hgb
 have la := kA.lt
 have lb := kB.lt
 have a0 := kA.cell 0
 have b0 := kB.cell 0
 have a1 := kA.cell 1
 have b1 := kB.cell 1
 have a2 := kA.cell 2
 have b2 := kB.cell 2
 have a3 := kA.cell 3
 have b3 := kB.cell 3
 have a4 := kA.cell 4
 have b4 := kB.cell 4
 simp only [List.getElem?_toArray, List.getElem?_cons_zero, List.getElem?_cons_succ] at a0 b0 a1 b1 a2 b2 a3 b3 a4 b4
 have HA := Lib.hid kA
 have HB := Lib.hid kB
 have HBB := Lib.hid hbb
 have HBR0 : Hid (Below wb.heap.size wb wb) := Lib.hid (Below.refl _ _)
 clear kA kB hbb HGA
 by_cases e0 : x.head = y.head
 case neg =>
  have s0 : (x.head.toList == y.head.toList) = false := by rw [str_beq]; exact decide_eq_false e0
  have E0 := Lib.hid e0
  clear e0
  go_wp2_with fail
  go_ret
  refine ⟨ret_bool ?_, HBB.out.trans (HBR0.out.mono HBB.out.size)⟩
  exact (decide_eq_false (fun h => E0.out (by rw [h]))).symm
 have s0 : (x.head.toList == y.head.toList) = true := by rw [str_beq]; exact decide_eq_true e0
 have E0 := Lib.hid e0
 clear e0
 by_cases e1 : x.schema = y.schema
 case neg =>
  have E1 := Lib.hid e1
  go_wp2_with fail
  go_ret
  refine ⟨ret_bool ?_, HBB.out.trans (HBR0.out.mono HBB.out.size)⟩
  exact (decide_eq_false (fun h => E1.out (by rw [h]))).symm
 have E1 := Lib.hid e1
 by_cases e2 : x.froms = y.froms
 case neg =>
  have HC : Hid (Calls Tryz.prog 155 #[.slice A1 n1 c1, .slice B1 m1 d1] wb fun e w' => e = .returned (.bool false) ∧ Below wb.heap.size wb w') := Lib.hid (by
   have := equalFrom_any A1 B1 n1 c1 m1 d1 x.froms y.froms wb (H1.out.mono qFromR_mono (HBB.out.trans (HBR0.out.mono HBB.out.size))) (K1.out.mono qFromR_mono (HBB.out.trans (HBR0.out.mono HBB.out.size)))
   rw [show sameL x.froms y.froms = false by simp [sameL, e2]] at this
   exact this)
  have E2 := Lib.hid e2
  clear e2
  go_wp2_with (go_at_call 155; refine HC.out.mono ?_; clear HC)
  rintro e w1 ⟨rfl, hb1⟩
  have HBR1 := Lib.hid (HBR0.out.trans (hb1.mono HBR0.out.size))
  clear hb1
  go_wp2_with fail
  go_ret
  exact ⟨ret_bool (decide_eq_false (fun h => E2.out (by rw [h]))).symm, HBB.out.trans (HBR1.out.mono HBB.out.size)⟩
 have HC : Hid (Calls Tryz.prog 155 #[.slice A1 n1 c1, .slice B1 m1 d1] wb fun e w' => e = .returned (.bool true) ∧ Below wb.heap.size wb w') := Lib.hid (by
  have := equalFrom_any A1 B1 n1 c1 m1 d1 x.froms y.froms wb (H1.out.mono qFromR_mono (HBB.out.trans (HBR0.out.mono HBB.out.size))) (K1.out.mono qFromR_mono (HBB.out.trans (HBR0.out.mono HBB.out.size)))
  rw [show sameL x.froms y.froms = true by simp [sameL, e2]] at this
  exact this)
 have E2 := Lib.hid e2
 clear e2
 go_wp2_with (go_at_call 155; refine HC.out.mono ?_; clear HC)
 rintro e w1 ⟨rfl, hb1⟩
 have HBR1 := Lib.hid (HBR0.out.trans (hb1.mono HBR0.out.size))
 clear hb1 a0 b0 a1 b1 a2 b2 a3 b3 a4 b4
 have a0 := (HA.out.below HBR1.out la).cell 0
 have b0 := (HB.out.below HBR1.out lb).cell 0
 have a1 := (HA.out.below HBR1.out la).cell 1
 have b1 := (HB.out.below HBR1.out lb).cell 1
 have a2 := (HA.out.below HBR1.out la).cell 2
 have b2 := (HB.out.below HBR1.out lb).cell 2
 have a3 := (HA.out.below HBR1.out la).cell 3
 have b3 := (HB.out.below HBR1.out lb).cell 3
 have a4 := (HA.out.below HBR1.out la).cell 4
 have b4 := (HB.out.below HBR1.out lb).cell 4
 simp only [List.getElem?_toArray, List.getElem?_cons_zero, List.getElem?_cons_succ] at a0 b0 a1 b1 a2 b2 a3 b3 a4 b4
 by_cases e3 : x.where_ = y.where_
 case neg =>
  have HC : Hid (Calls Tryz.prog 156 #[.slice A2 n2 c2, .slice B2 m2 d2] w1 fun e w' => e = .returned (.bool false) ∧ Below w1.heap.size w1 w') := Lib.hid (by
   have := equalAtom_any A2 B2 n2 c2 m2 d2 x.where_ y.where_ w1 (H2.out.mono qAtomR_mono (HBB.out.trans (HBR1.out.mono HBB.out.size))) (K2.out.mono qAtomR_mono (HBB.out.trans (HBR1.out.mono HBB.out.size)))
   rw [show sameL x.where_ y.where_ = false by simp [sameL, e3]] at this
   exact this)
  have E3 := Lib.hid e3
  clear e3
  go_wp2_with (go_at_call 156; refine HC.out.mono ?_; clear HC)
  rintro e w2 ⟨rfl, hb2⟩
  have HBR2 := Lib.hid (HBR1.out.trans (hb2.mono HBR1.out.size))
  clear hb2
  go_wp2_with fail
  go_ret
  exact ⟨ret_bool (decide_eq_false (fun h => E3.out (by rw [h]))).symm, HBB.out.trans (HBR2.out.mono HBB.out.size)⟩
 have HC : Hid (Calls Tryz.prog 156 #[.slice A2 n2 c2, .slice B2 m2 d2] w1 fun e w' => e = .returned (.bool true) ∧ Below w1.heap.size w1 w') := Lib.hid (by
  have := equalAtom_any A2 B2 n2 c2 m2 d2 x.where_ y.where_ w1 (H2.out.mono qAtomR_mono (HBB.out.trans (HBR1.out.mono HBB.out.size))) (K2.out.mono qAtomR_mono (HBB.out.trans (HBR1.out.mono HBB.out.size)))
  rw [show sameL x.where_ y.where_ = true by simp [sameL, e3]] at this
  exact this)
 have E3 := Lib.hid e3
 clear e3
 go_wp2_with (go_at_call 156; refine HC.out.mono ?_; clear HC)
 rintro e w2 ⟨rfl, hb2⟩
 have HBR2 := Lib.hid (HBR1.out.trans (hb2.mono HBR1.out.size))
 clear hb2 a0 b0 a1 b1 a2 b2 a3 b3 a4 b4
 have a0 := (HA.out.below HBR2.out la).cell 0
 have b0 := (HB.out.below HBR2.out lb).cell 0
 have a1 := (HA.out.below HBR2.out la).cell 1
 have b1 := (HB.out.below HBR2.out lb).cell 1
 have a2 := (HA.out.below HBR2.out la).cell 2
 have b2 := (HB.out.below HBR2.out lb).cell 2
 have a3 := (HA.out.below HBR2.out la).cell 3
 have b3 := (HB.out.below HBR2.out lb).cell 3
 have a4 := (HA.out.below HBR2.out la).cell 4
 have b4 := (HB.out.below HBR2.out lb).cell 4
 simp only [List.getElem?_toArray, List.getElem?_cons_zero, List.getElem?_cons_succ] at a0 b0 a1 b1 a2 b2 a3 b3 a4 b4
 by_cases e4 : x.sets = y.sets
 case neg =>
  have HC : Hid (Calls Tryz.prog 157 #[.slice A3 n3 c3, .slice B3 m3 d3] w2 fun e w' => e = .returned (.bool false) ∧ Below w2.heap.size w2 w') := Lib.hid (by
   have := equalSet_any A3 B3 n3 c3 m3 d3 x.sets y.sets w2 (H3.out.mono qSetR_mono (HBB.out.trans (HBR2.out.mono HBB.out.size))) (K3.out.mono qSetR_mono (HBB.out.trans (HBR2.out.mono HBB.out.size)))
   rw [show sameL x.sets y.sets = false by simp [sameL, e4]] at this
   exact this)
  have E4 := Lib.hid e4
  clear e4
  go_wp2_with (go_at_call 157; refine HC.out.mono ?_; clear HC)
  rintro e w3 ⟨rfl, hb3⟩
  have HBR3 := Lib.hid (HBR2.out.trans (hb3.mono HBR2.out.size))
  clear hb3
  go_wp2_with fail
  go_ret
  exact ⟨ret_bool (decide_eq_false (fun h => E4.out (by rw [h]))).symm, HBB.out.trans (HBR3.out.mono HBB.out.size)⟩
 have HC : Hid (Calls Tryz.prog 157 #[.slice A3 n3 c3, .slice B3 m3 d3] w2 fun e w' => e = .returned (.bool true) ∧ Below w2.heap.size w2 w') := Lib.hid (by
  have := equalSet_any A3 B3 n3 c3 m3 d3 x.sets y.sets w2 (H3.out.mono qSetR_mono (HBB.out.trans (HBR2.out.mono HBB.out.size))) (K3.out.mono qSetR_mono (HBB.out.trans (HBR2.out.mono HBB.out.size)))
  rw [show sameL x.sets y.sets = true by simp [sameL, e4]] at this
  exact this)
 have E4 := Lib.hid e4
 clear e4
 go_wp2_with (go_at_call 157; refine HC.out.mono ?_; clear HC)
 rintro e w3 ⟨rfl, hb3⟩
 have HBR3 := Lib.hid (HBR2.out.trans (hb3.mono HBR2.out.size))
 clear hb3
 go_wp2_with fail
 go_ret
 exact ⟨ret_bool (qRule_same E0.out E1.out E2.out E3.out E4.out), HBB.out.trans (HBR3.out.mono HBB.out.size)⟩
set_option maxHeartbeats 4000000 in
theorem eqfRule_any (A B : Option Addr) (n c m d : Nat) (l r : List QRule) (w : World) (hl : SlR 5 qRuleR w (.slice A n c) l) (hr : SlR 5 qRuleR w (.slice B m d) r) :
 Calls Tryz.prog 86 #[.slice A n c, .slice B m d, .func (.func 87) #[] #[]] w fun e w' => e = .returned (.bool (sameL l r)) ∧ Below w.heap.size w w' := by
 have hn2 : n ≤ 9223372036854775807 := by have := hl.le; omega
 have hln := hl.len
 have hrn := hr.len
 have HL := Lib.hid hl
 have HR := Lib.hid hr
 clear hl hr
 by_cases e : n = m
 ·
  subst e
  have el : l.length = r.length := by omega
  have HN := Lib.hid hln
  have HE := Lib.hid el
  clear hln hrn el
  obtain ⟨v, hv⟩ : ∃ v, sameL l r = v := ⟨_, rfl⟩
  rw [hv]
  have HV : Hid (sameL (l.drop 0) (r.drop 0) = v) := Lib.hid hv
  clear hv
  go_enter Tryz.func86, Tryz.ntmps86
  go_wp2_with fail
  go_loopg [17] n (fun q i wr => ∃ k : Nat, k ≤ n ∧ q = n - k ∧ i = .int .i64 k ∧ sameL (l.drop k) (r.drop k) = v ∧ Below w.heap.size w wr)
  case atStart => exact ⟨0, Nat.zero_le _, rfl, rfl, HV.out, Below.refl _ _⟩
  case round =>
   obtain ⟨k, hk, hq, rfl, hv, hb⟩ := hrel
   have HQ := Lib.hid hq
   have HB := Lib.hid hb
   have HV2 := Lib.hid hv
   clear hq hb hv HV
   by_cases hlt : k < n
   ·
    obtain ⟨a, ao, x, A1, n1, c1, A2, n2, c2, A3, n3, c3, rfl, hal, hx, e0, e1, e2, e3, e4, g1, g2, g3⟩ := qRule_at (HL.out.mono qRuleR_mono HB.out) hlt
    obtain ⟨b, bo, y, B1, m1, d1, B2, m2, d2, B3, m3, d3, rfl, hbl, hy, f0, f1, f2, f3, f4, j1, j2, j3⟩ := qRule_at (HR.out.mono qRuleR_mono HB.out) hlt
    have HX := Lib.hid hx
    have HY := Lib.hid hy
    have G1 := Lib.hid g1
    have J1 := Lib.hid j1
    have G2 := Lib.hid g2
    have J2 := Lib.hid j2
    have G3 := Lib.hid g3
    have J3 := Lib.hid j3
    have hkn : (k : Int) < (n : Int) := by omega
    have hk0 : (0 : Int) ≤ (k : Int) := by omega
    clear hx hy g1 g2 g3 j1 j2 j3
    go_wp2_with (go_at_call 87; refine (sameRule_any A1 B1 A2 B2 A3 B3 n1 c1 m1 d1 n2 c2 m2 d2 n3 c3 m3 d3 x y _ (G1.out.1.mono qFromR_mono (((Below.refl _ _).alloc (Nat.le_refl _) _).alloc (by simp) _)) (J1.out.1.mono qFromR_mono (((Below.refl _ _).alloc (Nat.le_refl _) _).alloc (by simp) _)) (G2.out.1.mono qAtomR_mono (((Below.refl _ _).alloc (Nat.le_refl _) _).alloc (by simp) _)) (J2.out.1.mono qAtomR_mono (((Below.refl _ _).alloc (Nat.le_refl _) _).alloc (by simp) _)) (G3.out.1.mono qSetR_mono (((Below.refl _ _).alloc (Nat.le_refl _) _).alloc (by simp) _)) (J3.out.1.mono qSetR_mono (((Below.refl _ _).alloc (Nat.le_refl _) _).alloc (by simp) _))).mono ?_)
    rintro e w1 ⟨rfl, hb1⟩
    have HB1 := Lib.hid (HB.out.trans ((((Below.refl _ _).alloc (Nat.le_refl _) _).alloc (by simp) _).trans (hb1.mono (by simp; omega)) |>.mono HB.out.size))
    by_cases exy : x = y
    ·
     have hd : decide (x = y) = true := decide_eq_true exy
     rw [hd]
     have HXE := Lib.hid exy
     clear exy hd hb1
     go_wp2_with fail
     go_roundg (n - (k + 1))
     case measure => have := HQ.out; omega
     case rel => exact ⟨k + 1, by omega, rfl, by go_num, sameL_go HX.out HY.out HV2.out HXE.out, HB1.out⟩
    ·
     obtain rfl := sameL_stop HX.out HY.out HV2.out exy
     have hd : decide (x = y) = false := decide_eq_false exy
     rw [hd]
     clear hd exy hb1
     go_wp2_with fail
     go_ret
     exact ⟨rfl, HB1.out⟩
   ·
    obtain rfl := sameL_end HV2.out HE.out (by have := HN.out; omega)
    go_wp2_with fail
    go_ret
    exact ⟨rfl, HB.out⟩
 ·
  have el : ¬ l.length = r.length := by omega
  rw [sameL_len el]
  go_enter Tryz.func86, Tryz.ntmps86
  go_wp2_with fail
  go_ret
  exact ⟨rfl, Below.refl _ _⟩
theorem qConvert_same {x y : QConvert} (e0 : x.from_ = y.from_) (e1 : x.to_ = y.to_) (e2 : x.a = y.a) (e3 : x.b = y.b) (e4 : x.moves = y.moves) : true = decide (x = y) := by
 obtain ⟨u0, u1, u2, u3, u4⟩ := x
 obtain ⟨v0, v1, v2, v3, v4⟩ := y
 skip
 simp_all
set_option maxHeartbeats 4000000 in
set_option maxRecDepth 100000 in
theorem sameConvert_any (A1 B1 : Option Addr) (n1 c1 m1 d1 : Nat) (x y : QConvert) (w : World) (h1 : SlR 5 qMoveR w (.slice A1 n1 c1) x.moves) (k1 : SlR 5 qMoveR w (.slice B1 m1 d1) y.moves) :
 Calls Tryz.prog 89 #[.agg #[.string x.from_, .string x.to_, .int .i64 x.a, .int .i64 x.b, .slice A1 n1 c1], .agg #[.string y.from_, .string y.to_, .int .i64 y.a, .int .i64 y.b, .slice B1 m1 d1]] w fun e w' => e = .returned (.bool (decide (x = y))) ∧ Below w.heap.size w w' := by
 have H1 := Lib.hid h1
 have K1 := Lib.hid k1
 clear h1 k1
 go_enter Tryz.func89, Tryz.ntmps89
 go_upto_region 1 with fail
 obtain ⟨wb, hwb⟩ : ∃ wq, wq = (w.alloc (.cells #[.string x.from_, .string x.to_, .int .i64 x.a, .int .i64 x.b, .slice A1 n1 c1] 86)).alloc (.cells #[.string y.from_, .string y.to_, .int .i64 y.a, .int .i64 y.b, .slice B1 m1 d1] 86) := ⟨_, rfl⟩
 rw [← hwb]
 have hbb : Below w.heap.size w wb := by rw [hwb]; exact ((Below.refl _ _).alloc (Nat.le_refl _) _).alloc (by simp) _
 have kA : Blk wb w.heap.size 86 #[.string x.from_, .string x.to_, .int .i64 x.a, .int .i64 x.b, .slice A1 n1 c1] := by rw [hwb]; exact (Blk.new _ _ _).alloc _
 have kB : Blk wb (w.heap.size + 1) 86 #[.string y.from_, .string y.to_, .int .i64 y.a, .int .i64 y.b, .slice B1 m1 d1] := by rw [hwb]; exact blkNew (by simp)
 obtain ⟨ga, hga⟩ : ∃ g, g = w.heap.size := ⟨_, rfl⟩
 obtain ⟨gb, hgb⟩ : ∃ g, g = w.heap.size + 1 := ⟨_, rfl⟩
 rw [← hgb] at kB ⊢
 rw [← hga] at kA ⊢
 have HGA : ga = w.heap.size := hga
 clear hwb hga hgb
 have la := kA.lt
 have lb := kB.lt
 have a0 := kA.cell 0
 have b0 := kB.cell 0
 have a1 := kA.cell 1
 have b1 := kB.cell 1
 have a2 := kA.cell 2
 have b2 := kB.cell 2
 have a3 := kA.cell 3
 have b3 := kB.cell 3
 have a4 := kA.cell 4
 have b4 := kB.cell 4
 simp only [List.getElem?_toArray, List.getElem?_cons_zero, List.getElem?_cons_succ] at a0 b0 a1 b1 a2 b2 a3 b3 a4 b4
 have HA := Lib.hid kA
 have HB := Lib.hid kB
 have HBB := Lib.hid hbb
 have HBR0 : Hid (Below wb.heap.size wb wb) := Lib.hid (Below.refl _ _)
 clear kA kB hbb HGA
 by_cases e0 : x.from_ = y.from_
 case neg =>
  have s0 : (x.from_.toList == y.from_.toList) = false := by rw [str_beq]; exact decide_eq_false e0
  have E0 := Lib.hid e0
  clear e0
  go_wp2_with fail
  go_ret
  refine ⟨ret_bool ?_, HBB.out.trans (HBR0.out.mono HBB.out.size)⟩
  exact (decide_eq_false (fun h => E0.out (by rw [h]))).symm
 have s0 : (x.from_.toList == y.from_.toList) = true := by rw [str_beq]; exact decide_eq_true e0
 have E0 := Lib.hid e0
 clear e0
 by_cases e1 : x.to_ = y.to_
 case neg =>
  have s1 : (x.to_.toList == y.to_.toList) = false := by rw [str_beq]; exact decide_eq_false e1
  have E1 := Lib.hid e1
  clear e1
  go_wp2_with fail
  go_ret
  refine ⟨ret_bool ?_, HBB.out.trans (HBR0.out.mono HBB.out.size)⟩
  exact (decide_eq_false (fun h => E1.out (by rw [h]))).symm
 have s1 : (x.to_.toList == y.to_.toList) = true := by rw [str_beq]; exact decide_eq_true e1
 have E1 := Lib.hid e1
 clear e1
 by_cases e2 : x.a = y.a
 case neg =>
  have E2 := Lib.hid e2
  go_wp2_with fail
  go_ret
  refine ⟨ret_bool ?_, HBB.out.trans (HBR0.out.mono HBB.out.size)⟩
  exact (decide_eq_false (fun h => E2.out (by rw [h]))).symm
 have E2 := Lib.hid e2
 by_cases e3 : x.b = y.b
 case neg =>
  have E3 := Lib.hid e3
  go_wp2_with fail
  go_ret
  refine ⟨ret_bool ?_, HBB.out.trans (HBR0.out.mono HBB.out.size)⟩
  exact (decide_eq_false (fun h => E3.out (by rw [h]))).symm
 have E3 := Lib.hid e3
 by_cases e4 : x.moves = y.moves
 case neg =>
  have HC : Hid (Calls Tryz.prog 158 #[.slice A1 n1 c1, .slice B1 m1 d1] wb fun e w' => e = .returned (.bool false) ∧ Below wb.heap.size wb w') := Lib.hid (by
   have := equalMove_any A1 B1 n1 c1 m1 d1 x.moves y.moves wb (H1.out.mono qMoveR_mono (HBB.out.trans (HBR0.out.mono HBB.out.size))) (K1.out.mono qMoveR_mono (HBB.out.trans (HBR0.out.mono HBB.out.size)))
   rw [show sameL x.moves y.moves = false by simp [sameL, e4]] at this
   exact this)
  have E4 := Lib.hid e4
  clear e4
  go_wp2_with (go_at_call 158; refine HC.out.mono ?_; clear HC)
  rintro e w1 ⟨rfl, hb1⟩
  have HBR1 := Lib.hid (HBR0.out.trans (hb1.mono HBR0.out.size))
  clear hb1
  go_wp2_with fail
  go_ret
  exact ⟨ret_bool (decide_eq_false (fun h => E4.out (by rw [h]))).symm, HBB.out.trans (HBR1.out.mono HBB.out.size)⟩
 have HC : Hid (Calls Tryz.prog 158 #[.slice A1 n1 c1, .slice B1 m1 d1] wb fun e w' => e = .returned (.bool true) ∧ Below wb.heap.size wb w') := Lib.hid (by
  have := equalMove_any A1 B1 n1 c1 m1 d1 x.moves y.moves wb (H1.out.mono qMoveR_mono (HBB.out.trans (HBR0.out.mono HBB.out.size))) (K1.out.mono qMoveR_mono (HBB.out.trans (HBR0.out.mono HBB.out.size)))
  rw [show sameL x.moves y.moves = true by simp [sameL, e4]] at this
  exact this)
 have E4 := Lib.hid e4
 clear e4
 go_wp2_with (go_at_call 158; refine HC.out.mono ?_; clear HC)
 rintro e w1 ⟨rfl, hb1⟩
 have HBR1 := Lib.hid (HBR0.out.trans (hb1.mono HBR0.out.size))
 clear hb1
 go_wp2_with fail
 go_ret
 exact ⟨ret_bool (qConvert_same E0.out E1.out E2.out E3.out E4.out), HBB.out.trans (HBR1.out.mono HBB.out.size)⟩
set_option maxHeartbeats 4000000 in
theorem eqfConvert_any (A B : Option Addr) (n c m d : Nat) (l r : List QConvert) (w : World) (hl : SlR 5 qConvertR w (.slice A n c) l) (hr : SlR 5 qConvertR w (.slice B m d) r) :
 Calls Tryz.prog 88 #[.slice A n c, .slice B m d, .func (.func 89) #[] #[]] w fun e w' => e = .returned (.bool (sameL l r)) ∧ Below w.heap.size w w' := by
 have hn2 : n ≤ 9223372036854775807 := by have := hl.le; omega
 have hln := hl.len
 have hrn := hr.len
 have HL := Lib.hid hl
 have HR := Lib.hid hr
 clear hl hr
 by_cases e : n = m
 ·
  subst e
  have el : l.length = r.length := by omega
  have HN := Lib.hid hln
  have HE := Lib.hid el
  clear hln hrn el
  obtain ⟨v, hv⟩ : ∃ v, sameL l r = v := ⟨_, rfl⟩
  rw [hv]
  have HV : Hid (sameL (l.drop 0) (r.drop 0) = v) := Lib.hid hv
  clear hv
  go_enter Tryz.func88, Tryz.ntmps88
  go_wp2_with fail
  go_loopg [17] n (fun q i wr => ∃ k : Nat, k ≤ n ∧ q = n - k ∧ i = .int .i64 k ∧ sameL (l.drop k) (r.drop k) = v ∧ Below w.heap.size w wr)
  case atStart => exact ⟨0, Nat.zero_le _, rfl, rfl, HV.out, Below.refl _ _⟩
  case round =>
   obtain ⟨k, hk, hq, rfl, hv, hb⟩ := hrel
   have HQ := Lib.hid hq
   have HB := Lib.hid hb
   have HV2 := Lib.hid hv
   clear hq hb hv HV
   by_cases hlt : k < n
   ·
    obtain ⟨a, ao, x, A1, n1, c1, rfl, hal, hx, e0, e1, e2, e3, e4, g1⟩ := qConvert_at (HL.out.mono qConvertR_mono HB.out) hlt
    obtain ⟨b, bo, y, B1, m1, d1, rfl, hbl, hy, f0, f1, f2, f3, f4, j1⟩ := qConvert_at (HR.out.mono qConvertR_mono HB.out) hlt
    have HX := Lib.hid hx
    have HY := Lib.hid hy
    have G1 := Lib.hid g1
    have J1 := Lib.hid j1
    have hkn : (k : Int) < (n : Int) := by omega
    have hk0 : (0 : Int) ≤ (k : Int) := by omega
    clear hx hy g1 j1
    go_wp2_with (go_at_call 89; refine (sameConvert_any A1 B1 n1 c1 m1 d1 x y _ (G1.out.1.mono qMoveR_mono (((Below.refl _ _).alloc (Nat.le_refl _) _).alloc (by simp) _)) (J1.out.1.mono qMoveR_mono (((Below.refl _ _).alloc (Nat.le_refl _) _).alloc (by simp) _))).mono ?_)
    rintro e w1 ⟨rfl, hb1⟩
    have HB1 := Lib.hid (HB.out.trans ((((Below.refl _ _).alloc (Nat.le_refl _) _).alloc (by simp) _).trans (hb1.mono (by simp; omega)) |>.mono HB.out.size))
    by_cases exy : x = y
    ·
     have hd : decide (x = y) = true := decide_eq_true exy
     rw [hd]
     have HXE := Lib.hid exy
     clear exy hd hb1
     go_wp2_with fail
     go_roundg (n - (k + 1))
     case measure => have := HQ.out; omega
     case rel => exact ⟨k + 1, by omega, rfl, by go_num, sameL_go HX.out HY.out HV2.out HXE.out, HB1.out⟩
    ·
     obtain rfl := sameL_stop HX.out HY.out HV2.out exy
     have hd : decide (x = y) = false := decide_eq_false exy
     rw [hd]
     clear hd exy hb1
     go_wp2_with fail
     go_ret
     exact ⟨rfl, HB1.out⟩
   ·
    obtain rfl := sameL_end HV2.out HE.out (by have := HN.out; omega)
    go_wp2_with fail
    go_ret
    exact ⟨rfl, HB.out⟩
 ·
  have el : ¬ l.length = r.length := by omega
  rw [sameL_len el]
  go_enter Tryz.func88, Tryz.ntmps88
  go_wp2_with fail
  go_ret
  exact ⟨rfl, Below.refl _ _⟩
theorem qSource_same {x y : QSource} (e0 : x.issuers = y.issuers) (e1 : x.units = y.units) (e2 : x.schemas = y.schemas) (e3 : x.rules = y.rules) (e4 : x.converts = y.converts) (e5 : x.purposes = y.purposes) : true = decide (x = y) := by
 obtain ⟨u0, u1, u2, u3, u4, u5⟩ := x
 obtain ⟨v0, v1, v2, v3, v4, v5⟩ := y
 skip
 simp_all
set_option maxHeartbeats 4000000 in
set_option maxRecDepth 100000 in
theorem sameSource_any (A1 B1 A2 B2 A3 B3 A4 B4 A5 B5 A6 B6 : Option Addr) (n1 c1 m1 d1 n2 c2 m2 d2 n3 c3 m3 d3 n4 c4 m4 d4 n5 c5 m5 d5 n6 c6 m6 d6 : Nat) (x y : QSource) (w : World) (h1 : SlR 1 strR w (.slice A1 n1 c1) x.issuers) (k1 : SlR 1 strR w (.slice B1 m1 d1) y.issuers) (h2 : SlR 5 qUnitR w (.slice A2 n2 c2) x.units) (k2 : SlR 5 qUnitR w (.slice B2 m2 d2) y.units) (h3 : SlR 6 qSchemaR w (.slice A3 n3 c3) x.schemas) (k3 : SlR 6 qSchemaR w (.slice B3 m3 d3) y.schemas) (h4 : SlR 5 qRuleR w (.slice A4 n4 c4) x.rules) (k4 : SlR 5 qRuleR w (.slice B4 m4 d4) y.rules) (h5 : SlR 5 qConvertR w (.slice A5 n5 c5) x.converts) (k5 : SlR 5 qConvertR w (.slice B5 m5 d5) y.converts) (h6 : SlR 3 qPurposeR w (.slice A6 n6 c6) x.purposes) (k6 : SlR 3 qPurposeR w (.slice B6 m6 d6) y.purposes) :
 Calls Tryz.prog 50 #[.agg #[.slice A1 n1 c1, .slice A2 n2 c2, .slice A3 n3 c3, .slice A4 n4 c4, .slice A5 n5 c5, .slice A6 n6 c6], .agg #[.slice B1 m1 d1, .slice B2 m2 d2, .slice B3 m3 d3, .slice B4 m4 d4, .slice B5 m5 d5, .slice B6 m6 d6]] w fun e w' => e = .returned (.bool (decide (x = y))) ∧ Below w.heap.size w w' := by
 have H1 := Lib.hid h1
 have K1 := Lib.hid k1
 have H2 := Lib.hid h2
 have K2 := Lib.hid k2
 have H3 := Lib.hid h3
 have K3 := Lib.hid k3
 have H4 := Lib.hid h4
 have K4 := Lib.hid k4
 have H5 := Lib.hid h5
 have K5 := Lib.hid k5
 have H6 := Lib.hid h6
 have K6 := Lib.hid k6
 clear h1 k1 h2 k2 h3 k3 h4 k4 h5 k5 h6 k6
 go_enter Tryz.func50, Tryz.ntmps50
 go_upto_region 1 with fail
 obtain ⟨wb, hwb⟩ : ∃ wq, wq = (w.alloc (.cells #[.slice A1 n1 c1, .slice A2 n2 c2, .slice A3 n3 c3, .slice A4 n4 c4, .slice A5 n5 c5, .slice A6 n6 c6] 29)).alloc (.cells #[.slice B1 m1 d1, .slice B2 m2 d2, .slice B3 m3 d3, .slice B4 m4 d4, .slice B5 m5 d5, .slice B6 m6 d6] 29) := ⟨_, rfl⟩
 rw [← hwb]
 have hbb : Below w.heap.size w wb := by rw [hwb]; exact ((Below.refl _ _).alloc (Nat.le_refl _) _).alloc (by simp) _
 have kA : Blk wb w.heap.size 29 #[.slice A1 n1 c1, .slice A2 n2 c2, .slice A3 n3 c3, .slice A4 n4 c4, .slice A5 n5 c5, .slice A6 n6 c6] := by rw [hwb]; exact (Blk.new _ _ _).alloc _
 have kB : Blk wb (w.heap.size + 1) 29 #[.slice B1 m1 d1, .slice B2 m2 d2, .slice B3 m3 d3, .slice B4 m4 d4, .slice B5 m5 d5, .slice B6 m6 d6] := by rw [hwb]; exact blkNew (by simp)
 obtain ⟨ga, hga⟩ : ∃ g, g = w.heap.size := ⟨_, rfl⟩
 obtain ⟨gb, hgb⟩ : ∃ g, g = w.heap.size + 1 := ⟨_, rfl⟩
 rw [← hgb] at kB ⊢
 rw [← hga] at kA ⊢
 have HGA : ga = w.heap.size := hga
 clear hwb hga hgb
 have la := kA.lt
 have lb := kB.lt
 have a0 := kA.cell 0
 have b0 := kB.cell 0
 have a1 := kA.cell 1
 have b1 := kB.cell 1
 have a2 := kA.cell 2
 have b2 := kB.cell 2
 have a3 := kA.cell 3
 have b3 := kB.cell 3
 have a4 := kA.cell 4
 have b4 := kB.cell 4
 have a5 := kA.cell 5
 have b5 := kB.cell 5
 simp only [List.getElem?_toArray, List.getElem?_cons_zero, List.getElem?_cons_succ] at a0 b0 a1 b1 a2 b2 a3 b3 a4 b4 a5 b5
 have HA := Lib.hid kA
 have HB := Lib.hid kB
 have HBB := Lib.hid hbb
 have HBR0 : Hid (Below wb.heap.size wb wb) := Lib.hid (Below.refl _ _)
 clear kA kB hbb HGA
 by_cases e0 : x.issuers = y.issuers
 case neg =>
  have HC : Hid (Calls Tryz.prog 82 #[.slice A1 n1 c1, .slice B1 m1 d1] wb fun e w' => e = .returned (.bool false) ∧ Below wb.heap.size wb w') := Lib.hid (by
   have := equalStr_any A1 B1 n1 c1 m1 d1 x.issuers y.issuers wb (H1.out.mono strR_mono (HBB.out.trans (HBR0.out.mono HBB.out.size))) (K1.out.mono strR_mono (HBB.out.trans (HBR0.out.mono HBB.out.size)))
   rw [show sameL x.issuers y.issuers = false by simp [sameL, e0]] at this
   exact this)
  have E0 := Lib.hid e0
  clear e0
  go_wp2_with (go_at_call 82; refine HC.out.mono ?_; clear HC)
  rintro e w1 ⟨rfl, hb1⟩
  have HBR1 := Lib.hid (HBR0.out.trans (hb1.mono HBR0.out.size))
  clear hb1
  go_wp2_with fail
  go_ret
  exact ⟨ret_bool (decide_eq_false (fun h => E0.out (by rw [h]))).symm, HBB.out.trans (HBR1.out.mono HBB.out.size)⟩
 have HC : Hid (Calls Tryz.prog 82 #[.slice A1 n1 c1, .slice B1 m1 d1] wb fun e w' => e = .returned (.bool true) ∧ Below wb.heap.size wb w') := Lib.hid (by
  have := equalStr_any A1 B1 n1 c1 m1 d1 x.issuers y.issuers wb (H1.out.mono strR_mono (HBB.out.trans (HBR0.out.mono HBB.out.size))) (K1.out.mono strR_mono (HBB.out.trans (HBR0.out.mono HBB.out.size)))
  rw [show sameL x.issuers y.issuers = true by simp [sameL, e0]] at this
  exact this)
 have E0 := Lib.hid e0
 clear e0
 go_wp2_with (go_at_call 82; refine HC.out.mono ?_; clear HC)
 rintro e w1 ⟨rfl, hb1⟩
 have HBR1 := Lib.hid (HBR0.out.trans (hb1.mono HBR0.out.size))
 clear hb1 a0 b0 a1 b1 a2 b2 a3 b3 a4 b4 a5 b5
 have a0 := (HA.out.below HBR1.out la).cell 0
 have b0 := (HB.out.below HBR1.out lb).cell 0
 have a1 := (HA.out.below HBR1.out la).cell 1
 have b1 := (HB.out.below HBR1.out lb).cell 1
 have a2 := (HA.out.below HBR1.out la).cell 2
 have b2 := (HB.out.below HBR1.out lb).cell 2
 have a3 := (HA.out.below HBR1.out la).cell 3
 have b3 := (HB.out.below HBR1.out lb).cell 3
 have a4 := (HA.out.below HBR1.out la).cell 4
 have b4 := (HB.out.below HBR1.out lb).cell 4
 have a5 := (HA.out.below HBR1.out la).cell 5
 have b5 := (HB.out.below HBR1.out lb).cell 5
 simp only [List.getElem?_toArray, List.getElem?_cons_zero, List.getElem?_cons_succ] at a0 b0 a1 b1 a2 b2 a3 b3 a4 b4 a5 b5
 by_cases e1 : x.units = y.units
 case neg =>
  have HC : Hid (Calls Tryz.prog 83 #[.slice A2 n2 c2, .slice B2 m2 d2] w1 fun e w' => e = .returned (.bool false) ∧ Below w1.heap.size w1 w') := Lib.hid (by
   have := equalUnit_any A2 B2 n2 c2 m2 d2 x.units y.units w1 (H2.out.mono qUnitR_mono (HBB.out.trans (HBR1.out.mono HBB.out.size))) (K2.out.mono qUnitR_mono (HBB.out.trans (HBR1.out.mono HBB.out.size)))
   rw [show sameL x.units y.units = false by simp [sameL, e1]] at this
   exact this)
  have E1 := Lib.hid e1
  clear e1
  go_wp2_with (go_at_call 83; refine HC.out.mono ?_; clear HC)
  rintro e w2 ⟨rfl, hb2⟩
  have HBR2 := Lib.hid (HBR1.out.trans (hb2.mono HBR1.out.size))
  clear hb2
  go_wp2_with fail
  go_ret
  exact ⟨ret_bool (decide_eq_false (fun h => E1.out (by rw [h]))).symm, HBB.out.trans (HBR2.out.mono HBB.out.size)⟩
 have HC : Hid (Calls Tryz.prog 83 #[.slice A2 n2 c2, .slice B2 m2 d2] w1 fun e w' => e = .returned (.bool true) ∧ Below w1.heap.size w1 w') := Lib.hid (by
  have := equalUnit_any A2 B2 n2 c2 m2 d2 x.units y.units w1 (H2.out.mono qUnitR_mono (HBB.out.trans (HBR1.out.mono HBB.out.size))) (K2.out.mono qUnitR_mono (HBB.out.trans (HBR1.out.mono HBB.out.size)))
  rw [show sameL x.units y.units = true by simp [sameL, e1]] at this
  exact this)
 have E1 := Lib.hid e1
 clear e1
 go_wp2_with (go_at_call 83; refine HC.out.mono ?_; clear HC)
 rintro e w2 ⟨rfl, hb2⟩
 have HBR2 := Lib.hid (HBR1.out.trans (hb2.mono HBR1.out.size))
 clear hb2 a0 b0 a1 b1 a2 b2 a3 b3 a4 b4 a5 b5
 have a0 := (HA.out.below HBR2.out la).cell 0
 have b0 := (HB.out.below HBR2.out lb).cell 0
 have a1 := (HA.out.below HBR2.out la).cell 1
 have b1 := (HB.out.below HBR2.out lb).cell 1
 have a2 := (HA.out.below HBR2.out la).cell 2
 have b2 := (HB.out.below HBR2.out lb).cell 2
 have a3 := (HA.out.below HBR2.out la).cell 3
 have b3 := (HB.out.below HBR2.out lb).cell 3
 have a4 := (HA.out.below HBR2.out la).cell 4
 have b4 := (HB.out.below HBR2.out lb).cell 4
 have a5 := (HA.out.below HBR2.out la).cell 5
 have b5 := (HB.out.below HBR2.out lb).cell 5
 simp only [List.getElem?_toArray, List.getElem?_cons_zero, List.getElem?_cons_succ] at a0 b0 a1 b1 a2 b2 a3 b3 a4 b4 a5 b5
 by_cases e2 : x.schemas = y.schemas
 case neg =>
  have HC : Hid (Calls Tryz.prog 84 #[.slice A3 n3 c3, .slice B3 m3 d3, .func (.func 85) #[] #[]] w2 fun e w' => e = .returned (.bool false) ∧ Below w2.heap.size w2 w') := Lib.hid (by
   have := eqfSchema_any A3 B3 n3 c3 m3 d3 x.schemas y.schemas w2 (H3.out.mono qSchemaR_mono (HBB.out.trans (HBR2.out.mono HBB.out.size))) (K3.out.mono qSchemaR_mono (HBB.out.trans (HBR2.out.mono HBB.out.size)))
   rw [show sameL x.schemas y.schemas = false by simp [sameL, e2]] at this
   exact this)
  have E2 := Lib.hid e2
  clear e2
  go_wp2_with (go_at_call 84; refine HC.out.mono ?_; clear HC)
  rintro e w3 ⟨rfl, hb3⟩
  have HBR3 := Lib.hid (HBR2.out.trans (hb3.mono HBR2.out.size))
  clear hb3
  go_wp2_with fail
  go_ret
  exact ⟨ret_bool (decide_eq_false (fun h => E2.out (by rw [h]))).symm, HBB.out.trans (HBR3.out.mono HBB.out.size)⟩
 have HC : Hid (Calls Tryz.prog 84 #[.slice A3 n3 c3, .slice B3 m3 d3, .func (.func 85) #[] #[]] w2 fun e w' => e = .returned (.bool true) ∧ Below w2.heap.size w2 w') := Lib.hid (by
  have := eqfSchema_any A3 B3 n3 c3 m3 d3 x.schemas y.schemas w2 (H3.out.mono qSchemaR_mono (HBB.out.trans (HBR2.out.mono HBB.out.size))) (K3.out.mono qSchemaR_mono (HBB.out.trans (HBR2.out.mono HBB.out.size)))
  rw [show sameL x.schemas y.schemas = true by simp [sameL, e2]] at this
  exact this)
 have E2 := Lib.hid e2
 clear e2
 go_wp2_with (go_at_call 84; refine HC.out.mono ?_; clear HC)
 rintro e w3 ⟨rfl, hb3⟩
 have HBR3 := Lib.hid (HBR2.out.trans (hb3.mono HBR2.out.size))
 clear hb3 a0 b0 a1 b1 a2 b2 a3 b3 a4 b4 a5 b5
 have a0 := (HA.out.below HBR3.out la).cell 0
 have b0 := (HB.out.below HBR3.out lb).cell 0
 have a1 := (HA.out.below HBR3.out la).cell 1
 have b1 := (HB.out.below HBR3.out lb).cell 1
 have a2 := (HA.out.below HBR3.out la).cell 2
 have b2 := (HB.out.below HBR3.out lb).cell 2
 have a3 := (HA.out.below HBR3.out la).cell 3
 have b3 := (HB.out.below HBR3.out lb).cell 3
 have a4 := (HA.out.below HBR3.out la).cell 4
 have b4 := (HB.out.below HBR3.out lb).cell 4
 have a5 := (HA.out.below HBR3.out la).cell 5
 have b5 := (HB.out.below HBR3.out lb).cell 5
 simp only [List.getElem?_toArray, List.getElem?_cons_zero, List.getElem?_cons_succ] at a0 b0 a1 b1 a2 b2 a3 b3 a4 b4 a5 b5
 by_cases e3 : x.rules = y.rules
 case neg =>
  have HC : Hid (Calls Tryz.prog 86 #[.slice A4 n4 c4, .slice B4 m4 d4, .func (.func 87) #[] #[]] w3 fun e w' => e = .returned (.bool false) ∧ Below w3.heap.size w3 w') := Lib.hid (by
   have := eqfRule_any A4 B4 n4 c4 m4 d4 x.rules y.rules w3 (H4.out.mono qRuleR_mono (HBB.out.trans (HBR3.out.mono HBB.out.size))) (K4.out.mono qRuleR_mono (HBB.out.trans (HBR3.out.mono HBB.out.size)))
   rw [show sameL x.rules y.rules = false by simp [sameL, e3]] at this
   exact this)
  have E3 := Lib.hid e3
  clear e3
  go_wp2_with (go_at_call 86; refine HC.out.mono ?_; clear HC)
  rintro e w4 ⟨rfl, hb4⟩
  have HBR4 := Lib.hid (HBR3.out.trans (hb4.mono HBR3.out.size))
  clear hb4
  go_wp2_with fail
  go_ret
  exact ⟨ret_bool (decide_eq_false (fun h => E3.out (by rw [h]))).symm, HBB.out.trans (HBR4.out.mono HBB.out.size)⟩
 have HC : Hid (Calls Tryz.prog 86 #[.slice A4 n4 c4, .slice B4 m4 d4, .func (.func 87) #[] #[]] w3 fun e w' => e = .returned (.bool true) ∧ Below w3.heap.size w3 w') := Lib.hid (by
  have := eqfRule_any A4 B4 n4 c4 m4 d4 x.rules y.rules w3 (H4.out.mono qRuleR_mono (HBB.out.trans (HBR3.out.mono HBB.out.size))) (K4.out.mono qRuleR_mono (HBB.out.trans (HBR3.out.mono HBB.out.size)))
  rw [show sameL x.rules y.rules = true by simp [sameL, e3]] at this
  exact this)
 have E3 := Lib.hid e3
 clear e3
 go_wp2_with (go_at_call 86; refine HC.out.mono ?_; clear HC)
 rintro e w4 ⟨rfl, hb4⟩
 have HBR4 := Lib.hid (HBR3.out.trans (hb4.mono HBR3.out.size))
 clear hb4 a0 b0 a1 b1 a2 b2 a3 b3 a4 b4 a5 b5
 have a0 := (HA.out.below HBR4.out la).cell 0
 have b0 := (HB.out.below HBR4.out lb).cell 0
 have a1 := (HA.out.below HBR4.out la).cell 1
 have b1 := (HB.out.below HBR4.out lb).cell 1
 have a2 := (HA.out.below HBR4.out la).cell 2
 have b2 := (HB.out.below HBR4.out lb).cell 2
 have a3 := (HA.out.below HBR4.out la).cell 3
 have b3 := (HB.out.below HBR4.out lb).cell 3
 have a4 := (HA.out.below HBR4.out la).cell 4
 have b4 := (HB.out.below HBR4.out lb).cell 4
 have a5 := (HA.out.below HBR4.out la).cell 5
 have b5 := (HB.out.below HBR4.out lb).cell 5
 simp only [List.getElem?_toArray, List.getElem?_cons_zero, List.getElem?_cons_succ] at a0 b0 a1 b1 a2 b2 a3 b3 a4 b4 a5 b5
 by_cases e4 : x.converts = y.converts
 case neg =>
  have HC : Hid (Calls Tryz.prog 88 #[.slice A5 n5 c5, .slice B5 m5 d5, .func (.func 89) #[] #[]] w4 fun e w' => e = .returned (.bool false) ∧ Below w4.heap.size w4 w') := Lib.hid (by
   have := eqfConvert_any A5 B5 n5 c5 m5 d5 x.converts y.converts w4 (H5.out.mono qConvertR_mono (HBB.out.trans (HBR4.out.mono HBB.out.size))) (K5.out.mono qConvertR_mono (HBB.out.trans (HBR4.out.mono HBB.out.size)))
   rw [show sameL x.converts y.converts = false by simp [sameL, e4]] at this
   exact this)
  have E4 := Lib.hid e4
  clear e4
  go_wp2_with (go_at_call 88; refine HC.out.mono ?_; clear HC)
  rintro e w5 ⟨rfl, hb5⟩
  have HBR5 := Lib.hid (HBR4.out.trans (hb5.mono HBR4.out.size))
  clear hb5
  go_wp2_with fail
  go_ret
  exact ⟨ret_bool (decide_eq_false (fun h => E4.out (by rw [h]))).symm, HBB.out.trans (HBR5.out.mono HBB.out.size)⟩
 have HC : Hid (Calls Tryz.prog 88 #[.slice A5 n5 c5, .slice B5 m5 d5, .func (.func 89) #[] #[]] w4 fun e w' => e = .returned (.bool true) ∧ Below w4.heap.size w4 w') := Lib.hid (by
  have := eqfConvert_any A5 B5 n5 c5 m5 d5 x.converts y.converts w4 (H5.out.mono qConvertR_mono (HBB.out.trans (HBR4.out.mono HBB.out.size))) (K5.out.mono qConvertR_mono (HBB.out.trans (HBR4.out.mono HBB.out.size)))
  rw [show sameL x.converts y.converts = true by simp [sameL, e4]] at this
  exact this)
 have E4 := Lib.hid e4
 clear e4
 go_wp2_with (go_at_call 88; refine HC.out.mono ?_; clear HC)
 rintro e w5 ⟨rfl, hb5⟩
 have HBR5 := Lib.hid (HBR4.out.trans (hb5.mono HBR4.out.size))
 clear hb5 a0 b0 a1 b1 a2 b2 a3 b3 a4 b4 a5 b5
 have a0 := (HA.out.below HBR5.out la).cell 0
 have b0 := (HB.out.below HBR5.out lb).cell 0
 have a1 := (HA.out.below HBR5.out la).cell 1
 have b1 := (HB.out.below HBR5.out lb).cell 1
 have a2 := (HA.out.below HBR5.out la).cell 2
 have b2 := (HB.out.below HBR5.out lb).cell 2
 have a3 := (HA.out.below HBR5.out la).cell 3
 have b3 := (HB.out.below HBR5.out lb).cell 3
 have a4 := (HA.out.below HBR5.out la).cell 4
 have b4 := (HB.out.below HBR5.out lb).cell 4
 have a5 := (HA.out.below HBR5.out la).cell 5
 have b5 := (HB.out.below HBR5.out lb).cell 5
 simp only [List.getElem?_toArray, List.getElem?_cons_zero, List.getElem?_cons_succ] at a0 b0 a1 b1 a2 b2 a3 b3 a4 b4 a5 b5
 by_cases e5 : x.purposes = y.purposes
 case neg =>
  have HC : Hid (Calls Tryz.prog 90 #[.slice A6 n6 c6, .slice B6 m6 d6, .func (.func 91) #[] #[]] w5 fun e w' => e = .returned (.bool false) ∧ Below w5.heap.size w5 w') := Lib.hid (by
   have := eqfPurpose_any A6 B6 n6 c6 m6 d6 x.purposes y.purposes w5 (H6.out.mono qPurposeR_mono (HBB.out.trans (HBR5.out.mono HBB.out.size))) (K6.out.mono qPurposeR_mono (HBB.out.trans (HBR5.out.mono HBB.out.size)))
   rw [show sameL x.purposes y.purposes = false by simp [sameL, e5]] at this
   exact this)
  have E5 := Lib.hid e5
  clear e5
  go_wp2_with (go_at_call 90; refine HC.out.mono ?_; clear HC)
  rintro e w6 ⟨rfl, hb6⟩
  have HBR6 := Lib.hid (HBR5.out.trans (hb6.mono HBR5.out.size))
  clear hb6
  go_wp2_with fail
  go_ret
  exact ⟨ret_bool (decide_eq_false (fun h => E5.out (by rw [h]))).symm, HBB.out.trans (HBR6.out.mono HBB.out.size)⟩
 have HC : Hid (Calls Tryz.prog 90 #[.slice A6 n6 c6, .slice B6 m6 d6, .func (.func 91) #[] #[]] w5 fun e w' => e = .returned (.bool true) ∧ Below w5.heap.size w5 w') := Lib.hid (by
  have := eqfPurpose_any A6 B6 n6 c6 m6 d6 x.purposes y.purposes w5 (H6.out.mono qPurposeR_mono (HBB.out.trans (HBR5.out.mono HBB.out.size))) (K6.out.mono qPurposeR_mono (HBB.out.trans (HBR5.out.mono HBB.out.size)))
  rw [show sameL x.purposes y.purposes = true by simp [sameL, e5]] at this
  exact this)
 have E5 := Lib.hid e5
 clear e5
 go_wp2_with (go_at_call 90; refine HC.out.mono ?_; clear HC)
 rintro e w6 ⟨rfl, hb6⟩
 have HBR6 := Lib.hid (HBR5.out.trans (hb6.mono HBR5.out.size))
 clear hb6
 go_wp2_with fail
 go_ret
 exact ⟨ret_bool (qSource_same E0.out E1.out E2.out E3.out E4.out E5.out), HBB.out.trans (HBR6.out.mono HBB.out.size)⟩
def chunk (cs : List Value) (sz i : Nat) : List Value := (cs.drop (i * sz)).take sz
theorem chunk_at {cs : List Value} {sz i j : Nat} (hj : j < sz) : (chunk cs sz i)[j]? = cs[i * sz + j]? := by
 unfold chunk
 rw [List.getElem?_take_of_lt hj, List.getElem?_drop]
theorem chunk_set {cs : List Value} {sz i j : Nat} (u : Value) (hj : j < sz) : chunk (cs.set (i * sz + j) u) sz i = (chunk cs sz i).set j u := by
 apply List.ext_getElem?
 intro k
 rcases Nat.lt_or_ge k sz with hk | hk
 ·
  rw [chunk_at hk, List.getElem?_set, List.getElem?_set, chunk_at hk]
  by_cases e : j = k
  ·
   subst e
   rw [if_pos rfl, if_pos rfl]
   unfold chunk
   rw [List.length_take, List.length_drop]
   by_cases h : i * sz + j < cs.length
   · rw [if_pos h, if_pos (by omega)]
   · rw [if_neg h, if_neg (by omega)]
  · rw [if_neg (by omega), if_neg e]
 · rw [List.getElem?_eq_none (by unfold chunk; rw [List.length_take]; omega), List.getElem?_eq_none (by rw [List.length_set]; unfold chunk; rw [List.length_take]; omega)]
theorem chunk_other {cs : List Value} {sz i i' j : Nat} (u : Value) (hj : j < sz) (hi : i' ≠ i) : chunk (cs.set (i * sz + j) u) sz i' = chunk cs sz i' := by
 apply List.ext_getElem?
 intro k
 rcases Nat.lt_or_ge k sz with hk | hk
 ·
  rw [chunk_at hk, chunk_at hk, List.getElem?_set]
  rw [if_neg]
  intro e
  apply hi
  rcases Nat.lt_trichotomy i i' with h | h | h
  ·
   exfalso
   have : i * sz + sz ≤ i' * sz := by rw [← Nat.succ_mul]; exact Nat.mul_le_mul_right _ h
   omega
  · exact h.symm
  ·
   exfalso
   have : i' * sz + sz ≤ i * sz := by rw [← Nat.succ_mul]; exact Nat.mul_le_mul_right _ h
   omega
 · rw [List.getElem?_eq_none (by unfold chunk; rw [List.length_take]; omega), List.getElem?_eq_none (by unfold chunk; rw [List.length_take]; omega)]
theorem CellsR.chunk {α : Type} {sz : Nat} {R : World → List Value → α → Prop} {w : World} {cs : List Value} {l : List α} (h : CellsR sz R w cs l) {i : Nat} {x : α} (hi : l[i]? = some x) : R w (Proofs.YtkgmonplcdnnbaaGreat.chunk cs sz i) x := h.2 i x hi
theorem CellsR.put {α : Type} {sz : Nat} {R : World → List Value → α → Prop} {w : World} {cs : List Value} {l : List α} (h : CellsR sz R w cs l) {i j : Nat} {x' : α} {u : Value} (hj : j < sz) (hi : i < l.length) (hR : R w ((Proofs.YtkgmonplcdnnbaaGreat.chunk cs sz i).set j u) x') : CellsR sz R w (cs.set (i * sz + j) u) (l.set i x') := by
 refine ⟨by rw [List.length_set, List.length_set]; exact h.1, fun k y hk => ?_⟩
 rw [List.getElem?_set] at hk
 by_cases e : i = k
 ·
  subst e
  rw [if_pos rfl, if_pos hi, Option.some.injEq] at hk
  subst hk
  show R w (Proofs.YtkgmonplcdnnbaaGreat.chunk _ sz i) x'
  rw [chunk_set u hj]
  exact hR
 ·
  rw [if_neg e] at hk
  show R w (Proofs.YtkgmonplcdnnbaaGreat.chunk _ sz k) y
  rw [chunk_other u hj (fun e' => e e'.symm)]
  exact h.2 k y hk
theorem own_cell {w : World} {base : Nat} {e : TypeId} {sz g n cap : Nat} {cs : List Value} (h : w.ownsRow base e sz (.slice (some ⟨g, 0, none⟩) n cap) n cs) {i j : Nat} {c : List Value} {u : Value} (hi : i < n) (hj : j < sz) (hc : chunk cs sz i = c) (hu : c[j]? = some u) : w.cell? ⟨g, i * sz + j, none⟩ = some u := by
 have hlt : i * sz + j < n * sz := by
  have : i * sz + sz ≤ n * sz := by rw [← Nat.succ_mul]; exact Nat.mul_le_mul_right _ hi
  omega
 rw [h.cellAt _ hlt, ← chunk_at hj, hc, hu]
theorem set_drop {α : Type} {out l : List α} {x : α} {k : Nat} (hk : out.length = k) {y : α} (hx : l[k]? = some y) : (out ++ l.drop k).set k x = (out ++ [x]) ++ l.drop (k + 1) := by
 subst hk
 rw [drop_cons hx, List.set_append_right _ _ (Nat.le_refl _), Nat.sub_self, List.set_cons_zero, List.append_assoc]
 rfl
def cstep (s : List (ByteArray × Int) × Bool) (i : Nat) (x : ByteArray) : List (ByteArray × Int) × Bool :=
 if (getM s.1 x).isSome then (s.1, true) else (putM s.1 x (i : Int), s.2)
def colN (l : List ByteArray) : Nat → List (ByteArray × Int) × Bool
 | 0 => ([], false)
 |
  k + 1 => match l[k]? with
  | some x => cstep (colN l k) k x
  | none => colN l k
def col (l : List ByteArray) : List (ByteArray × Int) × Bool := colN l l.length
theorem colN_succ {l : List ByteArray} {k : Nat} {x : ByteArray} (h : l[k]? = some x) : colN l (k + 1) = cstep (colN l k) k x := by
 rw [colN, h]
theorem cstep_yes {s : List (ByteArray × Int) × Bool} {i : Nat} {x : ByteArray} {n : Int} (h : getM s.1 x = some n) : cstep s i x = (s.1, true) := by
 simp [cstep, h]
theorem cstep_no {s : List (ByteArray × Int) × Bool} {i : Nat} {x : ByteArray} (h : getM s.1 x = none) : cstep s i x = (putM s.1 x (i : Int), s.2) := by
 simp [cstep, h]
def idx (l : List ByteArray) (x : ByteArray) : Option Nat := l.findIdx? (fun y => decide (y = x))
theorem idx_snoc (l : List ByteArray) (y x : ByteArray) : idx (l ++ [y]) x = (idx l x).or (if y = x then some l.length else none) := by
 unfold idx
 rw [List.findIdx?_append]
 congr 1
 by_cases h : y = x
 · simp [h]
 · simp [h]
theorem colN_get (l : List ByteArray) : ∀ k, k ≤ l.length → ∀ x, getM (colN l k).1 x = (idx (l.take k) x).map (fun n : Nat => (n : Int))
 | 0, _, x => rfl
 |
  k + 1, hk, x => by
  have hl : l[k]? = some l[k] := List.getElem?_eq_getElem hk
  have ih := colN_get l k (by omega)
  rw [colN_succ hl, take_snoc hl, idx_snoc]
  cases hg : getM (colN l k).1 l[k] with
  |
   some n =>
   rw [cstep_yes hg, ih x]
   by_cases h : l[k] = x
   ·
    have := ih l[k]
    rw [hg, h] at this
    cases hi : idx (l.take k) x with
    | none => rw [hi] at this; cases this
    | some m => rfl
   ·
    rw [if_neg h]
    cases idx (l.take k) x <;> rfl
  |
   none =>
   rw [cstep_no hg, getM_put]
   have h0 := ih l[k]
   rw [hg] at h0
   by_cases h : x = l[k]
   ·
    rw [if_pos h, if_pos h.symm, h]
    cases hi : idx (l.take k) l[k] with
    | none => simp; omega
    | some m => rw [hi] at h0; cases h0
   ·
    rw [if_neg h, if_neg (fun e => h e.symm), ih x]
    cases idx (l.take k) x <;> rfl
theorem col_get (l : List ByteArray) (x : ByteArray) : getM (col l).1 x = (idx l x).map (fun n : Nat => (n : Int)) := by
 have := colN_get l l.length (Nat.le_refl _) x
 rwa [List.take_length] at this
def twiceB (l : List ByteArray) : Bool := (col l).2
def RetCol (l : List ByteArray) (w : World) (e : Ending) (w' : World) : Prop :=
 ∃ b, e = .returned (.tuple #[.map (some b), .bool (twiceB l)]) ∧ MapAt (fun x : ByteArray => Value.string x) (fun x : Int => Value.int .i64 x) w' b (col l).1 ∧ w.heap.size ≤ b ∧ Below w.heap.size w w'
abbrev strW (x : ByteArray) : Value := Value.string x
abbrev i64W (x : Int) : Value := Value.int .i64 x
abbrev SMap : Type := List (ByteArray × Int)
def KeepsMaps (w w' : World) : Prop := ∀ (b : Nat) (es : Array MapEntry) (clock : Nat), w.heap[b]? = some (Obj.map es clock) → w'.heap[b]? = some (Obj.map es clock)
theorem KeepsMaps.refl (w : World) : KeepsMaps w w := fun _ _ _ h => h
theorem KeepsMaps.trans {a b c : World} (h : KeepsMaps a b) (h' : KeepsMaps b c) : KeepsMaps a c := fun k es cl e => h' k es cl (h k es cl e)
theorem KeepsMaps.below {w w' : World} (h : Below w.heap.size w w') : KeepsMaps w w' := fun b _ _ e => (h.block b (Array.getElem?_eq_some_iff.1 e).1).trans e
theorem KeepsMaps.put (w : World) (p : Addr) (v : Value) : KeepsMaps w (w.setCell p v) := by
 intro b es cl e
 by_cases h : b = p.block
 ·
  subst h
  simp [World.setCell, Array.getElem?_modify, e]
 · exact (Below.heap_setCell w p v b h).trans e
theorem KeepsMaps.grown {w w' : World} {row : Option Nat} (h : w.grownBy w' row) (hr : ∀ g, row = some g → ∃ cs t f, w.heap[g]? = some (Obj.cells cs t f)) : KeepsMaps w w' := by
 intro b es cl e
 refine (h.block b (Array.getElem?_eq_some_iff.1 e).1 ?_).trans e
 intro e'
 obtain ⟨cs, t, f, hc⟩ := hr b e'.symm
 rw [e] at hc
 cases hc
theorem KeepsMaps.own {w w' : World} {base : Nat} {t : TypeId} {sz : Nat} {v : Value} {n : Nat} {xs : List Value} (ho : w.ownsRow base t sz v n xs) (h : w.grownBy w' v.ownBlock) : KeepsMaps w w' := by
 refine KeepsMaps.grown h (fun g e => ?_)
 rcases ho.2 with ⟨rfl, _⟩ | ⟨g', cap, cur, rfl, _, hh, _⟩
 · cases e
 ·
  simp only [Value.ownBlock, Option.some.injEq] at e
  subst e
  exact ⟨_, _, _, hh⟩
theorem MapAt.keeps {κ ν : Type} {ek : κ → Value} {ev : ν → Value} {w w' : World} {b : Nat} {m : List (κ × ν)} (h : MapAt ek ev w b m) (hk : KeepsMaps w w') : MapAt ek ev w' b m := by
 obtain ⟨es, clock, h1, h2⟩ := h
 exact ⟨es, clock, hk b es clock h1, h2⟩
theorem MapAt.below {κ ν : Type} {ek : κ → Value} {ev : ν → Value} {w w' : World} {b : Nat} {m : List (κ × ν)} (h : MapAt ek ev w b m) (hb : Below w.heap.size w w') : MapAt ek ev w' b m := h.keeps (.below hb)
def mapR (w : World) (cs : List Value) (m : SMap) : Prop := ∃ b, cs = [.map (some b)] ∧ MapAt strW i64W w b m
theorem mapR_keeps {w w' : World} (hk : KeepsMaps w w') {cs : List Value} {m : SMap} (h : mapR w cs m) : mapR w' cs m := by
 obtain ⟨b, e, hm⟩ := h
 exact ⟨b, e, hm.keeps hk⟩
theorem mapR_mono : Mono mapR := fun _ _ hb _ _ h => mapR_keeps (.below hb) h
theorem CellsR.keeps {w w' : World} (hk : KeepsMaps w w') {cs : List Value} {l : List SMap} (h : CellsR 1 mapR w cs l) : CellsR 1 mapR w' cs l := ⟨h.1, fun i x hi => mapR_keeps hk (h.2 i x hi)⟩
theorem map_at {w : World} {A : Option Addr} {n cap : Nat} {l : List SMap} (h : SlR 1 mapR w (.slice A n cap) l) {k : Nat} (hk : k < n) :
 ∃ b off x g, A = some ⟨b, off, none⟩ ∧ b < w.heap.size ∧ l[k]? = some x ∧ w.cell? ⟨b, off + k, none⟩ = some (.map (some g)) ∧ MapAt strW i64W w g x := by
 obtain ⟨b, off, x, cs, e, hb, hl, hlen, hc, g, rfl, hm⟩ := h.at_ hk
 exact ⟨b, off, x, g, e, hb, hl, by simpa using hc 0 _ rfl, hm⟩
def unitNames (s : QSource) : List ByteArray := s.units.map (·.name)
def schemaNames (s : QSource) : List ByteArray := s.schemas.map (·.name)
def purposeNames (s : QSource) : List ByteArray := s.purposes.map (·.name)
def fieldNames (x : QSchema) : List ByteArray := x.fields.map (·.name)
def fromNames (x : QRule) : List ByteArray := x.froms.map (·.name)
def fieldMap (x : QSchema) : SMap := (col (fieldNames x)).1
def sourceTwice (s : QSource) : Bool := twiceB s.issuers || twiceB (unitNames s) || twiceB (schemaNames s) || twiceB (purposeNames s) || s.schemas.any (fun x => twiceB (fieldNames x)) || s.rules.any (fun x => twiceB (fromNames x))
def ResR (w : World) (R : Nat) (s : QSource) : Prop :=
 ∃ b1 b2 b3 A n c, Blk w R 182 #[.map (some b1), .map (some b2), .map (some b3), .slice A n c] ∧ MapAt strW i64W w b1 (col s.issuers).1 ∧ MapAt strW i64W w b2 (col (unitNames s)).1 ∧ MapAt strW i64W w b3 (col (schemaNames s)).1 ∧ SlR 1 mapR w (.slice A n c) (s.schemas.map fieldMap)
theorem ResR.below {w w' : World} {R : Nat} {s : QSource} (h : ResR w R s) (hb : Below w.heap.size w w') : ResR w' R s := by
 obtain ⟨b1, b2, b3, A, n, c, h0, h1, h2, h3, h4⟩ := h
 exact ⟨b1, b2, b3, A, n, c, h0.below hb h0.lt, h1.below hb, h2.below hb, h3.below hb, h4.mono mapR_mono hb⟩
def RetGather (s : QSource) (w : World) (e : Ending) (w' : World) : Prop :=
 ∃ R, e = .returned (.tuple #[.pointer (some ⟨R, 0, none⟩), .bool (sourceTwice s)]) ∧ ResR w' R s ∧ w.heap.size ≤ R ∧ Below w.heap.size w w'
def mask (lo M : Nat) (w : World) : World := { w with heap := w.heap.mapIdx (fun b o => if lo ≤ b ∧ b < M then .cells #[] 0 else o) }
section
variable {lo M : Nat} {w w' : World}
theorem mask_size : (mask lo M w).heap.size = w.heap.size := by simp [mask]
theorem mask_heap {b : Nat} (h : b < lo ∨ M ≤ b) : (mask lo M w).heap[b]? = w.heap[b]? := by
 simp only [mask, Array.getElem?_mapIdx]
 cases w.heap[b]? with
 | none => rfl
 | some o => rw [Option.map_some, if_neg (by omega)]
theorem mask_hid {b : Nat} (h : lo ≤ b ∧ b < M) (hb : b < w.heap.size) : (mask lo M w).heap[b]? = some (.cells #[] 0) := by
 simp only [mask, Array.getElem?_mapIdx]
 rw [Array.getElem?_eq_getElem hb, Option.map_some, if_pos h]
theorem mask_cell {b o : Nat} {v : Value} (h : (mask lo M w).cell? ⟨b, o, none⟩ = some v) : w.cell? ⟨b, o, none⟩ = some v := by
 by_cases hb : b < lo ∨ M ≤ b
 ·
  rw [← h]
  exact (World.cell?_of_block (mask_heap hb)).symm
 ·
  exfalso
  by_cases hs : b < w.heap.size
  · simp [World.cell?, mask_hid (w := w) (lo := lo) (M := M) (b := b) (by omega) hs] at h
  ·
   have : (mask lo M w).heap[b]? = none := by
    rw [Array.getElem?_eq_none]
    rw [mask_size]
    omega
   simp [World.cell?, this] at h
theorem mask_below {G : Nat} (hg : w.grownBy w' (some G)) (h1 : lo ≤ G) (h2 : G < M) : Below (mask lo M w).heap.size (mask lo M w) (mask lo M w') := by
 refine ⟨hg.os, hg.tape, hg.output, by rw [mask_size, mask_size]; exact hg.size, fun k hk => ?_⟩
 rw [mask_size] at hk
 by_cases hb : k < lo ∨ M ≤ k
 ·
  rw [mask_heap hb, mask_heap hb]
  exact hg.block k hk (fun e => by injection e; omega)
 · rw [mask_hid (by omega) hk, mask_hid (by omega) (Nat.lt_of_lt_of_le hk hg.size)]
theorem mask_below0 (hg : Below w.heap.size w w') : Below (mask lo M w).heap.size (mask lo M w) (mask lo M w') := by
 refine ⟨hg.os, hg.tape, hg.output, by rw [mask_size, mask_size]; exact hg.size, fun k hk => ?_⟩
 rw [mask_size] at hk
 by_cases hb : k < lo ∨ M ≤ k
 ·
  rw [mask_heap hb, mask_heap hb]
  exact hg.block k hk
 · rw [mask_hid (by omega) hk, mask_hid (by omega) (Nat.lt_of_lt_of_le hk hg.size)]
theorem mask_own {base : Nat} {e : TypeId} {sz : Nat} {v : Value} {n : Nat} {cs : List Value} (h : w.ownsRow base e sz v n cs) (hb : M ≤ base) : (mask lo M w).ownsRow base e sz v n cs := by
 refine ⟨h.1, ?_⟩
 rcases h.2 with h | ⟨g, cap, cur, h1, h2, h3, h4⟩
 · exact .inl h
 · exact .inr ⟨g, cap, cur, h1, h2, (mask_heap (.inr (by omega))).trans h3, h4⟩
theorem mask_map {κ ν : Type} {ek : κ → Value} {ev : ν → Value} {b : Nat} {m : List (κ × ν)} (h : MapAt ek ev (mask lo M w) b m) : MapAt ek ev w b m := by
 obtain ⟨es, clock, h1, h2⟩ := h
 refine ⟨es, clock, ?_, h2⟩
 by_cases hb : b < lo ∨ M ≤ b
 · rw [← h1]; exact (mask_heap hb).symm
 ·
  exfalso
  have hs : b < w.heap.size := by have := (Array.getElem?_eq_some_iff.1 h1).1; rwa [mask_size] at this
  rw [mask_hid (by omega) hs] at h1
  cases h1
theorem mask_blk {g : Nat} {t : TypeId} {cs : Array Value} (h : Blk (mask lo M w) g t cs) (hc : cs ≠ #[]) : Blk w g t cs := by
 by_cases hb : g < lo ∨ M ≤ g
 · exact (mask_heap hb).symm.trans h
 ·
  exfalso
  have hs : g < w.heap.size := by have := h.lt; rwa [mask_size] at this
  have h1 : (mask lo M w).heap[g]? = some (.cells cs t (0, 0)) := h
  rw [mask_hid (by omega) hs] at h1
  injection h1 with h1
  injection h1 with h1
  exact hc h1.symm
def Unm {α : Type} (R : World → List Value → α → Prop) : Prop := ∀ (lo M : Nat) (w : World) (cs : List Value) (x : α), R (mask lo M w) cs x → R w cs x
theorem SlR.unm {α : Type} {sz : Nat} {R : World → List Value → α → Prop} (hR : Unm R) {v : Value} {l : List α} (h : SlR sz R (mask lo M w) v l) : SlR sz R w v l := by
 obtain ⟨A, cap, e, h1, h2, h3⟩ := h
 refine ⟨A, cap, e, h1, h2, fun i x hi => ?_⟩
 obtain ⟨b, off, cs, rfl, hlt, hl, hc, hr⟩ := h3 i x hi
 exact ⟨b, off, cs, rfl, by rwa [mask_size] at hlt, hl, fun j u hu => mask_cell (hc j u hu), hR _ _ _ _ _ hr⟩
theorem SlB.unm {α : Type} {sz bytes : Nat} {R : World → List Value → α → Prop} (hR : Unm R) {v : Value} {l : List α} (h : SlB sz bytes R (mask lo M w) v l) : SlB sz bytes R w v l := ⟨h.1.unm hR, h.2⟩
theorem mask_old (w0 : World) (h : Below w0.heap.size w0 w) (hlo : w0.heap.size ≤ lo) : Below w0.heap.size w0 (mask lo M w) :=
 ⟨h.os, h.tape, h.output, by rw [mask_size]; exact h.size, fun k hk => (mask_heap (.inl (by omega))).trans (h.block k hk)⟩
theorem mask_grown {H : Option Nat} (hg : w.grownBy w' H) : (mask lo M w).grownBy (mask lo M w') H := by
 refine ⟨hg.os, hg.tape, hg.output, by rw [mask_size, mask_size]; exact hg.size, fun k hk hne => ?_⟩
 rw [mask_size] at hk
 by_cases hb : k < lo ∨ M ≤ k
 ·
  rw [mask_heap hb, mask_heap hb]
  exact hg.block k hk hne
 · rw [mask_hid (by omega) hk, mask_hid (by omega) (Nat.lt_of_lt_of_le hk hg.size)]
theorem SlR.unm_fix {α : Type} {sz : Nat} {R : World → List Value → α → Prop} {v : Value} {l : List α} (h : SlR sz R (mask lo M w) v l) : SlR sz (fun _ => R (mask lo M w)) w v l := by
 obtain ⟨A, cap, e, h1, h2, h3⟩ := h
 refine ⟨A, cap, e, h1, h2, fun i x hi => ?_⟩
 obtain ⟨b, off, cs, rfl, hlt, hl, hc, hr⟩ := h3 i x hi
 exact ⟨b, off, cs, rfl, by rwa [mask_size] at hlt, hl, fun j u hu => mask_cell (hc j u hu), hr⟩
theorem CellsR.unm {α : Type} {sz : Nat} {R : World → List Value → α → Prop} (hR : Unm R) {cs : List Value} {l : List α} (h : CellsR sz R (mask lo M w) cs l) : CellsR sz R w cs l := ⟨h.1, fun i x hi => hR _ _ _ _ _ (h.2 i x hi)⟩
theorem mapR_unm : Unm mapR := by
 rintro lo M w cs x ⟨b, e, h⟩
 exact ⟨b, e, mask_map h⟩
theorem ResR.unm {R : Nat} {s : QSource} (h : ResR (mask lo M w) R s) : ResR w R s := by
 obtain ⟨b1, b2, b3, A, n, c, h0, h1, h2, h3, h4⟩ := h
 exact ⟨b1, b2, b3, A, n, c, mask_blk h0 (by simp), mask_map h1, mask_map h2, mask_map h3, h4.unm mapR_unm⟩
end
theorem strR_unm : Unm strR := fun _ _ _ _ _ h => h
theorem iR_unm : Unm iR := fun _ _ _ _ _ h => h
theorem qUnitR_unm : Unm qUnitR := fun _ _ _ _ _ h => h
theorem qAtomR_unm : Unm qAtomR := fun _ _ _ _ _ h => h
theorem qFromR_unm : Unm qFromR := fun _ _ _ _ _ h => h
theorem qSetR_unm : Unm qSetR := fun _ _ _ _ _ h => h
theorem qMoveR_unm : Unm qMoveR := fun _ _ _ _ _ h => h
theorem qRefR_unm : Unm qRefR := fun _ _ _ _ _ h => h
theorem qFieldR_unm : Unm qFieldR := by
 rintro lo M w cs x ⟨A1, n1, c1, h0, h1⟩
 exact ⟨A1, n1, c1, h0, h1.unm strR_unm⟩
theorem qDepR_unm : Unm qDepR := by
 rintro lo M w cs x ⟨A1, n1, c1, A2, n2, c2, h0, h1, h2⟩
 exact ⟨A1, n1, c1, A2, n2, c2, h0, h1.unm strR_unm, h2.unm iR_unm⟩
theorem qSchemaR_unm : Unm qSchemaR := by
 rintro lo M w cs x ⟨A1, n1, c1, A2, n2, c2, h0, h1, h2⟩
 exact ⟨A1, n1, c1, A2, n2, c2, h0, h1.unm qFieldR_unm, h2.unm qDepR_unm⟩
theorem qRuleR_unm : Unm qRuleR := by
 rintro lo M w cs x ⟨A1, n1, c1, A2, n2, c2, A3, n3, c3, h0, h1, h2, h3⟩
 exact ⟨A1, n1, c1, A2, n2, c2, A3, n3, c3, h0, h1.unm qFromR_unm, h2.unm qAtomR_unm, h3.unm qSetR_unm⟩
theorem qConvertR_unm : Unm qConvertR := by
 rintro lo M w cs x ⟨A1, n1, c1, h0, h1⟩
 exact ⟨A1, n1, c1, h0, h1.unm qMoveR_unm⟩
theorem qPurposeR_unm : Unm qPurposeR := by
 rintro lo M w cs x ⟨A1, n1, c1, h0, h1⟩
 exact ⟨A1, n1, c1, h0, h1.unm qRefR_unm⟩
end Go.Proofs.YtkgmonplcdnnbaaGreat
