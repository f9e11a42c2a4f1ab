/- Contracts of types.all and of slices.IndexFunc and slices.ContainsFunc, each instance that package types uses. Written by genall.py. -/
import Derived.Test.YtkgmonplcdnnbaaGreatPm14
import Derived.Test.YtkgmonplcdnnbaaGreatPm03
import Derived.Test.YtkgmonplcdnnbaaGreatProg
import Derived.Test.YtkgmonplcdnnbaaGreatPm01
import Derived.Deep.QuietTactic
import Derived.BigQuiet
namespace Go.Proofs.YtkgmonplcdnnbaaGreat
open Go.RowKit
set_option maxHeartbeats 4000000 in
set_option maxRecDepth 100000 in
theorem typeOK1_any (A1 A2 A3 A4 A5 A6 : Option Addr) (n1 c1 n2 c2 n3 c3 n4 c4 n5 c5 n6 c6 : Nat) (lo hi un : Int) (of_ : ByteArray) (B : Option Addr) (m d : Nat) (ns : List ByteArray) (w : World) (_hn2 : n2 ≤ 9223372036854775807) (hs : SlR 1 strR w (.slice B m d) ns) :
 Calls Tryz.prog 138 #[(.agg #[.slice A1 n1 c1, .slice A2 n2 c2, .slice A3 n3 c3, .slice A4 n4 c4, .slice A5 n5 c5, .slice A6 n6 c6]), .agg #[.int .i64 1, .int .i64 lo, .int .i64 hi, .string of_, .int .i64 un, .slice B m d]] w fun e w' =>
  e = .returned (.bool (typeOK n2 ⟨1, lo, hi, of_, un, ns⟩)) ∧ Below w.heap.size w w' := by
 have HMN := Lib.hid hs.len
 clear hs
 have hix : ∀ w : World, (Instr.index 276 kindsV (.int .i64 1)).run Tryz.prog w = .ok (.func (.func 216) #[] #[]) w := fun _ => by kernel_rfl
 go_enter Tryz.func138, Tryz.ntmps138
 go_wp2_with fail
 obtain ⟨wb, hwb⟩ : ∃ wq, wq = (w.alloc (.cells #[.slice A1 n1 c1, .slice A2 n2 c2, .slice A3 n3 c3, .slice A4 n4 c4, .slice A5 n5 c5, .slice A6 n6 c6] 110)).alloc (.cells #[.int .i64 1, .int .i64 lo, .int .i64 hi, .string of_, .int .i64 un, .slice B m d] 55) := ⟨_, rfl⟩
 rw [← hwb]
 have hbb : Below w.heap.size w wb := by rw [hwb]; exact (((Below.refl _ _).alloc (Nat.le_refl _) _).alloc (by simp) _)
 have kA : Blk wb w.heap.size 110 #[.slice A1 n1 c1, .slice A2 n2 c2, .slice A3 n3 c3, .slice A4 n4 c4, .slice A5 n5 c5, .slice A6 n6 c6] := by rw [hwb]; exact (Blk.new _ _ _).alloc _
 have kB : Blk wb (w.heap.size + 1) 55 #[.int .i64 1, .int .i64 lo, .int .i64 hi, .string of_, .int .i64 un, .slice B m d] := by rw [hwb]; exact blkNew (by simp)
 obtain ⟨ga, hga⟩ : ∃ g, g = w.heap.size := ⟨_, rfl⟩
 obtain ⟨gb, hgb⟩ : ∃ g, g = w.heap.size + 1 := ⟨_, rfl⟩
 rw [← hgb] at kB ⊢
 rw [← hga] at kA ⊢
 have HA := Lib.hid kA
 have HB := Lib.hid kB
 have HBB := Lib.hid hbb
 have a1 := kA.cell 1
 have b0 := kB.cell 0
 have b1 := kB.cell 1
 have b2 := kB.cell 2
 have b3 := kB.cell 3
 have b4 := kB.cell 4
 have b5 := kB.cell 5
 have la := kA.lt
 have lb := kB.lt
 simp only [List.getElem?_toArray, List.getElem?_cons_zero, List.getElem?_cons_succ] at a1 b0 b1 b2 b3 b4 b5
 clear kA kB hbb hwb hga hgb
 go_region_held3 (fun w' => w'.cell? ⟨ga, 1, none⟩ = some (.slice A2 n2 c2) ∧ w'.cell? ⟨gb, 0, none⟩ = some (.int .i64 1) ∧ w'.cell? ⟨gb, 1, none⟩ = some (.int .i64 lo) ∧ w'.cell? ⟨gb, 2, none⟩ = some (.int .i64 hi) ∧ w'.cell? ⟨gb, 3, none⟩ = some (.string of_) ∧ w'.cell? ⟨gb, 4, none⟩ = some (.int .i64 un) ∧ w'.cell? ⟨gb, 5, none⟩ = some (.slice B m d) ∧ Below wb.heap.size wb w')
  (first
   | exact ⟨a1, b0, b1, b2, b3, b4, b5, (Below.refl _ _).drew⟩
   | exact ⟨(hb.cell (p := ⟨ga, 1, none⟩) la).trans a1, (hb.cell (p := ⟨gb, 0, none⟩) lb).trans b0, (hb.cell (p := ⟨gb, 1, none⟩) lb).trans b1, (hb.cell (p := ⟨gb, 2, none⟩) lb).trans b2, (hb.cell (p := ⟨gb, 3, none⟩) lb).trans b3, (hb.cell (p := ⟨gb, 4, none⟩) lb).trans b4, (hb.cell (p := ⟨gb, 5, none⟩) lb).trans b5, (Below.refl wb.heap.size wb).drew.trans hb⟩
   | exact ⟨((hc.cell (p := ⟨ga, 1, none⟩) (Nat.lt_of_lt_of_le la hb.size)).trans (hb.cell (p := ⟨ga, 1, none⟩) la)).trans a1, ((hc.cell (p := ⟨gb, 0, none⟩) (Nat.lt_of_lt_of_le lb hb.size)).trans (hb.cell (p := ⟨gb, 0, none⟩) lb)).trans b0, ((hc.cell (p := ⟨gb, 1, none⟩) (Nat.lt_of_lt_of_le lb hb.size)).trans (hb.cell (p := ⟨gb, 1, none⟩) lb)).trans b1, ((hc.cell (p := ⟨gb, 2, none⟩) (Nat.lt_of_lt_of_le lb hb.size)).trans (hb.cell (p := ⟨gb, 2, none⟩) lb)).trans b2, ((hc.cell (p := ⟨gb, 3, none⟩) (Nat.lt_of_lt_of_le lb hb.size)).trans (hb.cell (p := ⟨gb, 3, none⟩) lb)).trans b3, ((hc.cell (p := ⟨gb, 4, none⟩) (Nat.lt_of_lt_of_le lb hb.size)).trans (hb.cell (p := ⟨gb, 4, none⟩) lb)).trans b4, ((hc.cell (p := ⟨gb, 5, none⟩) (Nat.lt_of_lt_of_le lb hb.size)).trans (hb.cell (p := ⟨gb, 5, none⟩) lb)).trans b5, ((Below.refl wb.heap.size wb).drew.trans hb).trans (hc.mono hb.size)⟩)
  (first
   | (go_at_call 204; refine (kinds_any _).mono ?_; rintro e w' ⟨rfl, hb⟩)
   | (go_at_call 216; refine (kind1_any 1 lo hi un of_ B m d n2 _).mono ?_; rintro e w' ⟨rfl, hc⟩))
 go_wp2_with fail
 go_ret
 refine ⟨ret_bool ?_, HBB.out.trans (Below.mono (((Below.refl wb.heap.size wb).drew.trans hb).trans (hc.mono hb.size)) HBB.out.size)⟩
 rw [HMN.out]
 simp [typeOK]
set_option maxHeartbeats 4000000 in
set_option maxRecDepth 100000 in
theorem typeOK2_any (A1 A2 A3 A4 A5 A6 : Option Addr) (n1 c1 n2 c2 n3 c3 n4 c4 n5 c5 n6 c6 : Nat) (lo hi un : Int) (of_ : ByteArray) (B : Option Addr) (m d : Nat) (ns : List ByteArray) (w : World) (_hn2 : n2 ≤ 9223372036854775807) (hs : SlR 1 strR w (.slice B m d) ns) :
 Calls Tryz.prog 138 #[(.agg #[.slice A1 n1 c1, .slice A2 n2 c2, .slice A3 n3 c3, .slice A4 n4 c4, .slice A5 n5 c5, .slice A6 n6 c6]), .agg #[.int .i64 2, .int .i64 lo, .int .i64 hi, .string of_, .int .i64 un, .slice B m d]] w fun e w' =>
  e = .returned (.bool (typeOK n2 ⟨2, lo, hi, of_, un, ns⟩)) ∧ Below w.heap.size w w' := by
 have HMN := Lib.hid hs.len
 clear hs
 have hix : ∀ w : World, (Instr.index 276 kindsV (.int .i64 2)).run Tryz.prog w = .ok (.func (.func 217) #[] #[]) w := fun _ => by kernel_rfl
 go_enter Tryz.func138, Tryz.ntmps138
 go_wp2_with fail
 obtain ⟨wb, hwb⟩ : ∃ wq, wq = (w.alloc (.cells #[.slice A1 n1 c1, .slice A2 n2 c2, .slice A3 n3 c3, .slice A4 n4 c4, .slice A5 n5 c5, .slice A6 n6 c6] 110)).alloc (.cells #[.int .i64 2, .int .i64 lo, .int .i64 hi, .string of_, .int .i64 un, .slice B m d] 55) := ⟨_, rfl⟩
 rw [← hwb]
 have hbb : Below w.heap.size w wb := by rw [hwb]; exact (((Below.refl _ _).alloc (Nat.le_refl _) _).alloc (by simp) _)
 have kA : Blk wb w.heap.size 110 #[.slice A1 n1 c1, .slice A2 n2 c2, .slice A3 n3 c3, .slice A4 n4 c4, .slice A5 n5 c5, .slice A6 n6 c6] := by rw [hwb]; exact (Blk.new _ _ _).alloc _
 have kB : Blk wb (w.heap.size + 1) 55 #[.int .i64 2, .int .i64 lo, .int .i64 hi, .string of_, .int .i64 un, .slice B m d] := by rw [hwb]; exact blkNew (by simp)
 obtain ⟨ga, hga⟩ : ∃ g, g = w.heap.size := ⟨_, rfl⟩
 obtain ⟨gb, hgb⟩ : ∃ g, g = w.heap.size + 1 := ⟨_, rfl⟩
 rw [← hgb] at kB ⊢
 rw [← hga] at kA ⊢
 have HA := Lib.hid kA
 have HB := Lib.hid kB
 have HBB := Lib.hid hbb
 have a1 := kA.cell 1
 have b0 := kB.cell 0
 have b1 := kB.cell 1
 have b2 := kB.cell 2
 have b3 := kB.cell 3
 have b4 := kB.cell 4
 have b5 := kB.cell 5
 have la := kA.lt
 have lb := kB.lt
 simp only [List.getElem?_toArray, List.getElem?_cons_zero, List.getElem?_cons_succ] at a1 b0 b1 b2 b3 b4 b5
 clear kA kB hbb hwb hga hgb
 go_region_held3 (fun w' => w'.cell? ⟨ga, 1, none⟩ = some (.slice A2 n2 c2) ∧ w'.cell? ⟨gb, 0, none⟩ = some (.int .i64 2) ∧ w'.cell? ⟨gb, 1, none⟩ = some (.int .i64 lo) ∧ w'.cell? ⟨gb, 2, none⟩ = some (.int .i64 hi) ∧ w'.cell? ⟨gb, 3, none⟩ = some (.string of_) ∧ w'.cell? ⟨gb, 4, none⟩ = some (.int .i64 un) ∧ w'.cell? ⟨gb, 5, none⟩ = some (.slice B m d) ∧ Below wb.heap.size wb w')
  (first
   | exact ⟨a1, b0, b1, b2, b3, b4, b5, (Below.refl _ _).drew⟩
   | exact ⟨(hb.cell (p := ⟨ga, 1, none⟩) la).trans a1, (hb.cell (p := ⟨gb, 0, none⟩) lb).trans b0, (hb.cell (p := ⟨gb, 1, none⟩) lb).trans b1, (hb.cell (p := ⟨gb, 2, none⟩) lb).trans b2, (hb.cell (p := ⟨gb, 3, none⟩) lb).trans b3, (hb.cell (p := ⟨gb, 4, none⟩) lb).trans b4, (hb.cell (p := ⟨gb, 5, none⟩) lb).trans b5, (Below.refl wb.heap.size wb).drew.trans hb⟩
   | exact ⟨((hc.cell (p := ⟨ga, 1, none⟩) (Nat.lt_of_lt_of_le la hb.size)).trans (hb.cell (p := ⟨ga, 1, none⟩) la)).trans a1, ((hc.cell (p := ⟨gb, 0, none⟩) (Nat.lt_of_lt_of_le lb hb.size)).trans (hb.cell (p := ⟨gb, 0, none⟩) lb)).trans b0, ((hc.cell (p := ⟨gb, 1, none⟩) (Nat.lt_of_lt_of_le lb hb.size)).trans (hb.cell (p := ⟨gb, 1, none⟩) lb)).trans b1, ((hc.cell (p := ⟨gb, 2, none⟩) (Nat.lt_of_lt_of_le lb hb.size)).trans (hb.cell (p := ⟨gb, 2, none⟩) lb)).trans b2, ((hc.cell (p := ⟨gb, 3, none⟩) (Nat.lt_of_lt_of_le lb hb.size)).trans (hb.cell (p := ⟨gb, 3, none⟩) lb)).trans b3, ((hc.cell (p := ⟨gb, 4, none⟩) (Nat.lt_of_lt_of_le lb hb.size)).trans (hb.cell (p := ⟨gb, 4, none⟩) lb)).trans b4, ((hc.cell (p := ⟨gb, 5, none⟩) (Nat.lt_of_lt_of_le lb hb.size)).trans (hb.cell (p := ⟨gb, 5, none⟩) lb)).trans b5, ((Below.refl wb.heap.size wb).drew.trans hb).trans (hc.mono hb.size)⟩)
  (first
   | (go_at_call 204; refine (kinds_any _).mono ?_; rintro e w' ⟨rfl, hb⟩)
   | (go_at_call 217; refine (kind2_any 2 lo hi un of_ B m d n2 _).mono ?_; rintro e w' ⟨rfl, hc⟩))
 go_wp2_with fail
 go_ret
 refine ⟨ret_bool ?_, HBB.out.trans (Below.mono (((Below.refl wb.heap.size wb).drew.trans hb).trans (hc.mono hb.size)) HBB.out.size)⟩
 rw [HMN.out]
 simp [typeOK]
set_option maxHeartbeats 4000000 in
set_option maxRecDepth 100000 in
theorem typeOK3_any (A1 A2 A3 A4 A5 A6 : Option Addr) (n1 c1 n2 c2 n3 c3 n4 c4 n5 c5 n6 c6 : Nat) (lo hi un : Int) (of_ : ByteArray) (B : Option Addr) (m d : Nat) (ns : List ByteArray) (w : World) (_hn2 : n2 ≤ 9223372036854775807) (hs : SlR 1 strR w (.slice B m d) ns) :
 Calls Tryz.prog 138 #[(.agg #[.slice A1 n1 c1, .slice A2 n2 c2, .slice A3 n3 c3, .slice A4 n4 c4, .slice A5 n5 c5, .slice A6 n6 c6]), .agg #[.int .i64 3, .int .i64 lo, .int .i64 hi, .string of_, .int .i64 un, .slice B m d]] w fun e w' =>
  e = .returned (.bool (typeOK n2 ⟨3, lo, hi, of_, un, ns⟩)) ∧ Below w.heap.size w w' := by
 have HMN := Lib.hid hs.len
 clear hs
 have hix : ∀ w : World, (Instr.index 276 kindsV (.int .i64 3)).run Tryz.prog w = .ok (.func (.func 218) #[] #[]) w := fun _ => by kernel_rfl
 go_enter Tryz.func138, Tryz.ntmps138
 go_wp2_with fail
 obtain ⟨wb, hwb⟩ : ∃ wq, wq = (w.alloc (.cells #[.slice A1 n1 c1, .slice A2 n2 c2, .slice A3 n3 c3, .slice A4 n4 c4, .slice A5 n5 c5, .slice A6 n6 c6] 110)).alloc (.cells #[.int .i64 3, .int .i64 lo, .int .i64 hi, .string of_, .int .i64 un, .slice B m d] 55) := ⟨_, rfl⟩
 rw [← hwb]
 have hbb : Below w.heap.size w wb := by rw [hwb]; exact (((Below.refl _ _).alloc (Nat.le_refl _) _).alloc (by simp) _)
 have kA : Blk wb w.heap.size 110 #[.slice A1 n1 c1, .slice A2 n2 c2, .slice A3 n3 c3, .slice A4 n4 c4, .slice A5 n5 c5, .slice A6 n6 c6] := by rw [hwb]; exact (Blk.new _ _ _).alloc _
 have kB : Blk wb (w.heap.size + 1) 55 #[.int .i64 3, .int .i64 lo, .int .i64 hi, .string of_, .int .i64 un, .slice B m d] := by rw [hwb]; exact blkNew (by simp)
 obtain ⟨ga, hga⟩ : ∃ g, g = w.heap.size := ⟨_, rfl⟩
 obtain ⟨gb, hgb⟩ : ∃ g, g = w.heap.size + 1 := ⟨_, rfl⟩
 rw [← hgb] at kB ⊢
 rw [← hga] at kA ⊢
 have HA := Lib.hid kA
 have HB := Lib.hid kB
 have HBB := Lib.hid hbb
 have a1 := kA.cell 1
 have b0 := kB.cell 0
 have b1 := kB.cell 1
 have b2 := kB.cell 2
 have b3 := kB.cell 3
 have b4 := kB.cell 4
 have b5 := kB.cell 5
 have la := kA.lt
 have lb := kB.lt
 simp only [List.getElem?_toArray, List.getElem?_cons_zero, List.getElem?_cons_succ] at a1 b0 b1 b2 b3 b4 b5
 clear kA kB hbb hwb hga hgb
 go_region_held3 (fun w' => w'.cell? ⟨ga, 1, none⟩ = some (.slice A2 n2 c2) ∧ w'.cell? ⟨gb, 0, none⟩ = some (.int .i64 3) ∧ w'.cell? ⟨gb, 1, none⟩ = some (.int .i64 lo) ∧ w'.cell? ⟨gb, 2, none⟩ = some (.int .i64 hi) ∧ w'.cell? ⟨gb, 3, none⟩ = some (.string of_) ∧ w'.cell? ⟨gb, 4, none⟩ = some (.int .i64 un) ∧ w'.cell? ⟨gb, 5, none⟩ = some (.slice B m d) ∧ Below wb.heap.size wb w')
  (first
   | exact ⟨a1, b0, b1, b2, b3, b4, b5, (Below.refl _ _).drew⟩
   | exact ⟨(hb.cell (p := ⟨ga, 1, none⟩) la).trans a1, (hb.cell (p := ⟨gb, 0, none⟩) lb).trans b0, (hb.cell (p := ⟨gb, 1, none⟩) lb).trans b1, (hb.cell (p := ⟨gb, 2, none⟩) lb).trans b2, (hb.cell (p := ⟨gb, 3, none⟩) lb).trans b3, (hb.cell (p := ⟨gb, 4, none⟩) lb).trans b4, (hb.cell (p := ⟨gb, 5, none⟩) lb).trans b5, (Below.refl wb.heap.size wb).drew.trans hb⟩
   | exact ⟨((hc.cell (p := ⟨ga, 1, none⟩) (Nat.lt_of_lt_of_le la hb.size)).trans (hb.cell (p := ⟨ga, 1, none⟩) la)).trans a1, ((hc.cell (p := ⟨gb, 0, none⟩) (Nat.lt_of_lt_of_le lb hb.size)).trans (hb.cell (p := ⟨gb, 0, none⟩) lb)).trans b0, ((hc.cell (p := ⟨gb, 1, none⟩) (Nat.lt_of_lt_of_le lb hb.size)).trans (hb.cell (p := ⟨gb, 1, none⟩) lb)).trans b1, ((hc.cell (p := ⟨gb, 2, none⟩) (Nat.lt_of_lt_of_le lb hb.size)).trans (hb.cell (p := ⟨gb, 2, none⟩) lb)).trans b2, ((hc.cell (p := ⟨gb, 3, none⟩) (Nat.lt_of_lt_of_le lb hb.size)).trans (hb.cell (p := ⟨gb, 3, none⟩) lb)).trans b3, ((hc.cell (p := ⟨gb, 4, none⟩) (Nat.lt_of_lt_of_le lb hb.size)).trans (hb.cell (p := ⟨gb, 4, none⟩) lb)).trans b4, ((hc.cell (p := ⟨gb, 5, none⟩) (Nat.lt_of_lt_of_le lb hb.size)).trans (hb.cell (p := ⟨gb, 5, none⟩) lb)).trans b5, ((Below.refl wb.heap.size wb).drew.trans hb).trans (hc.mono hb.size)⟩)
  (first
   | (go_at_call 204; refine (kinds_any _).mono ?_; rintro e w' ⟨rfl, hb⟩)
   | (go_at_call 218; refine (kind3_any 3 lo hi un of_ B m d n2 _).mono ?_; rintro e w' ⟨rfl, hc⟩))
 go_wp2_with fail
 go_ret
 refine ⟨ret_bool ?_, HBB.out.trans (Below.mono (((Below.refl wb.heap.size wb).drew.trans hb).trans (hc.mono hb.size)) HBB.out.size)⟩
 rw [HMN.out]
 simp [typeOK]
set_option maxHeartbeats 4000000 in
set_option maxRecDepth 100000 in
theorem typeOK4_any (A1 A2 A3 A4 A5 A6 : Option Addr) (n1 c1 n2 c2 n3 c3 n4 c4 n5 c5 n6 c6 : Nat) (lo hi un : Int) (of_ : ByteArray) (B : Option Addr) (m d : Nat) (ns : List ByteArray) (w : World) (_hn2 : n2 ≤ 9223372036854775807) (hs : SlR 1 strR w (.slice B m d) ns) :
 Calls Tryz.prog 138 #[(.agg #[.slice A1 n1 c1, .slice A2 n2 c2, .slice A3 n3 c3, .slice A4 n4 c4, .slice A5 n5 c5, .slice A6 n6 c6]), .agg #[.int .i64 4, .int .i64 lo, .int .i64 hi, .string of_, .int .i64 un, .slice B m d]] w fun e w' =>
  e = .returned (.bool (typeOK n2 ⟨4, lo, hi, of_, un, ns⟩)) ∧ Below w.heap.size w w' := by
 have HMN := Lib.hid hs.len
 have HS := Lib.hid hs
 clear hs
 have hix : ∀ w : World, (Instr.index 276 kindsV (.int .i64 4)).run Tryz.prog w = .ok (.func (.func 219) #[] #[]) w := fun _ => by kernel_rfl
 go_enter Tryz.func138, Tryz.ntmps138
 go_wp2_with fail
 obtain ⟨wb, hwb⟩ : ∃ wq, wq = (w.alloc (.cells #[.slice A1 n1 c1, .slice A2 n2 c2, .slice A3 n3 c3, .slice A4 n4 c4, .slice A5 n5 c5, .slice A6 n6 c6] 110)).alloc (.cells #[.int .i64 4, .int .i64 lo, .int .i64 hi, .string of_, .int .i64 un, .slice B m d] 55) := ⟨_, rfl⟩
 rw [← hwb]
 have hbb : Below w.heap.size w wb := by rw [hwb]; exact (((Below.refl _ _).alloc (Nat.le_refl _) _).alloc (by simp) _)
 have kA : Blk wb w.heap.size 110 #[.slice A1 n1 c1, .slice A2 n2 c2, .slice A3 n3 c3, .slice A4 n4 c4, .slice A5 n5 c5, .slice A6 n6 c6] := by rw [hwb]; exact (Blk.new _ _ _).alloc _
 have kB : Blk wb (w.heap.size + 1) 55 #[.int .i64 4, .int .i64 lo, .int .i64 hi, .string of_, .int .i64 un, .slice B m d] := by rw [hwb]; exact blkNew (by simp)
 obtain ⟨ga, hga⟩ : ∃ g, g = w.heap.size := ⟨_, rfl⟩
 obtain ⟨gb, hgb⟩ : ∃ g, g = w.heap.size + 1 := ⟨_, rfl⟩
 rw [← hgb] at kB ⊢
 rw [← hga] at kA ⊢
 have HA := Lib.hid kA
 have HB := Lib.hid kB
 have HBB := Lib.hid hbb
 have a1 := kA.cell 1
 have b0 := kB.cell 0
 have b1 := kB.cell 1
 have b2 := kB.cell 2
 have b3 := kB.cell 3
 have b4 := kB.cell 4
 have b5 := kB.cell 5
 have la := kA.lt
 have lb := kB.lt
 simp only [List.getElem?_toArray, List.getElem?_cons_zero, List.getElem?_cons_succ] at a1 b0 b1 b2 b3 b4 b5
 clear kA kB hbb hwb hga hgb
 go_region_held3 (fun w' => w'.cell? ⟨ga, 1, none⟩ = some (.slice A2 n2 c2) ∧ w'.cell? ⟨gb, 0, none⟩ = some (.int .i64 4) ∧ w'.cell? ⟨gb, 1, none⟩ = some (.int .i64 lo) ∧ w'.cell? ⟨gb, 2, none⟩ = some (.int .i64 hi) ∧ w'.cell? ⟨gb, 3, none⟩ = some (.string of_) ∧ w'.cell? ⟨gb, 4, none⟩ = some (.int .i64 un) ∧ w'.cell? ⟨gb, 5, none⟩ = some (.slice B m d) ∧ Below wb.heap.size wb w')
  (first
   | exact ⟨a1, b0, b1, b2, b3, b4, b5, (Below.refl _ _).drew⟩
   | exact ⟨(hb.cell (p := ⟨ga, 1, none⟩) la).trans a1, (hb.cell (p := ⟨gb, 0, none⟩) lb).trans b0, (hb.cell (p := ⟨gb, 1, none⟩) lb).trans b1, (hb.cell (p := ⟨gb, 2, none⟩) lb).trans b2, (hb.cell (p := ⟨gb, 3, none⟩) lb).trans b3, (hb.cell (p := ⟨gb, 4, none⟩) lb).trans b4, (hb.cell (p := ⟨gb, 5, none⟩) lb).trans b5, (Below.refl wb.heap.size wb).drew.trans hb⟩
   | exact ⟨((hc.cell (p := ⟨ga, 1, none⟩) (Nat.lt_of_lt_of_le la hb.size)).trans (hb.cell (p := ⟨ga, 1, none⟩) la)).trans a1, ((hc.cell (p := ⟨gb, 0, none⟩) (Nat.lt_of_lt_of_le lb hb.size)).trans (hb.cell (p := ⟨gb, 0, none⟩) lb)).trans b0, ((hc.cell (p := ⟨gb, 1, none⟩) (Nat.lt_of_lt_of_le lb hb.size)).trans (hb.cell (p := ⟨gb, 1, none⟩) lb)).trans b1, ((hc.cell (p := ⟨gb, 2, none⟩) (Nat.lt_of_lt_of_le lb hb.size)).trans (hb.cell (p := ⟨gb, 2, none⟩) lb)).trans b2, ((hc.cell (p := ⟨gb, 3, none⟩) (Nat.lt_of_lt_of_le lb hb.size)).trans (hb.cell (p := ⟨gb, 3, none⟩) lb)).trans b3, ((hc.cell (p := ⟨gb, 4, none⟩) (Nat.lt_of_lt_of_le lb hb.size)).trans (hb.cell (p := ⟨gb, 4, none⟩) lb)).trans b4, ((hc.cell (p := ⟨gb, 5, none⟩) (Nat.lt_of_lt_of_le lb hb.size)).trans (hb.cell (p := ⟨gb, 5, none⟩) lb)).trans b5, ((Below.refl wb.heap.size wb).drew.trans hb).trans (hc.mono hb.size)⟩)
  (first
   | (go_at_call 204; refine (kinds_any _).mono ?_; rintro e w' ⟨rfl, hb⟩)
   | (go_at_call 219; refine (kind4_any 4 lo hi un of_ B m d n2 ns _ (HS.out.mono strR_mono (HBB.out.trans (((Below.refl wb.heap.size wb).drew.trans hb).mono HBB.out.size)))).mono ?_; rintro e w' ⟨rfl, hc⟩))
 go_wp2_with fail
 go_ret
 refine ⟨ret_bool ?_, HBB.out.trans (Below.mono (((Below.refl wb.heap.size wb).drew.trans hb).trans (hc.mono hb.size)) HBB.out.size)⟩
 rw [HMN.out]
 simp [typeOK]
theorem typeOK_any (A1 A2 A3 A4 A5 A6 : Option Addr) (n1 c1 n2 c2 n3 c3 n4 c4 n5 c5 n6 c6 : Nat) (t : QType) (B : Option Addr) (m d : Nat) (w : World) (hn2 : n2 ≤ 9223372036854775807) (hs : SlR 1 strR w (.slice B m d) t.names) :
 Calls Tryz.prog 138 #[(.agg #[.slice A1 n1 c1, .slice A2 n2 c2, .slice A3 n3 c3, .slice A4 n4 c4, .slice A5 n5 c5, .slice A6 n6 c6]), .agg #[.int .i64 t.kind, .int .i64 t.lo, .int .i64 t.hi, .string t.of_, .int .i64 t.unit, .slice B m d]] w fun e w' =>
  e = .returned (.bool (typeOK n2 t)) ∧ Below w.heap.size w w' := by
 obtain ⟨kd, lo, hi, of_, un, ns⟩ := t
 simp only at hs ⊢
 by_cases h1 : kd = 1
 · subst h1; exact typeOK1_any A1 A2 A3 A4 A5 A6 n1 c1 n2 c2 n3 c3 n4 c4 n5 c5 n6 c6 lo hi un of_ B m d ns w hn2 hs
 by_cases h2 : kd = 2
 · subst h2; exact typeOK2_any A1 A2 A3 A4 A5 A6 n1 c1 n2 c2 n3 c3 n4 c4 n5 c5 n6 c6 lo hi un of_ B m d ns w hn2 hs
 by_cases h3 : kd = 3
 · subst h3; exact typeOK3_any A1 A2 A3 A4 A5 A6 n1 c1 n2 c2 n3 c3 n4 c4 n5 c5 n6 c6 lo hi un of_ B m d ns w hn2 hs
 by_cases h4 : kd = 4
 · subst h4; exact typeOK4_any A1 A2 A3 A4 A5 A6 n1 c1 n2 c2 n3 c3 n4 c4 n5 c5 n6 c6 lo hi un of_ B m d ns w hn2 hs
 have hf : typeOK n2 ⟨kd, lo, hi, of_, un, ns⟩ = false := by simp [typeOK, h1, h2, h3, h4]
 rw [hf]
 have hk : ¬ (1 ≤ kd ∧ kd ≤ 4) := by omega
 clear hf h1 h2 h3 h4 hs
 go_enter Tryz.func138, Tryz.ntmps138
 by_cases hlo : kd < 1
 ·
  go_wp2_with fail
  go_ret
  exact ⟨rfl, (((Below.refl _ _).alloc (Nat.le_refl _) _).alloc (by simp) _)⟩
 ·
  have hhi : 4 < kd := by omega
  go_wp2_with fail
  go_ret
  exact ⟨rfl, (((Below.refl _ _).alloc (Nat.le_refl _) _).alloc (by simp) _)⟩
def Says {α : Type} (g : Nat) (first cap : Array Value) (R : World → List Value → α → Prop) (p : α → Bool) (l : List α) (w : World) : Prop :=
 ∀ (W : World) (cs : List Value) (x : α), Below w.heap.size w W → x ∈ l → R W cs x → Calls Tryz.prog g (first ++ #[.agg cs.toArray] ++ cap) W fun e W' => e = .returned (.bool (p x)) ∧ Below W.heap.size W W'
theorem Says.nil {α : Type} {g : Nat} {first cap : Array Value} {R : World → List Value → α → Prop} {p : α → Bool} {w : World} : Says g first cap R p [] w := fun _ _ _ _ h => by simp at h
theorem all_at {α : Type} {p : α → Bool} {l : List α} {k : Nat} {x : α} (h : l[k]? = some x) (hp : p x = false) : l.all p = false := by
 rw [List.all_eq_false]
 exact ⟨x, List.mem_of_getElem? h, by simp [hp]⟩
theorem all_take {α : Type} {p : α → Bool} {l : List α} {k : Nat} {x : α} (h : l[k]? = some x) (hp : p x = true) (ht : (l.take k).all p = true) : (l.take (k + 1)).all p = true := by
 rw [take_snoc h, List.all_append, ht]; simp [hp]
set_option maxHeartbeats 2000000 in
theorem notUnit_any (cs : List Value) (x : QUnit) (p : QUnit → Bool) (rc : Value) (B : Nat) (w : World) (hR : qUnitR w cs x) (hB : B < w.heap.size) (hc : w.cell? ⟨B, 0, none⟩ = some (.func (.func 70) #[rc] #[]))
 (hf : ∀ W, Below w.heap.size w W → Calls Tryz.prog 70 (#[rc] ++ #[.agg cs.toArray] ++ #[]) W fun e W' => e = .returned (.bool (p x)) ∧ Below W.heap.size W W') :
 Calls Tryz.prog 135 #[.agg cs.toArray, .pointer (some ⟨B, 0, none⟩)] w fun e w' => e = .returned (.bool (!p x)) ∧ Below w.heap.size w w' := by
 obtain rfl : cs = _ := hR
 have HF := Lib.hid hf
 clear hf
 go_enter Tryz.func135, Tryz.ntmps135
 go_wp2_with (go_at_call 70; refine (HF.out _ ((Below.refl _ _).alloc (Nat.le_refl _) _)).mono ?_; clear HF)
 rintro e w1 ⟨rfl, hb1⟩
 have HB1 := Lib.hid (Below.trans ((Below.refl _ _).alloc (Nat.le_refl _) _) (hb1.mono (by simp)))
 clear hb1
 go_wp2_with fail
 go_ret
 exact ⟨rfl, HB1.out⟩
set_option maxHeartbeats 2000000 in
theorem indexUnit_any (A : Option Addr) (n c : Nat) (l : List QUnit) (p : QUnit → Bool) (w : World) (B : Nat) (hl : SlR 5 qUnitR w (.slice A n c) l) (hf : Says 135 #[] #[.pointer (some ⟨B, 0, none⟩)] qUnitR (fun x => !p x) l w) :
 Calls Tryz.prog 202 #[.slice A n c, .func (.func 135) #[] #[.pointer (some ⟨B, 0, none⟩)]] w fun e w' => (∃ i : Int, e = .returned (.int .i64 i) ∧ decide (0 ≤ i) = !l.all p) ∧ Below w.heap.size w w' := by
 have hn2 : n ≤ 9223372036854775807 := by have := hl.le; omega
 have HN := Lib.hid hl.len
 have HL := Lib.hid hl
 have HF := Lib.hid hf
 clear hl hf
 go_enter Tryz.func202, Tryz.ntmps202
 go_wp2_with fail
 go_loopg [8] n (fun q i wr => ∃ k : Nat, k ≤ n ∧ q = n - k ∧ i = .int .i64 k ∧ (l.take k).all p = true ∧ Below w.heap.size w wr)
 case atStart => exact ⟨0, Nat.zero_le _, rfl, rfl, rfl, Below.refl _ _⟩
 case round =>
  obtain ⟨k, hk, hq, rfl, hv, hb⟩ := hrel
  have HQ := Lib.hid hq
  have HB := Lib.hid hb
  have HV := Lib.hid hv
  clear hq hb hv
  by_cases hlt : k < n
  ·
   obtain ⟨b, off, x, rfl, hbl, hx, e0, e1, e2, e3, e4⟩ := qUnit_at (HL.out.mono qUnitR_mono HB.out) hlt
   have HX := Lib.hid hx
   have hkn : (k : Int) < (n : Int) := by omega
   have hk0 : (0 : Int) ≤ (k : Int) := by omega
   have HC := Lib.hid (HF.out wr [.string x.name, .string x.of_, .int .i64 x.factor, .int .i64 x.base, .int .i64 x.scale] x HB.out (List.mem_of_getElem? hx) rfl)
   clear hx
   go_wp2_with (go_at_call 135; refine HC.out.mono ?_; clear HC)
   rintro e w1 rfl hb1
   have HB1 := Lib.hid (HB.out.trans (hb1.mono HB.out.size))
   obtain ⟨v, hv⟩ : ∃ v, p x = v := ⟨_, rfl⟩
   have HP := Lib.hid hv
   rw [hv]
   clear hv hb1
   cases v with
   |
    true =>
    go_wp2_with fail
    go_roundg (n - (k + 1))
    case measure => have := HQ.out; omega
    case rel => exact ⟨k + 1, by omega, rfl, by go_num, all_take HX.out HP.out HV.out, HB1.out⟩
   |
    false =>
    go_wp2_with fail
    go_ret
    exact ⟨⟨_, rfl, by rw [all_at HX.out HP.out]; simp⟩, HB1.out⟩
  ·
   have HT : Hid (l.all p = true) := by
    have := HV.out
    rw [List.take_of_length_le (by have := HN.out; omega)] at this
    exact this
   go_wp2_with fail
   go_ret
   exact ⟨⟨_, rfl, by rw [HT.out]; rfl⟩, HB.out⟩
theorem containsUnit_any (A : Option Addr) (n c : Nat) (l : List QUnit) (p : QUnit → Bool) (w : World) (B : Nat) (hl : SlR 5 qUnitR w (.slice A n c) l) (hf : Says 135 #[] #[.pointer (some ⟨B, 0, none⟩)] qUnitR (fun x => !p x) l w) :
 Calls Tryz.prog 134 #[.slice A n c, .func (.func 135) #[] #[.pointer (some ⟨B, 0, none⟩)]] w fun e w' => e = .returned (.bool (!l.all p)) ∧ Below w.heap.size w w' := by
 go_enter Tryz.func134, Tryz.ntmps134
 go_wp2_with fail
 refine (indexUnit_any A n c l p w B hl hf).mono ?_
 rintro e w1 ⟨⟨i, rfl, hi⟩, hb1⟩
 have HB1 := Lib.hid hb1
 have HI := Lib.hid hi
 clear hb1 hi
 go_wp2_with fail
 go_ret
 exact ⟨by rw [← HI.out]; rfl, HB1.out⟩
theorem allUnit_any (A : Option Addr) (n c : Nat) (l : List QUnit) (p : QUnit → Bool) (w : World) (rc : Value) (hl : SlR 5 qUnitR w (.slice A n c) l) (hf : Says 70 #[rc] #[] qUnitR p l w) :
 Calls Tryz.prog 69 #[.slice A n c, .func (.func 70) #[rc] #[]] w fun e w' => e = .returned (.bool (l.all p)) ∧ Below w.heap.size w w' := by
 have HL := Lib.hid hl
 have HF := Lib.hid hf
 clear hl hf
 have hmf : ∀ (fn : Fn) (first cap : Array Value) (w : World), (Instr.makeFunc fn first cap).run Tryz.prog w = .ok (.func fn first cap) w := fun _ _ _ _ => rfl
 go_enter Tryz.func69, Tryz.ntmps69
 go_wp2_with fail
 have hal : Below w.heap.size w (w.alloc (.cells #[.func (.func 70) #[rc] #[]] 117)) := (Below.refl _ _).alloc (Nat.le_refl _) _
 have hk : Blk (w.alloc (.cells #[.func (.func 70) #[rc] #[]] 117)) w.heap.size 117 #[.func (.func 70) #[rc] #[]] := Blk.new _ _ _
 have hs : w.heap.size < (w.alloc (.cells #[.func (.func 70) #[rc] #[]] 117)).heap.size := by simp
 have hc := hk.cell 0
 simp only [List.getElem?_toArray, List.getElem?_cons_zero] at hc
 refine (containsUnit_any A n c l p _ w.heap.size (HL.out.mono qUnitR_mono hal) (fun W cs x hW hx hR => ?_)).mono ?_
 · exact notUnit_any cs x p _ w.heap.size W hR (Nat.lt_of_lt_of_le hs hW.size) ((hW.cell (p := ⟨w.heap.size, 0, none⟩) hs).trans hc) (fun W' hW' => HF.out W' cs x ((hal.trans (hW.mono hal.size)).trans (hW'.mono (Nat.le_trans hal.size hW.size))) hx (qUnitR_mono _ _ hW' _ _ hR))
 rintro e w1 ⟨rfl, hb1⟩
 have HB1 := Lib.hid (hal.trans (hb1.mono hal.size))
 clear hb1 hal hk hs hc hmf
 go_wp2_with fail
 go_ret
 exact ⟨by simp, HB1.out⟩
set_option maxHeartbeats 2000000 in
theorem notSchema_any (cs : List Value) (x : QSchema) (p : QSchema → Bool) (rc : Value) (B : Nat) (w : World) (hR : qSchemaR w cs x) (hB : B < w.heap.size) (hc : w.cell? ⟨B, 0, none⟩ = some (.func (.func 72) #[rc] #[]))
 (hf : ∀ W, Below w.heap.size w W → Calls Tryz.prog 72 (#[rc] ++ #[.agg cs.toArray] ++ #[]) W fun e W' => e = .returned (.bool (p x)) ∧ Below W.heap.size W W') :
 Calls Tryz.prog 137 #[.agg cs.toArray, .pointer (some ⟨B, 0, none⟩)] w fun e w' => e = .returned (.bool (!p x)) ∧ Below w.heap.size w w' := by
 obtain ⟨A1, n1, c1, A2, n2, c2, rfl, g1, g2⟩ := hR
 have HF := Lib.hid hf
 clear hf g1 g2
 go_enter Tryz.func137, Tryz.ntmps137
 go_wp2_with (go_at_call 72; refine (HF.out _ ((Below.refl _ _).alloc (Nat.le_refl _) _)).mono ?_; clear HF)
 rintro e w1 ⟨rfl, hb1⟩
 have HB1 := Lib.hid (Below.trans ((Below.refl _ _).alloc (Nat.le_refl _) _) (hb1.mono (by simp)))
 clear hb1
 go_wp2_with fail
 go_ret
 exact ⟨rfl, HB1.out⟩
set_option maxHeartbeats 2000000 in
theorem indexSchema_any (A : Option Addr) (n c : Nat) (l : List QSchema) (p : QSchema → Bool) (w : World) (B : Nat) (hl : SlR 6 qSchemaR w (.slice A n c) l) (hf : Says 137 #[] #[.pointer (some ⟨B, 0, none⟩)] qSchemaR (fun x => !p x) l w) :
 Calls Tryz.prog 203 #[.slice A n c, .func (.func 137) #[] #[.pointer (some ⟨B, 0, none⟩)]] w fun e w' => (∃ i : Int, e = .returned (.int .i64 i) ∧ decide (0 ≤ i) = !l.all p) ∧ Below w.heap.size w w' := by
 have hn2 : n ≤ 9223372036854775807 := by have := hl.le; omega
 have HN := Lib.hid hl.len
 have HL := Lib.hid hl
 have HF := Lib.hid hf
 clear hl hf
 go_enter Tryz.func203, Tryz.ntmps203
 go_wp2_with fail
 go_loopg [8] n (fun q i wr => ∃ k : Nat, k ≤ n ∧ q = n - k ∧ i = .int .i64 k ∧ (l.take k).all p = true ∧ Below w.heap.size w wr)
 case atStart => exact ⟨0, Nat.zero_le _, rfl, rfl, rfl, Below.refl _ _⟩
 case round =>
  obtain ⟨k, hk, hq, rfl, hv, hb⟩ := hrel
  have HQ := Lib.hid hq
  have HB := Lib.hid hb
  have HV := Lib.hid hv
  clear hq hb hv
  by_cases hlt : k < n
  ·
   obtain ⟨b, off, x, A1, n1, c1, A2, n2, c2, rfl, hbl, hx, e0, e1, e2, e3, e4, e5, g1, g2⟩ := qSchema_at (HL.out.mono qSchemaR_mono HB.out) hlt
   have HX := Lib.hid hx
   have hkn : (k : Int) < (n : Int) := by omega
   have hk0 : (0 : Int) ≤ (k : Int) := by omega
   have HC := Lib.hid (HF.out wr [.string x.name, .string x.by_, .int .i64 x.issuer, .int .i64 x.version, .slice A1 n1 c1, .slice A2 n2 c2] x HB.out (List.mem_of_getElem? hx) ⟨A1, n1, c1, A2, n2, c2, rfl, g1, g2⟩)
   clear hx g1 g2
   go_wp2_with (go_at_call 137; refine HC.out.mono ?_; clear HC)
   rintro e w1 rfl hb1
   have HB1 := Lib.hid (HB.out.trans (hb1.mono HB.out.size))
   obtain ⟨v, hv⟩ : ∃ v, p x = v := ⟨_, rfl⟩
   have HP := Lib.hid hv
   rw [hv]
   clear hv hb1
   cases v with
   |
    true =>
    go_wp2_with fail
    go_roundg (n - (k + 1))
    case measure => have := HQ.out; omega
    case rel => exact ⟨k + 1, by omega, rfl, by go_num, all_take HX.out HP.out HV.out, HB1.out⟩
   |
    false =>
    go_wp2_with fail
    go_ret
    exact ⟨⟨_, rfl, by rw [all_at HX.out HP.out]; simp⟩, HB1.out⟩
  ·
   have HT : Hid (l.all p = true) := by
    have := HV.out
    rw [List.take_of_length_le (by have := HN.out; omega)] at this
    exact this
   go_wp2_with fail
   go_ret
   exact ⟨⟨_, rfl, by rw [HT.out]; rfl⟩, HB.out⟩
theorem containsSchema_any (A : Option Addr) (n c : Nat) (l : List QSchema) (p : QSchema → Bool) (w : World) (B : Nat) (hl : SlR 6 qSchemaR w (.slice A n c) l) (hf : Says 137 #[] #[.pointer (some ⟨B, 0, none⟩)] qSchemaR (fun x => !p x) l w) :
 Calls Tryz.prog 136 #[.slice A n c, .func (.func 137) #[] #[.pointer (some ⟨B, 0, none⟩)]] w fun e w' => e = .returned (.bool (!l.all p)) ∧ Below w.heap.size w w' := by
 go_enter Tryz.func136, Tryz.ntmps136
 go_wp2_with fail
 refine (indexSchema_any A n c l p w B hl hf).mono ?_
 rintro e w1 ⟨⟨i, rfl, hi⟩, hb1⟩
 have HB1 := Lib.hid hb1
 have HI := Lib.hid hi
 clear hb1 hi
 go_wp2_with fail
 go_ret
 exact ⟨by rw [← HI.out]; rfl, HB1.out⟩
theorem allSchema_any (A : Option Addr) (n c : Nat) (l : List QSchema) (p : QSchema → Bool) (w : World) (rc : Value) (hl : SlR 6 qSchemaR w (.slice A n c) l) (hf : Says 72 #[rc] #[] qSchemaR p l w) :
 Calls Tryz.prog 71 #[.slice A n c, .func (.func 72) #[rc] #[]] w fun e w' => e = .returned (.bool (l.all p)) ∧ Below w.heap.size w w' := by
 have HL := Lib.hid hl
 have HF := Lib.hid hf
 clear hl hf
 have hmf : ∀ (fn : Fn) (first cap : Array Value) (w : World), (Instr.makeFunc fn first cap).run Tryz.prog w = .ok (.func fn first cap) w := fun _ _ _ _ => rfl
 go_enter Tryz.func71, Tryz.ntmps71
 go_wp2_with fail
 have hal : Below w.heap.size w (w.alloc (.cells #[.func (.func 72) #[rc] #[]] 119)) := (Below.refl _ _).alloc (Nat.le_refl _) _
 have hk : Blk (w.alloc (.cells #[.func (.func 72) #[rc] #[]] 119)) w.heap.size 119 #[.func (.func 72) #[rc] #[]] := Blk.new _ _ _
 have hs : w.heap.size < (w.alloc (.cells #[.func (.func 72) #[rc] #[]] 119)).heap.size := by simp
 have hc := hk.cell 0
 simp only [List.getElem?_toArray, List.getElem?_cons_zero] at hc
 refine (containsSchema_any A n c l p _ w.heap.size (HL.out.mono qSchemaR_mono hal) (fun W cs x hW hx hR => ?_)).mono ?_
 · exact notSchema_any cs x p _ w.heap.size W hR (Nat.lt_of_lt_of_le hs hW.size) ((hW.cell (p := ⟨w.heap.size, 0, none⟩) hs).trans hc) (fun W' hW' => HF.out W' cs x ((hal.trans (hW.mono hal.size)).trans (hW'.mono (Nat.le_trans hal.size hW.size))) hx (qSchemaR_mono _ _ hW' _ _ hR))
 rintro e w1 ⟨rfl, hb1⟩
 have HB1 := Lib.hid (hal.trans (hb1.mono hal.size))
 clear hb1 hal hk hs hc hmf
 go_wp2_with fail
 go_ret
 exact ⟨by simp, HB1.out⟩
set_option maxHeartbeats 2000000 in
theorem notRule_any (cs : List Value) (x : QRule) (p : QRule → Bool) (pc : Addr) (B : Nat) (w : World) (hR : qRuleR w cs x) (hB : B < w.heap.size) (hc : w.cell? ⟨B, 0, none⟩ = some (.func (.func 67) #[] #[.pointer (some pc)]))
 (hf : ∀ W, Below w.heap.size w W → Calls Tryz.prog 67 (#[] ++ #[.agg cs.toArray] ++ #[.pointer (some pc)]) W fun e W' => e = .returned (.bool (p x)) ∧ Below W.heap.size W W') :
 Calls Tryz.prog 140 #[.agg cs.toArray, .pointer (some ⟨B, 0, none⟩)] w fun e w' => e = .returned (.bool (!p x)) ∧ Below w.heap.size w w' := by
 obtain ⟨A1, n1, c1, A2, n2, c2, A3, n3, c3, rfl, g1, g2, g3⟩ := hR
 have HF := Lib.hid hf
 clear hf g1 g2 g3
 go_enter Tryz.func140, Tryz.ntmps140
 go_wp2_with (go_at_call 67; refine (HF.out _ ((Below.refl _ _).alloc (Nat.le_refl _) _)).mono ?_; clear HF)
 rintro e w1 ⟨rfl, hb1⟩
 have HB1 := Lib.hid (Below.trans ((Below.refl _ _).alloc (Nat.le_refl _) _) (hb1.mono (by simp)))
 clear hb1
 go_wp2_with fail
 go_ret
 exact ⟨rfl, HB1.out⟩
set_option maxHeartbeats 2000000 in
theorem indexRule_any (A : Option Addr) (n c : Nat) (l : List QRule) (p : QRule → Bool) (w : World) (B : Nat) (hl : SlR 5 qRuleR w (.slice A n c) l) (hf : Says 140 #[] #[.pointer (some ⟨B, 0, none⟩)] qRuleR (fun x => !p x) l w) :
 Calls Tryz.prog 205 #[.slice A n c, .func (.func 140) #[] #[.pointer (some ⟨B, 0, none⟩)]] w fun e w' => (∃ i : Int, e = .returned (.int .i64 i) ∧ decide (0 ≤ i) = !l.all p) ∧ Below w.heap.size w w' := by
 have hn2 : n ≤ 9223372036854775807 := by have := hl.le; omega
 have HN := Lib.hid hl.len
 have HL := Lib.hid hl
 have HF := Lib.hid hf
 clear hl hf
 go_enter Tryz.func205, Tryz.ntmps205
 go_wp2_with fail
 go_loopg [8] n (fun q i wr => ∃ k : Nat, k ≤ n ∧ q = n - k ∧ i = .int .i64 k ∧ (l.take k).all p = true ∧ Below w.heap.size w wr)
 case atStart => exact ⟨0, Nat.zero_le _, rfl, rfl, rfl, Below.refl _ _⟩
 case round =>
  obtain ⟨k, hk, hq, rfl, hv, hb⟩ := hrel
  have HQ := Lib.hid hq
  have HB := Lib.hid hb
  have HV := Lib.hid hv
  clear hq hb hv
  by_cases hlt : k < n
  ·
   obtain ⟨b, off, x, A1, n1, c1, A2, n2, c2, A3, n3, c3, rfl, hbl, hx, e0, e1, e2, e3, e4, g1, g2, g3⟩ := qRule_at (HL.out.mono qRuleR_mono HB.out) hlt
   have HX := Lib.hid hx
   have hkn : (k : Int) < (n : Int) := by omega
   have hk0 : (0 : Int) ≤ (k : Int) := by omega
   have HC := Lib.hid (HF.out wr [.string x.head, .int .i64 x.schema, .slice A1 n1 c1, .slice A2 n2 c2, .slice A3 n3 c3] x HB.out (List.mem_of_getElem? hx) ⟨A1, n1, c1, A2, n2, c2, A3, n3, c3, rfl, g1, g2, g3⟩)
   clear hx g1 g2 g3
   go_wp2_with (go_at_call 140; refine HC.out.mono ?_; clear HC)
   rintro e w1 rfl hb1
   have HB1 := Lib.hid (HB.out.trans (hb1.mono HB.out.size))
   obtain ⟨v, hv⟩ : ∃ v, p x = v := ⟨_, rfl⟩
   have HP := Lib.hid hv
   rw [hv]
   clear hv hb1
   cases v with
   |
    true =>
    go_wp2_with fail
    go_roundg (n - (k + 1))
    case measure => have := HQ.out; omega
    case rel => exact ⟨k + 1, by omega, rfl, by go_num, all_take HX.out HP.out HV.out, HB1.out⟩
   |
    false =>
    go_wp2_with fail
    go_ret
    exact ⟨⟨_, rfl, by rw [all_at HX.out HP.out]; simp⟩, HB1.out⟩
  ·
   have HT : Hid (l.all p = true) := by
    have := HV.out
    rw [List.take_of_length_le (by have := HN.out; omega)] at this
    exact this
   go_wp2_with fail
   go_ret
   exact ⟨⟨_, rfl, by rw [HT.out]; rfl⟩, HB.out⟩
theorem containsRule_any (A : Option Addr) (n c : Nat) (l : List QRule) (p : QRule → Bool) (w : World) (B : Nat) (hl : SlR 5 qRuleR w (.slice A n c) l) (hf : Says 140 #[] #[.pointer (some ⟨B, 0, none⟩)] qRuleR (fun x => !p x) l w) :
 Calls Tryz.prog 139 #[.slice A n c, .func (.func 140) #[] #[.pointer (some ⟨B, 0, none⟩)]] w fun e w' => e = .returned (.bool (!l.all p)) ∧ Below w.heap.size w w' := by
 go_enter Tryz.func139, Tryz.ntmps139
 go_wp2_with fail
 refine (indexRule_any A n c l p w B hl hf).mono ?_
 rintro e w1 ⟨⟨i, rfl, hi⟩, hb1⟩
 have HB1 := Lib.hid hb1
 have HI := Lib.hid hi
 clear hb1 hi
 go_wp2_with fail
 go_ret
 exact ⟨by rw [← HI.out]; rfl, HB1.out⟩
theorem allRule_any (A : Option Addr) (n c : Nat) (l : List QRule) (p : QRule → Bool) (w : World) (pc : Addr) (hl : SlR 5 qRuleR w (.slice A n c) l) (hf : Says 67 #[] #[.pointer (some pc)] qRuleR p l w) :
 Calls Tryz.prog 73 #[.slice A n c, .func (.func 67) #[] #[.pointer (some pc)]] w fun e w' => e = .returned (.bool (l.all p)) ∧ Below w.heap.size w w' := by
 have HL := Lib.hid hl
 have HF := Lib.hid hf
 clear hl hf
 have hmf : ∀ (fn : Fn) (first cap : Array Value) (w : World), (Instr.makeFunc fn first cap).run Tryz.prog w = .ok (.func fn first cap) w := fun _ _ _ _ => rfl
 go_enter Tryz.func73, Tryz.ntmps73
 go_wp2_with fail
 have hal : Below w.heap.size w (w.alloc (.cells #[.func (.func 67) #[] #[.pointer (some pc)]] 113)) := (Below.refl _ _).alloc (Nat.le_refl _) _
 have hk : Blk (w.alloc (.cells #[.func (.func 67) #[] #[.pointer (some pc)]] 113)) w.heap.size 113 #[.func (.func 67) #[] #[.pointer (some pc)]] := Blk.new _ _ _
 have hs : w.heap.size < (w.alloc (.cells #[.func (.func 67) #[] #[.pointer (some pc)]] 113)).heap.size := by simp
 have hc := hk.cell 0
 simp only [List.getElem?_toArray, List.getElem?_cons_zero] at hc
 refine (containsRule_any A n c l p _ w.heap.size (HL.out.mono qRuleR_mono hal) (fun W cs x hW hx hR => ?_)).mono ?_
 · exact notRule_any cs x p _ w.heap.size W hR (Nat.lt_of_lt_of_le hs hW.size) ((hW.cell (p := ⟨w.heap.size, 0, none⟩) hs).trans hc) (fun W' hW' => HF.out W' cs x ((hal.trans (hW.mono hal.size)).trans (hW'.mono (Nat.le_trans hal.size hW.size))) hx (qRuleR_mono _ _ hW' _ _ hR))
 rintro e w1 ⟨rfl, hb1⟩
 have HB1 := Lib.hid (hal.trans (hb1.mono hal.size))
 clear hb1 hal hk hs hc hmf
 go_wp2_with fail
 go_ret
 exact ⟨by simp, HB1.out⟩
set_option maxHeartbeats 2000000 in
theorem notPurpose_any (cs : List Value) (x : QPurpose) (p : QPurpose → Bool) (rc : Value) (B : Nat) (w : World) (hR : qPurposeR w cs x) (hB : B < w.heap.size) (hc : w.cell? ⟨B, 0, none⟩ = some (.func (.func 75) #[rc] #[]))
 (hf : ∀ W, Below w.heap.size w W → Calls Tryz.prog 75 (#[rc] ++ #[.agg cs.toArray] ++ #[]) W fun e W' => e = .returned (.bool (p x)) ∧ Below W.heap.size W W') :
 Calls Tryz.prog 141 #[.agg cs.toArray, .pointer (some ⟨B, 0, none⟩)] w fun e w' => e = .returned (.bool (!p x)) ∧ Below w.heap.size w w' := by
 obtain ⟨A1, n1, c1, rfl, g1⟩ := hR
 have HF := Lib.hid hf
 clear hf g1
 go_enter Tryz.func141, Tryz.ntmps141
 go_wp2_with (go_at_call 75; refine (HF.out _ ((Below.refl _ _).alloc (Nat.le_refl _) _)).mono ?_; clear HF)
 rintro e w1 ⟨rfl, hb1⟩
 have HB1 := Lib.hid (Below.trans ((Below.refl _ _).alloc (Nat.le_refl _) _) (hb1.mono (by simp)))
 clear hb1
 go_wp2_with fail
 go_ret
 exact ⟨rfl, HB1.out⟩
set_option maxHeartbeats 2000000 in
theorem indexPurpose_any (A : Option Addr) (n c : Nat) (l : List QPurpose) (p : QPurpose → Bool) (w : World) (B : Nat) (hl : SlR 3 qPurposeR w (.slice A n c) l) (hf : Says 141 #[] #[.pointer (some ⟨B, 0, none⟩)] qPurposeR (fun x => !p x) l w) :
 Calls Tryz.prog 198 #[.slice A n c, .func (.func 141) #[] #[.pointer (some ⟨B, 0, none⟩)]] w fun e w' => (∃ i : Int, e = .returned (.int .i64 i) ∧ decide (0 ≤ i) = !l.all p) ∧ Below w.heap.size w w' := by
 have hn2 : n ≤ 9223372036854775807 := by have := hl.le; omega
 have HN := Lib.hid hl.len
 have HL := Lib.hid hl
 have HF := Lib.hid hf
 clear hl hf
 go_enter Tryz.func198, Tryz.ntmps198
 go_wp2_with fail
 go_loopg [8] n (fun q i wr => ∃ k : Nat, k ≤ n ∧ q = n - k ∧ i = .int .i64 k ∧ (l.take k).all p = true ∧ Below w.heap.size w wr)
 case atStart => exact ⟨0, Nat.zero_le _, rfl, rfl, rfl, Below.refl _ _⟩
 case round =>
  obtain ⟨k, hk, hq, rfl, hv, hb⟩ := hrel
  have HQ := Lib.hid hq
  have HB := Lib.hid hb
  have HV := Lib.hid hv
  clear hq hb hv
  by_cases hlt : k < n
  ·
   obtain ⟨b, off, x, A1, n1, c1, rfl, hbl, hx, e0, e1, e2, g1⟩ := qPurpose_at (HL.out.mono qPurposeR_mono HB.out) hlt
   have HX := Lib.hid hx
   have hkn : (k : Int) < (n : Int) := by omega
   have hk0 : (0 : Int) ≤ (k : Int) := by omega
   have HC := Lib.hid (HF.out wr [.string x.name, .slice A1 n1 c1, .int .i64 x.most] x HB.out (List.mem_of_getElem? hx) ⟨A1, n1, c1, rfl, g1⟩)
   clear hx g1
   go_wp2_with (go_at_call 141; refine HC.out.mono ?_; clear HC)
   rintro e w1 rfl hb1
   have HB1 := Lib.hid (HB.out.trans (hb1.mono HB.out.size))
   obtain ⟨v, hv⟩ : ∃ v, p x = v := ⟨_, rfl⟩
   have HP := Lib.hid hv
   rw [hv]
   clear hv hb1
   cases v with
   |
    true =>
    go_wp2_with fail
    go_roundg (n - (k + 1))
    case measure => have := HQ.out; omega
    case rel => exact ⟨k + 1, by omega, rfl, by go_num, all_take HX.out HP.out HV.out, HB1.out⟩
   |
    false =>
    go_wp2_with fail
    go_ret
    exact ⟨⟨_, rfl, by rw [all_at HX.out HP.out]; simp⟩, HB1.out⟩
  ·
   have HT : Hid (l.all p = true) := by
    have := HV.out
    rw [List.take_of_length_le (by have := HN.out; omega)] at this
    exact this
   go_wp2_with fail
   go_ret
   exact ⟨⟨_, rfl, by rw [HT.out]; rfl⟩, HB.out⟩
theorem containsPurpose_any (A : Option Addr) (n c : Nat) (l : List QPurpose) (p : QPurpose → Bool) (w : World) (B : Nat) (hl : SlR 3 qPurposeR w (.slice A n c) l) (hf : Says 141 #[] #[.pointer (some ⟨B, 0, none⟩)] qPurposeR (fun x => !p x) l w) :
 Calls Tryz.prog 127 #[.slice A n c, .func (.func 141) #[] #[.pointer (some ⟨B, 0, none⟩)]] w fun e w' => e = .returned (.bool (!l.all p)) ∧ Below w.heap.size w w' := by
 go_enter Tryz.func127, Tryz.ntmps127
 go_wp2_with fail
 refine (indexPurpose_any A n c l p w B hl hf).mono ?_
 rintro e w1 ⟨⟨i, rfl, hi⟩, hb1⟩
 have HB1 := Lib.hid hb1
 have HI := Lib.hid hi
 clear hb1 hi
 go_wp2_with fail
 go_ret
 exact ⟨by rw [← HI.out]; rfl, HB1.out⟩
theorem allPurpose_any (A : Option Addr) (n c : Nat) (l : List QPurpose) (p : QPurpose → Bool) (w : World) (rc : Value) (hl : SlR 3 qPurposeR w (.slice A n c) l) (hf : Says 75 #[rc] #[] qPurposeR p l w) :
 Calls Tryz.prog 74 #[.slice A n c, .func (.func 75) #[rc] #[]] w fun e w' => e = .returned (.bool (l.all p)) ∧ Below w.heap.size w w' := by
 have HL := Lib.hid hl
 have HF := Lib.hid hf
 clear hl hf
 have hmf : ∀ (fn : Fn) (first cap : Array Value) (w : World), (Instr.makeFunc fn first cap).run Tryz.prog w = .ok (.func fn first cap) w := fun _ _ _ _ => rfl
 go_enter Tryz.func74, Tryz.ntmps74
 go_wp2_with fail
 have hal : Below w.heap.size w (w.alloc (.cells #[.func (.func 75) #[rc] #[]] 122)) := (Below.refl _ _).alloc (Nat.le_refl _) _
 have hk : Blk (w.alloc (.cells #[.func (.func 75) #[rc] #[]] 122)) w.heap.size 122 #[.func (.func 75) #[rc] #[]] := Blk.new _ _ _
 have hs : w.heap.size < (w.alloc (.cells #[.func (.func 75) #[rc] #[]] 122)).heap.size := by simp
 have hc := hk.cell 0
 simp only [List.getElem?_toArray, List.getElem?_cons_zero] at hc
 refine (containsPurpose_any A n c l p _ w.heap.size (HL.out.mono qPurposeR_mono hal) (fun W cs x hW hx hR => ?_)).mono ?_
 · exact notPurpose_any cs x p _ w.heap.size W hR (Nat.lt_of_lt_of_le hs hW.size) ((hW.cell (p := ⟨w.heap.size, 0, none⟩) hs).trans hc) (fun W' hW' => HF.out W' cs x ((hal.trans (hW.mono hal.size)).trans (hW'.mono (Nat.le_trans hal.size hW.size))) hx (qPurposeR_mono _ _ hW' _ _ hR))
 rintro e w1 ⟨rfl, hb1⟩
 have HB1 := Lib.hid (hal.trans (hb1.mono hal.size))
 clear hb1 hal hk hs hc hmf
 go_wp2_with fail
 go_ret
 exact ⟨by simp, HB1.out⟩
end Go.Proofs.YtkgmonplcdnnbaaGreat
