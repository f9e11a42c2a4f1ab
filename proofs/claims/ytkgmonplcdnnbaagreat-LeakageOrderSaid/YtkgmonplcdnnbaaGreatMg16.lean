/- Contracts of package types: the checks of types of each kind, typeOK. -/
import Derived.Test.YtkgmonplcdnnbaaGreatMg03
import Derived.Deep.RegionHeld3
import Derived.Laws.EntriesVeiled
import Derived.Test.YtkgmonplcdnnbaaGreatSyEqS
namespace Go.Proofs.YtkgmonplcdnnbaaGreat
open Go.RowKit

theorem castEq0 (n : Nat) : ((n : Int) == 0) = decide (n = 0) := by
  by_cases h : n = 0 <;> simp [h]

set_option maxHeartbeats 2000000 in
theorem kind1_any (k lo hi u : Int) (s : ByteArray) (A : Option Addr) (n c : Nat) (m : Int) (w : World) :
    Calls Tryz.prog 216 #[.agg #[.int .i64 k, .int .i64 lo, .int .i64 hi, .string s, .int .i64 u, .slice A n c], .int .i64 m] w fun e w' =>
      e = .returned (.bool (decide (0 ≤ lo) && decide (lo ≤ hi) && decide (hi ≤ 1048576) && decide (-1 ≤ u) && decide (u < m) && decide (n = 0))) ∧ Below w.heap.size w w' := by
  go_enter Tryz.func216, Tryz.ntmps216
  go_wp2_with fail
  all_goals
    go_ret
    refine ⟨ret_bool ?_, (Below.refl _ _).alloc (Nat.le_refl _) _⟩
    go_light
    first
      | (simp_all; done)
      | (simp_all [castEq0]; done)
      | (simp_all; intros; exfalso; omega)

set_option maxHeartbeats 2000000 in
theorem kind2_any (k lo hi u : Int) (s : ByteArray) (A : Option Addr) (n c : Nat) (m : Int) (w : World) :
    Calls Tryz.prog 217 #[.agg #[.int .i64 k, .int .i64 lo, .int .i64 hi, .string s, .int .i64 u, .slice A n c], .int .i64 m] w fun e w' =>
      e = .returned (.bool (decide (lo = 0) && decide (hi = 1023) && decide (u = -1) && decide (n = 0))) ∧ Below w.heap.size w w' := by
  go_enter Tryz.func217, Tryz.ntmps217
  go_wp2_with fail
  all_goals
    go_ret
    refine ⟨ret_bool ?_, (Below.refl _ _).alloc (Nat.le_refl _) _⟩
    go_light
    first
      | (simp_all; done)
      | (simp_all [castEq0]; done)
      | (simp_all; intros; exfalso; omega)

set_option maxHeartbeats 2000000 in
theorem kind3_any (k lo hi u : Int) (s : ByteArray) (A : Option Addr) (n c : Nat) (m : Int) (w : World) :
    Calls Tryz.prog 218 #[.agg #[.int .i64 k, .int .i64 lo, .int .i64 hi, .string s, .int .i64 u, .slice A n c], .int .i64 m] w fun e w' =>
      e = .returned (.bool (decide (lo = 0) && decide (hi = 4095) && decide (u = -1) && decide (n = 0))) ∧ Below w.heap.size w w' := by
  go_enter Tryz.func218, Tryz.ntmps218
  go_wp2_with fail
  all_goals
    go_ret
    refine ⟨ret_bool ?_, (Below.refl _ _).alloc (Nat.le_refl _) _⟩
    go_light
    first
      | (simp_all; done)
      | (simp_all [castEq0]; done)
      | (simp_all; intros; exfalso; omega)

set_option maxHeartbeats 2000000 in
theorem kind4_any (k lo hi u : Int) (s : ByteArray) (A : Option Addr) (n c : Nat) (m : Int) (l : List ByteArray) (w : World) (hs : SlR 1 strR w (.slice A n c) l) :
    Calls Tryz.prog 219 #[.agg #[.int .i64 k, .int .i64 lo, .int .i64 hi, .string s, .int .i64 u, .slice A n c], .int .i64 m] w fun e w' =>
      e = .returned (.bool (decide (lo = 0) && decide (hi = (n : Int) - 1) && decide (u = -1) && decide (1 ≤ n) && decide (n ≤ 16) && diffGo [] l)) ∧ Below w.heap.size w w' := by
  have hn2 : n ≤ 9223372036854775807 := by have := hs.le; omega
  have HS := Lib.hid hs
  clear hs
  go_enter Tryz.func219, Tryz.ntmps219
  go_wp2_with (go_at_call 220; refine (differentStr_any _ _ _ l _ (HS.out.mono strR_mono ((Below.refl _ _).alloc (Nat.le_refl _) _))).mono ?_; rintro e w1 ⟨rfl, hb1⟩)
  all_goals
    go_ret
    first
      | refine ⟨ret_bool ?_, (Below.refl _ _).alloc (Nat.le_refl _) _⟩
      | refine ⟨ret_bool ?_, Below.trans ((Below.refl _ _).alloc (Nat.le_refl _) _) (Below.mono hb1 (by simp))⟩
    go_light
    first
      | (simp_all; done)
      | (simp_all; intros; exfalso; omega)
      | (simp_all; intros; omega)

/-- The array of the checks. -/
def kindsV : Value := .agg #[.nilFunc, .func (.func 216) #[] #[], .func (.func 217) #[] #[], .func (.func 218) #[] #[], .func (.func 219) #[] #[]]

theorem kinds_any (w : World) : Calls Tryz.prog 204 #[] w fun e w' => e = .returned kindsV ∧ Below w.heap.size w w' := by
  go_enter Tryz.func204, Tryz.ntmps204
  go_wp2_with fail
  exact bodyPost_ret (v := kindsV) (by simp [results, Tryz.results204, go_sem, kindsV]) rfl ⟨rfl, (Below.refl _ _).alloc (Nat.le_refl _) _⟩


end Go.Proofs.YtkgmonplcdnnbaaGreat

namespace Go.Proofs.YtkgmonplcdnnbaaGreat
open Go.RowKit

set_option maxHeartbeats 4000000 in
theorem unitOK_any (A1 A2 A3 A4 A5 A6 : Option Addr) (n1 c1 n2 c2 n3 c3 n4 c4 n5 c5 n6 c6 : Nat) (u : QUnit) (us : List QUnit) (w : World) (h2 : SlR 5 qUnitR w (.slice A2 n2 c2) us) :
    Calls Tryz.prog 70 #[(.agg #[.slice A1 n1 c1, .slice A2 n2 c2, .slice A3 n3 c3, .slice A4 n4 c4, .slice A5 n5 c5, .slice A6 n6 c6]), .agg #[.string u.name, .string u.of_, .int .i64 u.factor, .int .i64 u.base, .int .i64 u.scale]] w fun e w' =>
      e = .returned (.bool (unitOK us u)) ∧ Below w.heap.size w w' := by
  have hn2 : n2 ≤ 9223372036854775807 := by have := h2.le; omega
  have hln := h2.len
  have H2 := Lib.hid h2
  clear h2
  obtain ⟨nm, of_, fa, ba, sc⟩ := u
  unfold unitOK
  simp only
  by_cases hin : 0 ≤ ba ∧ ba < n2
  · obtain ⟨k, rfl⟩ : ∃ k : Nat, ba = k := ⟨ba.toNat, by omega⟩
    have hk : k < n2 := by omega
    obtain ⟨b, off, x, rfl, hbl, hx, e0, e1, e2, e3, e4⟩ := qUnit_at H2.out hk
    have hx2 : us[(k : Int).toNat]? = some x := by simpa using hx
    rw [hx2, ← hln]
    have hk0 : (0 : Int) ≤ (k : Int) := by omega
    have hkn : (k : Int) < (n2 : Int) := by omega
    clear hx hx2 hin hln
    go_enter Tryz.func70, Tryz.ntmps70
    go_wp2_with fail
    all_goals
      go_ret
      refine ⟨ret_bool ?_, (((Below.refl _ _).alloc (Nat.le_refl _) _).alloc (by simp) _)⟩
      go_light
      first
        | (simp_all; done)
        | (simp_all; intros; exfalso; omega)
        | (simp_all; rfl)
  · have hf : (decide (0 ≤ ba) && decide (ba < us.length)) = false := by
      rw [← hln]
      simp only [Bool.and_eq_false_iff, decide_eq_false_iff_not]
      omega
    clear hln
    go_enter Tryz.func70, Tryz.ntmps70
    go_wp2_with fail
    all_goals
      go_ret
      refine ⟨ret_bool ?_, (((Below.refl _ _).alloc (Nat.le_refl _) _).alloc (by simp) _)⟩
      go_light
      first
        | (simp_all; done)
        | (simp_all; intros; exfalso; omega)
        | (simp_all; intros; omega)
        | (exfalso; omega)

end Go.Proofs.YtkgmonplcdnnbaaGreat

namespace Go.Proofs.YtkgmonplcdnnbaaGreat
open Go.RowKit

set_option maxHeartbeats 4000000 in
set_option maxRecDepth 100000 in
theorem typeOK1_any (A1 A2 A3 A4 A5 A6 : Option Addr) (n1 c1 n2 c2 n3 c3 n4 c4 n5 c5 n6 c6 : Nat) (lo hi un : Int) (of_ : ByteArray) (B : Option Addr) (m d : Nat) (ns : List ByteArray) (w : World) (_hn2 : n2 ≤ 9223372036854775807) (hs : SlR 1 strR w (.slice B m d) ns) :
    Calls Tryz.prog 138 #[(.agg #[.slice A1 n1 c1, .slice A2 n2 c2, .slice A3 n3 c3, .slice A4 n4 c4, .slice A5 n5 c5, .slice A6 n6 c6]), .agg #[.int .i64 1, .int .i64 lo, .int .i64 hi, .string of_, .int .i64 un, .slice B m d]] w fun e w' =>
      e = .returned (.bool (typeOK n2 ⟨1, lo, hi, of_, un, ns⟩)) ∧ Below w.heap.size w w' := by
  have HMN := Lib.hid hs.len
  clear hs
  have hix : ∀ w : World, (Instr.index 276 kindsV (.int .i64 1)).run Tryz.prog w = .ok (.func (.func 216) #[] #[]) w := fun _ => by kernel_rfl
  go_enter Tryz.func138, Tryz.ntmps138
  go_wp2_with fail
  obtain ⟨wb, hwb⟩ : ∃ wq, wq = (w.alloc (.cells #[.slice A1 n1 c1, .slice A2 n2 c2, .slice A3 n3 c3, .slice A4 n4 c4, .slice A5 n5 c5, .slice A6 n6 c6] 110)).alloc (.cells #[.int .i64 1, .int .i64 lo, .int .i64 hi, .string of_, .int .i64 un, .slice B m d] 55) := ⟨_, rfl⟩
  rw [← hwb]
  have hbb : Below w.heap.size w wb := by rw [hwb]; exact (((Below.refl _ _).alloc (Nat.le_refl _) _).alloc (by simp) _)
  have kA : Blk wb w.heap.size 110 #[.slice A1 n1 c1, .slice A2 n2 c2, .slice A3 n3 c3, .slice A4 n4 c4, .slice A5 n5 c5, .slice A6 n6 c6] := by rw [hwb]; exact (Blk.new _ _ _).alloc _
  have kB : Blk wb (w.heap.size + 1) 55 #[.int .i64 1, .int .i64 lo, .int .i64 hi, .string of_, .int .i64 un, .slice B m d] := by rw [hwb]; exact blkNew (by simp)
  obtain ⟨ga, hga⟩ : ∃ g, g = w.heap.size := ⟨_, rfl⟩
  obtain ⟨gb, hgb⟩ : ∃ g, g = w.heap.size + 1 := ⟨_, rfl⟩
  rw [← hgb] at kB ⊢
  rw [← hga] at kA ⊢
  have HA := Lib.hid kA
  have HB := Lib.hid kB
  have HBB := Lib.hid hbb
  have a1 := kA.cell 1
  have b0 := kB.cell 0
  have b1 := kB.cell 1
  have b2 := kB.cell 2
  have b3 := kB.cell 3
  have b4 := kB.cell 4
  have b5 := kB.cell 5
  have la := kA.lt
  have lb := kB.lt
  simp only [List.getElem?_toArray, List.getElem?_cons_zero, List.getElem?_cons_succ] at a1 b0 b1 b2 b3 b4 b5
  clear kA kB hbb hwb hga hgb
  go_region_held3 (fun w' => w'.cell? ⟨ga, 1, none⟩ = some (.slice A2 n2 c2) ∧ w'.cell? ⟨gb, 0, none⟩ = some (.int .i64 1) ∧ w'.cell? ⟨gb, 1, none⟩ = some (.int .i64 lo) ∧ w'.cell? ⟨gb, 2, none⟩ = some (.int .i64 hi) ∧ w'.cell? ⟨gb, 3, none⟩ = some (.string of_) ∧ w'.cell? ⟨gb, 4, none⟩ = some (.int .i64 un) ∧ w'.cell? ⟨gb, 5, none⟩ = some (.slice B m d) ∧ Below wb.heap.size wb w')
    (first
      | exact ⟨a1, b0, b1, b2, b3, b4, b5, (Below.refl _ _).drew⟩
      | exact ⟨(hb.cell (p := ⟨ga, 1, none⟩) la).trans a1, (hb.cell (p := ⟨gb, 0, none⟩) lb).trans b0, (hb.cell (p := ⟨gb, 1, none⟩) lb).trans b1, (hb.cell (p := ⟨gb, 2, none⟩) lb).trans b2, (hb.cell (p := ⟨gb, 3, none⟩) lb).trans b3, (hb.cell (p := ⟨gb, 4, none⟩) lb).trans b4, (hb.cell (p := ⟨gb, 5, none⟩) lb).trans b5, (Below.refl wb.heap.size wb).drew.trans hb⟩
      | exact ⟨((hc.cell (p := ⟨ga, 1, none⟩) (Nat.lt_of_lt_of_le la hb.size)).trans (hb.cell (p := ⟨ga, 1, none⟩) la)).trans a1, ((hc.cell (p := ⟨gb, 0, none⟩) (Nat.lt_of_lt_of_le lb hb.size)).trans (hb.cell (p := ⟨gb, 0, none⟩) lb)).trans b0, ((hc.cell (p := ⟨gb, 1, none⟩) (Nat.lt_of_lt_of_le lb hb.size)).trans (hb.cell (p := ⟨gb, 1, none⟩) lb)).trans b1, ((hc.cell (p := ⟨gb, 2, none⟩) (Nat.lt_of_lt_of_le lb hb.size)).trans (hb.cell (p := ⟨gb, 2, none⟩) lb)).trans b2, ((hc.cell (p := ⟨gb, 3, none⟩) (Nat.lt_of_lt_of_le lb hb.size)).trans (hb.cell (p := ⟨gb, 3, none⟩) lb)).trans b3, ((hc.cell (p := ⟨gb, 4, none⟩) (Nat.lt_of_lt_of_le lb hb.size)).trans (hb.cell (p := ⟨gb, 4, none⟩) lb)).trans b4, ((hc.cell (p := ⟨gb, 5, none⟩) (Nat.lt_of_lt_of_le lb hb.size)).trans (hb.cell (p := ⟨gb, 5, none⟩) lb)).trans b5, ((Below.refl wb.heap.size wb).drew.trans hb).trans (hc.mono hb.size)⟩)
    (first
      | (go_at_call 204; refine (kinds_any _).mono ?_; rintro e w' ⟨rfl, hb⟩)
      | (go_at_call 216; refine (kind1_any 1 lo hi un of_ B m d n2 _).mono ?_; rintro e w' ⟨rfl, hc⟩))
  go_wp2_with fail
  go_ret
  refine ⟨ret_bool ?_, HBB.out.trans (Below.mono (((Below.refl wb.heap.size wb).drew.trans hb).trans (hc.mono hb.size)) HBB.out.size)⟩
  rw [HMN.out]
  simp [typeOK]

set_option maxHeartbeats 4000000 in
set_option maxRecDepth 100000 in
theorem typeOK2_any (A1 A2 A3 A4 A5 A6 : Option Addr) (n1 c1 n2 c2 n3 c3 n4 c4 n5 c5 n6 c6 : Nat) (lo hi un : Int) (of_ : ByteArray) (B : Option Addr) (m d : Nat) (ns : List ByteArray) (w : World) (_hn2 : n2 ≤ 9223372036854775807) (hs : SlR 1 strR w (.slice B m d) ns) :
    Calls Tryz.prog 138 #[(.agg #[.slice A1 n1 c1, .slice A2 n2 c2, .slice A3 n3 c3, .slice A4 n4 c4, .slice A5 n5 c5, .slice A6 n6 c6]), .agg #[.int .i64 2, .int .i64 lo, .int .i64 hi, .string of_, .int .i64 un, .slice B m d]] w fun e w' =>
      e = .returned (.bool (typeOK n2 ⟨2, lo, hi, of_, un, ns⟩)) ∧ Below w.heap.size w w' := by
  have HMN := Lib.hid hs.len
  clear hs
  have hix : ∀ w : World, (Instr.index 276 kindsV (.int .i64 2)).run Tryz.prog w = .ok (.func (.func 217) #[] #[]) w := fun _ => by kernel_rfl
  go_enter Tryz.func138, Tryz.ntmps138
  go_wp2_with fail
  obtain ⟨wb, hwb⟩ : ∃ wq, wq = (w.alloc (.cells #[.slice A1 n1 c1, .slice A2 n2 c2, .slice A3 n3 c3, .slice A4 n4 c4, .slice A5 n5 c5, .slice A6 n6 c6] 110)).alloc (.cells #[.int .i64 2, .int .i64 lo, .int .i64 hi, .string of_, .int .i64 un, .slice B m d] 55) := ⟨_, rfl⟩
  rw [← hwb]
  have hbb : Below w.heap.size w wb := by rw [hwb]; exact (((Below.refl _ _).alloc (Nat.le_refl _) _).alloc (by simp) _)
  have kA : Blk wb w.heap.size 110 #[.slice A1 n1 c1, .slice A2 n2 c2, .slice A3 n3 c3, .slice A4 n4 c4, .slice A5 n5 c5, .slice A6 n6 c6] := by rw [hwb]; exact (Blk.new _ _ _).alloc _
  have kB : Blk wb (w.heap.size + 1) 55 #[.int .i64 2, .int .i64 lo, .int .i64 hi, .string of_, .int .i64 un, .slice B m d] := by rw [hwb]; exact blkNew (by simp)
  obtain ⟨ga, hga⟩ : ∃ g, g = w.heap.size := ⟨_, rfl⟩
  obtain ⟨gb, hgb⟩ : ∃ g, g = w.heap.size + 1 := ⟨_, rfl⟩
  rw [← hgb] at kB ⊢
  rw [← hga] at kA ⊢
  have HA := Lib.hid kA
  have HB := Lib.hid kB
  have HBB := Lib.hid hbb
  have a1 := kA.cell 1
  have b0 := kB.cell 0
  have b1 := kB.cell 1
  have b2 := kB.cell 2
  have b3 := kB.cell 3
  have b4 := kB.cell 4
  have b5 := kB.cell 5
  have la := kA.lt
  have lb := kB.lt
  simp only [List.getElem?_toArray, List.getElem?_cons_zero, List.getElem?_cons_succ] at a1 b0 b1 b2 b3 b4 b5
  clear kA kB hbb hwb hga hgb
  go_region_held3 (fun w' => w'.cell? ⟨ga, 1, none⟩ = some (.slice A2 n2 c2) ∧ w'.cell? ⟨gb, 0, none⟩ = some (.int .i64 2) ∧ w'.cell? ⟨gb, 1, none⟩ = some (.int .i64 lo) ∧ w'.cell? ⟨gb, 2, none⟩ = some (.int .i64 hi) ∧ w'.cell? ⟨gb, 3, none⟩ = some (.string of_) ∧ w'.cell? ⟨gb, 4, none⟩ = some (.int .i64 un) ∧ w'.cell? ⟨gb, 5, none⟩ = some (.slice B m d) ∧ Below wb.heap.size wb w')
    (first
      | exact ⟨a1, b0, b1, b2, b3, b4, b5, (Below.refl _ _).drew⟩
      | exact ⟨(hb.cell (p := ⟨ga, 1, none⟩) la).trans a1, (hb.cell (p := ⟨gb, 0, none⟩) lb).trans b0, (hb.cell (p := ⟨gb, 1, none⟩) lb).trans b1, (hb.cell (p := ⟨gb, 2, none⟩) lb).trans b2, (hb.cell (p := ⟨gb, 3, none⟩) lb).trans b3, (hb.cell (p := ⟨gb, 4, none⟩) lb).trans b4, (hb.cell (p := ⟨gb, 5, none⟩) lb).trans b5, (Below.refl wb.heap.size wb).drew.trans hb⟩
      | exact ⟨((hc.cell (p := ⟨ga, 1, none⟩) (Nat.lt_of_lt_of_le la hb.size)).trans (hb.cell (p := ⟨ga, 1, none⟩) la)).trans a1, ((hc.cell (p := ⟨gb, 0, none⟩) (Nat.lt_of_lt_of_le lb hb.size)).trans (hb.cell (p := ⟨gb, 0, none⟩) lb)).trans b0, ((hc.cell (p := ⟨gb, 1, none⟩) (Nat.lt_of_lt_of_le lb hb.size)).trans (hb.cell (p := ⟨gb, 1, none⟩) lb)).trans b1, ((hc.cell (p := ⟨gb, 2, none⟩) (Nat.lt_of_lt_of_le lb hb.size)).trans (hb.cell (p := ⟨gb, 2, none⟩) lb)).trans b2, ((hc.cell (p := ⟨gb, 3, none⟩) (Nat.lt_of_lt_of_le lb hb.size)).trans (hb.cell (p := ⟨gb, 3, none⟩) lb)).trans b3, ((hc.cell (p := ⟨gb, 4, none⟩) (Nat.lt_of_lt_of_le lb hb.size)).trans (hb.cell (p := ⟨gb, 4, none⟩) lb)).trans b4, ((hc.cell (p := ⟨gb, 5, none⟩) (Nat.lt_of_lt_of_le lb hb.size)).trans (hb.cell (p := ⟨gb, 5, none⟩) lb)).trans b5, ((Below.refl wb.heap.size wb).drew.trans hb).trans (hc.mono hb.size)⟩)
    (first
      | (go_at_call 204; refine (kinds_any _).mono ?_; rintro e w' ⟨rfl, hb⟩)
      | (go_at_call 217; refine (kind2_any 2 lo hi un of_ B m d n2 _).mono ?_; rintro e w' ⟨rfl, hc⟩))
  go_wp2_with fail
  go_ret
  refine ⟨ret_bool ?_, HBB.out.trans (Below.mono (((Below.refl wb.heap.size wb).drew.trans hb).trans (hc.mono hb.size)) HBB.out.size)⟩
  rw [HMN.out]
  simp [typeOK]

set_option maxHeartbeats 4000000 in
set_option maxRecDepth 100000 in
theorem typeOK3_any (A1 A2 A3 A4 A5 A6 : Option Addr) (n1 c1 n2 c2 n3 c3 n4 c4 n5 c5 n6 c6 : Nat) (lo hi un : Int) (of_ : ByteArray) (B : Option Addr) (m d : Nat) (ns : List ByteArray) (w : World) (_hn2 : n2 ≤ 9223372036854775807) (hs : SlR 1 strR w (.slice B m d) ns) :
    Calls Tryz.prog 138 #[(.agg #[.slice A1 n1 c1, .slice A2 n2 c2, .slice A3 n3 c3, .slice A4 n4 c4, .slice A5 n5 c5, .slice A6 n6 c6]), .agg #[.int .i64 3, .int .i64 lo, .int .i64 hi, .string of_, .int .i64 un, .slice B m d]] w fun e w' =>
      e = .returned (.bool (typeOK n2 ⟨3, lo, hi, of_, un, ns⟩)) ∧ Below w.heap.size w w' := by
  have HMN := Lib.hid hs.len
  clear hs
  have hix : ∀ w : World, (Instr.index 276 kindsV (.int .i64 3)).run Tryz.prog w = .ok (.func (.func 218) #[] #[]) w := fun _ => by kernel_rfl
  go_enter Tryz.func138, Tryz.ntmps138
  go_wp2_with fail
  obtain ⟨wb, hwb⟩ : ∃ wq, wq = (w.alloc (.cells #[.slice A1 n1 c1, .slice A2 n2 c2, .slice A3 n3 c3, .slice A4 n4 c4, .slice A5 n5 c5, .slice A6 n6 c6] 110)).alloc (.cells #[.int .i64 3, .int .i64 lo, .int .i64 hi, .string of_, .int .i64 un, .slice B m d] 55) := ⟨_, rfl⟩
  rw [← hwb]
  have hbb : Below w.heap.size w wb := by rw [hwb]; exact (((Below.refl _ _).alloc (Nat.le_refl _) _).alloc (by simp) _)
  have kA : Blk wb w.heap.size 110 #[.slice A1 n1 c1, .slice A2 n2 c2, .slice A3 n3 c3, .slice A4 n4 c4, .slice A5 n5 c5, .slice A6 n6 c6] := by rw [hwb]; exact (Blk.new _ _ _).alloc _
  have kB : Blk wb (w.heap.size + 1) 55 #[.int .i64 3, .int .i64 lo, .int .i64 hi, .string of_, .int .i64 un, .slice B m d] := by rw [hwb]; exact blkNew (by simp)
  obtain ⟨ga, hga⟩ : ∃ g, g = w.heap.size := ⟨_, rfl⟩
  obtain ⟨gb, hgb⟩ : ∃ g, g = w.heap.size + 1 := ⟨_, rfl⟩
  rw [← hgb] at kB ⊢
  rw [← hga] at kA ⊢
  have HA := Lib.hid kA
  have HB := Lib.hid kB
  have HBB := Lib.hid hbb
  have a1 := kA.cell 1
  have b0 := kB.cell 0
  have b1 := kB.cell 1
  have b2 := kB.cell 2
  have b3 := kB.cell 3
  have b4 := kB.cell 4
  have b5 := kB.cell 5
  have la := kA.lt
  have lb := kB.lt
  simp only [List.getElem?_toArray, List.getElem?_cons_zero, List.getElem?_cons_succ] at a1 b0 b1 b2 b3 b4 b5
  clear kA kB hbb hwb hga hgb
  go_region_held3 (fun w' => w'.cell? ⟨ga, 1, none⟩ = some (.slice A2 n2 c2) ∧ w'.cell? ⟨gb, 0, none⟩ = some (.int .i64 3) ∧ w'.cell? ⟨gb, 1, none⟩ = some (.int .i64 lo) ∧ w'.cell? ⟨gb, 2, none⟩ = some (.int .i64 hi) ∧ w'.cell? ⟨gb, 3, none⟩ = some (.string of_) ∧ w'.cell? ⟨gb, 4, none⟩ = some (.int .i64 un) ∧ w'.cell? ⟨gb, 5, none⟩ = some (.slice B m d) ∧ Below wb.heap.size wb w')
    (first
      | exact ⟨a1, b0, b1, b2, b3, b4, b5, (Below.refl _ _).drew⟩
      | exact ⟨(hb.cell (p := ⟨ga, 1, none⟩) la).trans a1, (hb.cell (p := ⟨gb, 0, none⟩) lb).trans b0, (hb.cell (p := ⟨gb, 1, none⟩) lb).trans b1, (hb.cell (p := ⟨gb, 2, none⟩) lb).trans b2, (hb.cell (p := ⟨gb, 3, none⟩) lb).trans b3, (hb.cell (p := ⟨gb, 4, none⟩) lb).trans b4, (hb.cell (p := ⟨gb, 5, none⟩) lb).trans b5, (Below.refl wb.heap.size wb).drew.trans hb⟩
      | exact ⟨((hc.cell (p := ⟨ga, 1, none⟩) (Nat.lt_of_lt_of_le la hb.size)).trans (hb.cell (p := ⟨ga, 1, none⟩) la)).trans a1, ((hc.cell (p := ⟨gb, 0, none⟩) (Nat.lt_of_lt_of_le lb hb.size)).trans (hb.cell (p := ⟨gb, 0, none⟩) lb)).trans b0, ((hc.cell (p := ⟨gb, 1, none⟩) (Nat.lt_of_lt_of_le lb hb.size)).trans (hb.cell (p := ⟨gb, 1, none⟩) lb)).trans b1, ((hc.cell (p := ⟨gb, 2, none⟩) (Nat.lt_of_lt_of_le lb hb.size)).trans (hb.cell (p := ⟨gb, 2, none⟩) lb)).trans b2, ((hc.cell (p := ⟨gb, 3, none⟩) (Nat.lt_of_lt_of_le lb hb.size)).trans (hb.cell (p := ⟨gb, 3, none⟩) lb)).trans b3, ((hc.cell (p := ⟨gb, 4, none⟩) (Nat.lt_of_lt_of_le lb hb.size)).trans (hb.cell (p := ⟨gb, 4, none⟩) lb)).trans b4, ((hc.cell (p := ⟨gb, 5, none⟩) (Nat.lt_of_lt_of_le lb hb.size)).trans (hb.cell (p := ⟨gb, 5, none⟩) lb)).trans b5, ((Below.refl wb.heap.size wb).drew.trans hb).trans (hc.mono hb.size)⟩)
    (first
      | (go_at_call 204; refine (kinds_any _).mono ?_; rintro e w' ⟨rfl, hb⟩)
      | (go_at_call 218; refine (kind3_any 3 lo hi un of_ B m d n2 _).mono ?_; rintro e w' ⟨rfl, hc⟩))
  go_wp2_with fail
  go_ret
  refine ⟨ret_bool ?_, HBB.out.trans (Below.mono (((Below.refl wb.heap.size wb).drew.trans hb).trans (hc.mono hb.size)) HBB.out.size)⟩
  rw [HMN.out]
  simp [typeOK]

set_option maxHeartbeats 4000000 in
set_option maxRecDepth 100000 in
theorem typeOK4_any (A1 A2 A3 A4 A5 A6 : Option Addr) (n1 c1 n2 c2 n3 c3 n4 c4 n5 c5 n6 c6 : Nat) (lo hi un : Int) (of_ : ByteArray) (B : Option Addr) (m d : Nat) (ns : List ByteArray) (w : World) (_hn2 : n2 ≤ 9223372036854775807) (hs : SlR 1 strR w (.slice B m d) ns) :
    Calls Tryz.prog 138 #[(.agg #[.slice A1 n1 c1, .slice A2 n2 c2, .slice A3 n3 c3, .slice A4 n4 c4, .slice A5 n5 c5, .slice A6 n6 c6]), .agg #[.int .i64 4, .int .i64 lo, .int .i64 hi, .string of_, .int .i64 un, .slice B m d]] w fun e w' =>
      e = .returned (.bool (typeOK n2 ⟨4, lo, hi, of_, un, ns⟩)) ∧ Below w.heap.size w w' := by
  have HMN := Lib.hid hs.len
  have HS := Lib.hid hs
  clear hs
  have hix : ∀ w : World, (Instr.index 276 kindsV (.int .i64 4)).run Tryz.prog w = .ok (.func (.func 219) #[] #[]) w := fun _ => by kernel_rfl
  go_enter Tryz.func138, Tryz.ntmps138
  go_wp2_with fail
  obtain ⟨wb, hwb⟩ : ∃ wq, wq = (w.alloc (.cells #[.slice A1 n1 c1, .slice A2 n2 c2, .slice A3 n3 c3, .slice A4 n4 c4, .slice A5 n5 c5, .slice A6 n6 c6] 110)).alloc (.cells #[.int .i64 4, .int .i64 lo, .int .i64 hi, .string of_, .int .i64 un, .slice B m d] 55) := ⟨_, rfl⟩
  rw [← hwb]
  have hbb : Below w.heap.size w wb := by rw [hwb]; exact (((Below.refl _ _).alloc (Nat.le_refl _) _).alloc (by simp) _)
  have kA : Blk wb w.heap.size 110 #[.slice A1 n1 c1, .slice A2 n2 c2, .slice A3 n3 c3, .slice A4 n4 c4, .slice A5 n5 c5, .slice A6 n6 c6] := by rw [hwb]; exact (Blk.new _ _ _).alloc _
  have kB : Blk wb (w.heap.size + 1) 55 #[.int .i64 4, .int .i64 lo, .int .i64 hi, .string of_, .int .i64 un, .slice B m d] := by rw [hwb]; exact blkNew (by simp)
  obtain ⟨ga, hga⟩ : ∃ g, g = w.heap.size := ⟨_, rfl⟩
  obtain ⟨gb, hgb⟩ : ∃ g, g = w.heap.size + 1 := ⟨_, rfl⟩
  rw [← hgb] at kB ⊢
  rw [← hga] at kA ⊢
  have HA := Lib.hid kA
  have HB := Lib.hid kB
  have HBB := Lib.hid hbb
  have a1 := kA.cell 1
  have b0 := kB.cell 0
  have b1 := kB.cell 1
  have b2 := kB.cell 2
  have b3 := kB.cell 3
  have b4 := kB.cell 4
  have b5 := kB.cell 5
  have la := kA.lt
  have lb := kB.lt
  simp only [List.getElem?_toArray, List.getElem?_cons_zero, List.getElem?_cons_succ] at a1 b0 b1 b2 b3 b4 b5
  clear kA kB hbb hwb hga hgb
  go_region_held3 (fun w' => w'.cell? ⟨ga, 1, none⟩ = some (.slice A2 n2 c2) ∧ w'.cell? ⟨gb, 0, none⟩ = some (.int .i64 4) ∧ w'.cell? ⟨gb, 1, none⟩ = some (.int .i64 lo) ∧ w'.cell? ⟨gb, 2, none⟩ = some (.int .i64 hi) ∧ w'.cell? ⟨gb, 3, none⟩ = some (.string of_) ∧ w'.cell? ⟨gb, 4, none⟩ = some (.int .i64 un) ∧ w'.cell? ⟨gb, 5, none⟩ = some (.slice B m d) ∧ Below wb.heap.size wb w')
    (first
      | exact ⟨a1, b0, b1, b2, b3, b4, b5, (Below.refl _ _).drew⟩
      | exact ⟨(hb.cell (p := ⟨ga, 1, none⟩) la).trans a1, (hb.cell (p := ⟨gb, 0, none⟩) lb).trans b0, (hb.cell (p := ⟨gb, 1, none⟩) lb).trans b1, (hb.cell (p := ⟨gb, 2, none⟩) lb).trans b2, (hb.cell (p := ⟨gb, 3, none⟩) lb).trans b3, (hb.cell (p := ⟨gb, 4, none⟩) lb).trans b4, (hb.cell (p := ⟨gb, 5, none⟩) lb).trans b5, (Below.refl wb.heap.size wb).drew.trans hb⟩
      | exact ⟨((hc.cell (p := ⟨ga, 1, none⟩) (Nat.lt_of_lt_of_le la hb.size)).trans (hb.cell (p := ⟨ga, 1, none⟩) la)).trans a1, ((hc.cell (p := ⟨gb, 0, none⟩) (Nat.lt_of_lt_of_le lb hb.size)).trans (hb.cell (p := ⟨gb, 0, none⟩) lb)).trans b0, ((hc.cell (p := ⟨gb, 1, none⟩) (Nat.lt_of_lt_of_le lb hb.size)).trans (hb.cell (p := ⟨gb, 1, none⟩) lb)).trans b1, ((hc.cell (p := ⟨gb, 2, none⟩) (Nat.lt_of_lt_of_le lb hb.size)).trans (hb.cell (p := ⟨gb, 2, none⟩) lb)).trans b2, ((hc.cell (p := ⟨gb, 3, none⟩) (Nat.lt_of_lt_of_le lb hb.size)).trans (hb.cell (p := ⟨gb, 3, none⟩) lb)).trans b3, ((hc.cell (p := ⟨gb, 4, none⟩) (Nat.lt_of_lt_of_le lb hb.size)).trans (hb.cell (p := ⟨gb, 4, none⟩) lb)).trans b4, ((hc.cell (p := ⟨gb, 5, none⟩) (Nat.lt_of_lt_of_le lb hb.size)).trans (hb.cell (p := ⟨gb, 5, none⟩) lb)).trans b5, ((Below.refl wb.heap.size wb).drew.trans hb).trans (hc.mono hb.size)⟩)
    (first
      | (go_at_call 204; refine (kinds_any _).mono ?_; rintro e w' ⟨rfl, hb⟩)
      | (go_at_call 219; refine (kind4_any 4 lo hi un of_ B m d n2 ns _ (HS.out.mono strR_mono (HBB.out.trans (((Below.refl wb.heap.size wb).drew.trans hb).mono HBB.out.size)))).mono ?_; rintro e w' ⟨rfl, hc⟩))
  go_wp2_with fail
  go_ret
  refine ⟨ret_bool ?_, HBB.out.trans (Below.mono (((Below.refl wb.heap.size wb).drew.trans hb).trans (hc.mono hb.size)) HBB.out.size)⟩
  rw [HMN.out]
  simp [typeOK]

theorem typeOK_any (A1 A2 A3 A4 A5 A6 : Option Addr) (n1 c1 n2 c2 n3 c3 n4 c4 n5 c5 n6 c6 : Nat) (t : QType) (B : Option Addr) (m d : Nat) (w : World) (hn2 : n2 ≤ 9223372036854775807) (hs : SlR 1 strR w (.slice B m d) t.names) :
    Calls Tryz.prog 138 #[(.agg #[.slice A1 n1 c1, .slice A2 n2 c2, .slice A3 n3 c3, .slice A4 n4 c4, .slice A5 n5 c5, .slice A6 n6 c6]), .agg #[.int .i64 t.kind, .int .i64 t.lo, .int .i64 t.hi, .string t.of_, .int .i64 t.unit, .slice B m d]] w fun e w' =>
      e = .returned (.bool (typeOK n2 t)) ∧ Below w.heap.size w w' := by
  obtain ⟨kd, lo, hi, of_, un, ns⟩ := t
  simp only at hs ⊢
  by_cases h1 : kd = 1
  · subst h1; exact typeOK1_any A1 A2 A3 A4 A5 A6 n1 c1 n2 c2 n3 c3 n4 c4 n5 c5 n6 c6 lo hi un of_ B m d ns w hn2 hs
  by_cases h2 : kd = 2
  · subst h2; exact typeOK2_any A1 A2 A3 A4 A5 A6 n1 c1 n2 c2 n3 c3 n4 c4 n5 c5 n6 c6 lo hi un of_ B m d ns w hn2 hs
  by_cases h3 : kd = 3
  · subst h3; exact typeOK3_any A1 A2 A3 A4 A5 A6 n1 c1 n2 c2 n3 c3 n4 c4 n5 c5 n6 c6 lo hi un of_ B m d ns w hn2 hs
  by_cases h4 : kd = 4
  · subst h4; exact typeOK4_any A1 A2 A3 A4 A5 A6 n1 c1 n2 c2 n3 c3 n4 c4 n5 c5 n6 c6 lo hi un of_ B m d ns w hn2 hs
  have hf : typeOK n2 ⟨kd, lo, hi, of_, un, ns⟩ = false := by simp [typeOK, h1, h2, h3, h4]
  rw [hf]
  have hk : ¬ (1 ≤ kd ∧ kd ≤ 4) := by omega
  clear hf h1 h2 h3 h4 hs
  go_enter Tryz.func138, Tryz.ntmps138
  by_cases hlo : kd < 1
  · go_wp2_with fail
    go_ret
    exact ⟨rfl, (((Below.refl _ _).alloc (Nat.le_refl _) _).alloc (by simp) _)⟩
  · have hhi : 4 < kd := by omega
    go_wp2_with fail
    go_ret
    exact ⟨rfl, (((Below.refl _ _).alloc (Nat.le_refl _) _).alloc (by simp) _)⟩

end Go.Proofs.YtkgmonplcdnnbaaGreat
