/- Contracts of package types: unitOK, typeOK. Written by genty.py. -/
import Derived.Test.YtkgmonplcdnnbaaGreatPm13
import Derived.RangeFuncBox
import Derived.Maps.AppendAt
import Derived.Maps.OwnIn
import Derived.Test.YtkgmonplcdnnbaaGreatPm02
import Derived.Deep.RegionHeld3
import Derived.Laws.EntriesVeiled
namespace Go.Proofs.YtkgmonplcdnnbaaGreat
open Go.RowKit Go.Shelf
attribute [local go_sem] Oper.semAt_some
set_option maxHeartbeats 8000000 in
set_option maxRecDepth 100000 in
theorem appendSeq_any (bg M n base0 : Nat) (hs : List (Int × Nat)) (rs : List QRule) (w : World) (hbg : Blk w bg 128 #[.int .i64 n, .map (some M)]) (hG : GraphH w base0 M hs (needOf rs)) (hin : ∀ h y, y ∈ needOf rs h → 0 ≤ y ∧ y < n) (hn : n ≤ 1000) :
 Calls Tryz.prog 145 #[.slice none 0 0, .func (.func 146) #[] #[.pointer (some ⟨bg, 0, none⟩)]] w fun e w' => ∃ v, e = .returned v ∧ w'.ownsRow w.heap.size 3 1 v (orderL rs n).length ((orderL rs n).map (Value.int .i64)) ∧ Below w.heap.size w w' := by
 refine (callsIn_wide (n := 8)).1 ?_
 obtain ⟨i0, hi, hz0, hz1, hz2⟩ := info_parts Tryz.infoIntD
 have HI := Lib.hid hi
 have HZ := Lib.hid (And.intro hz0 (And.intro hz1 hz2))
 have HBG := Lib.hid hbg
 have HG := Lib.hid hG
 have HIN := Lib.hid hin
 clear hi hz0 hz1 hz2 hbg hG hin
 refine callsIn_of_wp_marks Tryz.func145 rfl trivial ?_ rfl
 simp only [Tryz.ntmps145, List.size_toArray, List.length_cons, List.length_nil, Nat.reduceAdd, Nat.reduceSub, Array.replicate_succ, Array.replicate_zero, List.push_toArray, List.append_toArray, List.nil_append, List.cons_append]
 refine wpIn_wide.2 ?_
 go_wp2_with fail
 refine (wpIn_wide (n := 8)).1 ?_
 have hlt : bg < w.heap.size := HBG.out.lt
 have hsz : (w.alloc (.cells #[.slice none 0 0] 30)).heap.size = w.heap.size + 1 := by simp
 have hb0 : Below w.heap.size w (w.alloc (.cells #[.slice none 0 0] 30)) := (Below.refl _ _).alloc (Nat.le_refl _) _
 refine wpIn_rangeFunc_C (F := Fence.wide) (n₀ := w.heap.size) (B2 := w.heap.size) (N := n) rfl (by omega) (gf := 146) (lb := #[.pointer (some ⟨bg, 0, none⟩)]) rfl trivial (enters_of Tryz.func146 (by kernel_rfl) rfl)
  (addable1_in 7 w.heap.size w.heap.size bg M n base0 hs rs _ (HBG.out.alloc _) (HG.out.below hb0) HIN.out hn (by simp) (by simp)) (fun _ => rfl) (by simp) (by simp)
  (fun pre W => (∃ v, Boxed W w.heap.size 30 v ∧ W.ownsRow w.heap.size 3 1 v pre.length (pre.map (Value.int .i64))) ∧ Below w.heap.size w W)
  ?abides ?points ?start
  (fun x => { tmps := #[.slice none 0 0, .func (.func 146) #[] #[.pointer (some ⟨bg, 0, none⟩)], .pointer (some ⟨w.heap.size, 0, none⟩), undef, .slice none 0 0, .int .i64 x, .func (.func 146) #[] #[.pointer (some ⟨bg, 0, none⟩)], .int .i64 x, undef, undef, undef, undef, undef], defers := [] })
  ?assign ?body ?done
 case abides =>
  rintro s A C ⟨⟨v, hv, hr⟩, hB⟩ ho
  rw [hsz] at ho
  have hpt : ptOf w.heap.size A = v.ownBlock := ptOf_blk (t := 30) hv
  have hBC : Below w.heap.size w C := ⟨ho.os.trans hB.os, ho.tape.trans hB.tape, ho.output.trans hB.output, Nat.le_trans hB.size ho.size, fun b hb => (ho.block b (Nat.lt_of_lt_of_le hb hB.size) (.inl (by omega))).trans (hB.block b hb)⟩
  refine ⟨⟨v, (ho.block w.heap.size hv.lt (.inl (by omega))).trans hv, hr.1, ?_⟩, hBC⟩
  rcases hr.2 with h | ⟨g, cap, cur, hv2, hg, hh, rest⟩
  · exact .inl h
  · exact .inr ⟨g, cap, cur, hv2, hg, (ho.block g (Array.getElem?_eq_some_iff.1 hh).1 (.inr (by rw [hpt, hv2]; rfl))).trans hh, rest⟩
 case points =>
  rintro pre W ⟨⟨v, hv, hr⟩, hB⟩ b hb
  rw [ptOf_blk (t := 30) hv] at hb
  obtain ⟨cur, hc⟩ := own_kind hr hb
  exact ⟨(hr.lt b hb).1, cur, _, _, hc⟩
 case start => exact ⟨⟨.slice none 0 0, Boxed.new _ _ _, World.ownsRow_nil _ _ _ _⟩, hb0⟩
 case assign =>
  intro l x W K hK
  gi_wp2
  exact hK
 case body =>
  rintro l pre x W ⟨⟨v, hv, hr⟩, hB⟩ hlen
  have hc := hv.cell
  have HV := Lib.hid hv
  have HR := Lib.hid hr
  have HB := Lib.hid hB
  have hBs := hB.size
  clear hv hr hB
  gi_wp2_with (gi_at_builtin; refine wpListIn_append_own_at _ rfl (.tmp 8) (.tmp 10) 30 rfl w.heap.size 3 i0 (.int .i64 0) 1 8 Tryz.underlying30 HI.out HZ.out.1 HZ.out.2.1 HZ.out.2.2 rfl (by decide) v pre.length _ rfl (HR.out.alloc _) ⟨W.heap.size, 0, none⟩ 1 1 [.int .i64 x] rfl rfl (cell_one_new _ _ _) (by simp [Value.oneCell']) (by unfold maxLen; omega) (by omega) (by simp; omega) ?_; intro v' w1 hown' hgrow _ hat; obtain ⟨g', cap', rfl⟩ := ownsRow_succ hown'; have HA := Lib.hid (HV.out.appended (by decide) HR.out hBs (Nat.le_refl _) hown' hgrow); have hc1 := HA.out.1.cell; have hf1 := HA.out.1.frozen; have HGR := Lib.hid hgrow; have HAT := Lib.hid hat; clear hown' hgrow hat)
  obtain ⟨ha1, ha2, ha3, ha4, ha5⟩ := HA.out
  have hptW : ptOf w.heap.size W = v.ownBlock := ptOf_blk (t := 30) HV.out
  have hpt2 : ptOf w.heap.size (w1.setCell ⟨w.heap.size, 0, none⟩ (.slice (some ⟨g', 0, none⟩) (pre.length + 1) cap')) = some g' := ptOf_blk (t := 30) ha2
  refine ⟨ha4, ⟨ha5.size, fun b hb hbl hbp => ?_, ?_, fun b hb => ?_⟩, ⟨_, ha2, ha3⟩, HB.out.trans ha5⟩
  ·
   have hne : b ≠ w.heap.size := by omega
   refine (Below.heap_setCell _ _ _ b hne).trans ((HGR.out.block b (by simp; omega) (fun e => hbp (by rw [hptW, e]))).trans (Below.heap_alloc W _ b hbl))
  ·
   rw [hpt2, hptW]
   rcases HAT.out with e | e
   · exact .inl e
   · exact .inr ⟨g', rfl, by
    injection e with e
    simp at e
    omega⟩
  ·
   rw [hpt2] at hb
   injection hb with hb
   subst hb
   exact (ha3.lt g' rfl).2
 case done =>
  rintro D xs W hD rfl ⟨⟨v, hv, hr⟩, hB⟩ hK
  have hc := hv.cell
  go_wp2_with fail
  refine ⟨by simp, .inl ⟨_, _, rfl, run_takeDeferred hK, ?_⟩⟩
  exact ⟨_, results_tmp rfl _ _ _, v, rfl, ownsRow_putObj hr _ hK rfl, hB.trans (belowK_b (w := w) (Nat.le_refl _) W D _ _ (by simp at hD; omega) hK rfl rfl)⟩
theorem collect_any (bg M n base0 : Nat) (hs : List (Int × Nat)) (rs : List QRule) (w : World) (hbg : Blk w bg 128 #[.int .i64 n, .map (some M)]) (hG : GraphH w base0 M hs (needOf rs)) (hin : ∀ h y, y ∈ needOf rs h → 0 ≤ y ∧ y < n) (hn : n ≤ 1000) :
 Calls Tryz.prog 80 #[.func (.func 146) #[] #[.pointer (some ⟨bg, 0, none⟩)]] w fun e w' => ∃ v, e = .returned v ∧ w'.ownsRow w.heap.size 3 1 v (orderL rs n).length ((orderL rs n).map (Value.int .i64)) ∧ Below w.heap.size w w' := by
 go_enter Tryz.func80, Tryz.ntmps80
 go_wp2_with (go_at_call 145; refine (appendSeq_any bg M n base0 hs rs w hbg hG hin hn).mono ?_)
 first | rintro e w1 v rfl hv hb | rintro e w1 ⟨v, rfl, hv, hb⟩
 go_wp2_with fail
 go_ret
 exact ⟨v, rfl, hv, hb⟩
theorem castEq0 (n : Nat) : ((n : Int) == 0) = decide (n = 0) := by
 by_cases h : n = 0 <;> simp [h]
set_option maxHeartbeats 2000000 in
theorem kind1_any (k lo hi u : Int) (s : ByteArray) (A : Option Addr) (n c : Nat) (m : Int) (w : World) :
 Calls Tryz.prog 216 #[.agg #[.int .i64 k, .int .i64 lo, .int .i64 hi, .string s, .int .i64 u, .slice A n c], .int .i64 m] w fun e w' =>
  e = .returned (.bool (decide (0 ≤ lo) && decide (lo ≤ hi) && decide (hi ≤ 1048576) && decide (-1 ≤ u) && decide (u < m) && decide (n = 0))) ∧ Below w.heap.size w w' := by
 go_enter Tryz.func216, Tryz.ntmps216
 go_wp2_with fail
 all_goals
  go_ret
  refine ⟨ret_bool ?_, (Below.refl _ _).alloc (Nat.le_refl _) _⟩
  go_light
  first
   | (simp_all; done)
   | (simp_all [castEq0]; done)
   | (simp_all; intros; exfalso; omega)
set_option maxHeartbeats 2000000 in
theorem kind2_any (k lo hi u : Int) (s : ByteArray) (A : Option Addr) (n c : Nat) (m : Int) (w : World) :
 Calls Tryz.prog 217 #[.agg #[.int .i64 k, .int .i64 lo, .int .i64 hi, .string s, .int .i64 u, .slice A n c], .int .i64 m] w fun e w' =>
  e = .returned (.bool (decide (lo = 0) && decide (hi = 1023) && decide (u = -1) && decide (n = 0))) ∧ Below w.heap.size w w' := by
 go_enter Tryz.func217, Tryz.ntmps217
 go_wp2_with fail
 all_goals
  go_ret
  refine ⟨ret_bool ?_, (Below.refl _ _).alloc (Nat.le_refl _) _⟩
  go_light
  first
   | (simp_all; done)
   | (simp_all [castEq0]; done)
   | (simp_all; intros; exfalso; omega)
set_option maxHeartbeats 2000000 in
theorem kind3_any (k lo hi u : Int) (s : ByteArray) (A : Option Addr) (n c : Nat) (m : Int) (w : World) :
 Calls Tryz.prog 218 #[.agg #[.int .i64 k, .int .i64 lo, .int .i64 hi, .string s, .int .i64 u, .slice A n c], .int .i64 m] w fun e w' =>
  e = .returned (.bool (decide (lo = 0) && decide (hi = 4095) && decide (u = -1) && decide (n = 0))) ∧ Below w.heap.size w w' := by
 go_enter Tryz.func218, Tryz.ntmps218
 go_wp2_with fail
 all_goals
  go_ret
  refine ⟨ret_bool ?_, (Below.refl _ _).alloc (Nat.le_refl _) _⟩
  go_light
  first
   | (simp_all; done)
   | (simp_all [castEq0]; done)
   | (simp_all; intros; exfalso; omega)
set_option maxHeartbeats 2000000 in
theorem kind4_any (k lo hi u : Int) (s : ByteArray) (A : Option Addr) (n c : Nat) (m : Int) (l : List ByteArray) (w : World) (hs : SlR 1 strR w (.slice A n c) l) :
 Calls Tryz.prog 219 #[.agg #[.int .i64 k, .int .i64 lo, .int .i64 hi, .string s, .int .i64 u, .slice A n c], .int .i64 m] w fun e w' =>
  e = .returned (.bool (decide (lo = 0) && decide (hi = (n : Int) - 1) && decide (u = -1) && decide (1 ≤ n) && decide (n ≤ 16) && diffGo [] l)) ∧ Below w.heap.size w w' := by
 have hn2 : n ≤ 9223372036854775807 := by have := hs.le; omega
 have HS := Lib.hid hs
 clear hs
 go_enter Tryz.func219, Tryz.ntmps219
 go_wp2_with (go_at_call 220; refine (differentStr_any _ _ _ l _ (HS.out.mono strR_mono ((Below.refl _ _).alloc (Nat.le_refl _) _))).mono ?_; rintro e w1 ⟨rfl, hb1⟩)
 all_goals
  go_ret
  first
   | refine ⟨ret_bool ?_, (Below.refl _ _).alloc (Nat.le_refl _) _⟩
   | refine ⟨ret_bool ?_, Below.trans ((Below.refl _ _).alloc (Nat.le_refl _) _) (Below.mono hb1 (by simp))⟩
  go_light
  first
   | (simp_all; done)
   | (simp_all; intros; exfalso; omega)
   | (simp_all; intros; omega)
def kindsV : Value := .agg #[.nilFunc, .func (.func 216) #[] #[], .func (.func 217) #[] #[], .func (.func 218) #[] #[], .func (.func 219) #[] #[]]
theorem kinds_any (w : World) : Calls Tryz.prog 204 #[] w fun e w' => e = .returned kindsV ∧ Below w.heap.size w w' := by
 go_enter Tryz.func204, Tryz.ntmps204
 go_wp2_with fail
 exact bodyPost_ret (v := kindsV) (by simp [results, Tryz.results204, go_sem, kindsV]) rfl ⟨rfl, (Below.refl _ _).alloc (Nat.le_refl _) _⟩
set_option maxHeartbeats 4000000 in
theorem unitOK_any (A1 A2 A3 A4 A5 A6 : Option Addr) (n1 c1 n2 c2 n3 c3 n4 c4 n5 c5 n6 c6 : Nat) (u : QUnit) (us : List QUnit) (w : World) (h2 : SlR 5 qUnitR w (.slice A2 n2 c2) us) :
 Calls Tryz.prog 70 #[(.agg #[.slice A1 n1 c1, .slice A2 n2 c2, .slice A3 n3 c3, .slice A4 n4 c4, .slice A5 n5 c5, .slice A6 n6 c6]), .agg #[.string u.name, .string u.of_, .int .i64 u.factor, .int .i64 u.base, .int .i64 u.scale]] w fun e w' =>
  e = .returned (.bool (unitOK us u)) ∧ Below w.heap.size w w' := by
 have hn2 : n2 ≤ 9223372036854775807 := by have := h2.le; omega
 have hln := h2.len
 have H2 := Lib.hid h2
 clear h2
 obtain ⟨nm, of_, fa, ba, sc⟩ := u
 unfold unitOK
 simp only
 by_cases hin : 0 ≤ ba ∧ ba < n2
 ·
  obtain ⟨k, rfl⟩ : ∃ k : Nat, ba = k := ⟨ba.toNat, by omega⟩
  have hk : k < n2 := by omega
  obtain ⟨b, off, x, rfl, hbl, hx, e0, e1, e2, e3, e4⟩ := qUnit_at H2.out hk
  have hx2 : us[(k : Int).toNat]? = some x := by simpa using hx
  rw [hx2, ← hln]
  have hk0 : (0 : Int) ≤ (k : Int) := by omega
  have hkn : (k : Int) < (n2 : Int) := by omega
  clear hx hx2 hin hln
  go_enter Tryz.func70, Tryz.ntmps70
  go_wp2_with fail
  all_goals
   go_ret
   refine ⟨ret_bool ?_, (((Below.refl _ _).alloc (Nat.le_refl _) _).alloc (by simp) _)⟩
   go_light
   first
    | (simp_all; done)
    | (simp_all; intros; exfalso; omega)
    | (simp_all; rfl)
 ·
  have hf : (decide (0 ≤ ba) && decide (ba < us.length)) = false := by
   rw [← hln]
   simp only [Bool.and_eq_false_iff, decide_eq_false_iff_not]
   omega
  clear hln
  go_enter Tryz.func70, Tryz.ntmps70
  go_wp2_with fail
  all_goals
   go_ret
   refine ⟨ret_bool ?_, (((Below.refl _ _).alloc (Nat.le_refl _) _).alloc (by simp) _)⟩
   go_light
   first
    | (simp_all; done)
    | (simp_all; intros; exfalso; omega)
    | (simp_all; intros; omega)
    | (exfalso; omega)
end Go.Proofs.YtkgmonplcdnnbaaGreat
