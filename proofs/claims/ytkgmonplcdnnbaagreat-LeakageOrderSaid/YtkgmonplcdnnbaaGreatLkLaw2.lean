/- testamurlaw23.LeakageOrder: the walk. Written by genlaw2.py. -/
import Derived.Test.YtkgmonplcdnnbaaGreatMg33
import Derived.BigQuiet
namespace Go.Proofs.YtkgmonplcdnnbaaGreat
open Go.RowKit Go.Shelf

theorem belW {A B : Option Addr} {n c m d : Nat} {l r : List Int} {w : World} (hl : SlR 1 iR w (.slice A n c) l) (hr : SlR 1 iR w (.slice B m d) r) (e : l.length = r.length) {b : Bool} (hb : belowL l r = b) (W : World) (hW : Below w.heap.size w W) :
    Calls Tryz.prog 17 #[.slice A n c, .slice B m d] W fun e w' => e = .returned (.tuple #[.bool b, .int .i64 0]) ∧ Below W.heap.size W w' := by
  have h := leakBelow_any A B n c m d l r W (hl.mono iR_mono hW) (hr.mono iR_mono hW)
  rwa [show belowR l r = b by simp [belowR, e, hb], show lenE l r = 0 by simp [lenE, e]] at h
theorem comW {A B : Option Addr} {n c m d : Nat} {l r : List Int} {w : World} (hl : SlR 1 iR w (.slice A n c) l) (hr : SlR 1 iR w (.slice B m d) r) (e : l.length = r.length) {z : Int} (hz : compL l r = z) (W : World) (hW : Below w.heap.size w W) :
    Calls Tryz.prog 19 #[.slice A n c, .slice B m d] W fun e w' => e = .returned (.tuple #[.int .i64 z, .int .i64 0]) ∧ Below W.heap.size W w' := by
  have h := leakCompare_any A B n c m d l r W (hl.mono iR_mono hW) (hr.mono iR_mono hW)
  rwa [show compR l r = z by simp [compR, e, hz], show lenE l r = 0 by simp [lenE, e]] at h

set_option maxHeartbeats 16000000 in
set_option maxRecDepth 100000 in
theorem order23_any (A B C : Option Addr) (n0 c0 n1 c1 n2 c2 : Nat) (a b c : List Int) (w : World) (ha : SlR 1 iR w (.slice A n0 c0) a) (hb : SlR 1 iR w (.slice B n1 c1) b) (hc : SlR 1 iR w (.slice C n2 c2) c) :
    Calls Tryz.prog 8 #[.slice A n0 c0, .slice B n1 c1, .slice C n2 c2] w fun e w' => e = .returned (.bool true) ∧ Below w.heap.size w w' := by
  have HLA := Lib.hid ha.len
  have HLB := Lib.hid hb.len
  have HLC := Lib.hid hc.len
  have HA := Lib.hid ha
  have HB := Lib.hid hb
  have HC := Lib.hid hc
  clear ha hb hc
  go_enter Tryz.func8, Tryz.ntmps8
  go_wp2_with (go_at_call 9; refine (sane23_any w).mono ?_)
  first | rintro e w1 rfl hb1 | rintro e w1 ⟨rfl, hb1⟩
  have HB1 := Lib.hid hb1
  clear hb1
  by_cases hgn0 : (20 : Int) < (n0 : Int)
  · go_wp2_with fail
    go_ret
    exact ⟨rfl, HB1.out⟩
  by_cases hgn1 : (20 : Int) < (n1 : Int)
  · go_wp2_with fail
    go_ret
    exact ⟨rfl, HB1.out⟩
  by_cases hgn2 : (20 : Int) < (n2 : Int)
  · go_wp2_with fail
    go_ret
    exact ⟨rfl, HB1.out⟩
  by_cases h01 : n0 = n1
  case neg =>
    have hx : ((n0 : Int) != (n1 : Int)) = true := by
      have : ¬ (n0 : Int) = (n1 : Int) := by omega
      simpa using this
    go_wp2_with fail
    all_goals first
      | (exfalso; omega)
      | (go_ret; exact ⟨rfl, HB1.out⟩)
  subst h01
  by_cases h02 : n0 = n2
  case neg =>
    have hx : ((n0 : Int) != (n2 : Int)) = true := by
      have : ¬ (n0 : Int) = (n2 : Int) := by omega
      simpa using this
    go_wp2_with fail
    all_goals first
      | (exfalso; omega)
      | (go_ret; exact ⟨rfl, HB1.out⟩)
  subst h02
  have eab : a.length = b.length := by rw [← HLA.out, ← HLB.out]
  have ebc : b.length = c.length := by rw [← HLB.out, ← HLC.out]
  obtain ⟨p, hp⟩ : ∃ v, belowL a b = v := ⟨_, rfl⟩
  obtain ⟨q, hq⟩ : ∃ v, belowL b a = v := ⟨_, rfl⟩
  obtain ⟨r, hr⟩ : ∃ v, belowL b c = v := ⟨_, rfl⟩
  obtain ⟨s, hs⟩ : ∃ v, belowL a c = v := ⟨_, rfl⟩
  obtain ⟨z1, hz1⟩ : ∃ v, compL a b = v := ⟨_, rfl⟩
  obtain ⟨z2, hz2⟩ : ∃ v, compL b a = v := ⟨_, rfl⟩
  obtain ⟨z3, hz3⟩ : ∃ v, compL b c = v := ⟨_, rfl⟩
  obtain ⟨z4, hz4⟩ : ∃ v, compL a c = v := ⟨_, rfl⟩
  obtain ⟨sm, hsm⟩ : ∃ v, sameL a b = v := ⟨_, rfl⟩
  have f1 : (p && q) = sm := by rw [← hp, ← hq, ← hsm]; exact belowL_anti eab
  have f2 : p = true → r = true → s = true := by rw [← hp, ← hr, ← hs]; exact belowL_trans eab ebc
  have f3 : p = true → z1 ≤ 0 := by rw [← hp, ← hz1]; exact compL_below
  have f4 : z1 = -z2 := by rw [← hz1, ← hz2]; exact compL_neg a b
  have f5 : decide (z1 = 0) = sm := by rw [← hz1, ← hsm]; exact compL_zero eab
  have f6 : z1 = -1 ∨ z1 = 0 ∨ z1 = 1 := by rw [← hz1]; exact compL_range a b
  have f7 : z1 ≤ 0 → z3 ≤ 0 → z4 ≤ 0 := by rw [← hz1, ← hz3, ← hz4]; exact compL_trans eab ebc
  have F := Lib.hid (And.intro f1 (And.intro f2 (And.intro f3 (And.intro f4 (And.intro f5 (And.intro f6 f7))))))
  have K1 := Lib.hid (belW HA.out HB.out eab hp)
  have K2 := Lib.hid (belW HB.out HA.out eab.symm hq)
  have K3 := Lib.hid (belW HB.out HC.out ebc hr)
  have K4 := Lib.hid (belW HA.out HC.out (eab.trans ebc) hs)
  have K5 := Lib.hid (belW HA.out HA.out rfl (belowL_refl a))
  have K6 := Lib.hid (comW HA.out HB.out eab hz1)
  have K7 := Lib.hid (comW HB.out HA.out eab.symm hz2)
  have K8 := Lib.hid (comW HB.out HC.out ebc hz3)
  have K9 := Lib.hid (comW HA.out HC.out (eab.trans ebc) hz4)
  have HSM := Lib.hid hsm
  clear f1 f2 f3 f4 f5 f6 f7 hp hq hr hs hz1 hz2 hz3 hz4 hsm eab ebc
  go_wp2_with (go_at_call 17; refine (K1.out _ HB1.out).mono ?_)
  first | rintro e w2 rfl hst | rintro e w2 ⟨rfl, hst⟩
  have HB2 := Lib.hid (HB1.out.trans (hst.mono HB1.out.size))
  clear hst K1 HB1
  go_wp2_with (go_at_call 17; refine (K2.out _ HB2.out).mono ?_)
  first | rintro e w3 rfl hst | rintro e w3 ⟨rfl, hst⟩
  have HB3 := Lib.hid (HB2.out.trans (hst.mono HB2.out.size))
  clear hst K2 HB2
  go_wp2_with (go_at_call 17; refine (K3.out _ HB3.out).mono ?_)
  first | rintro e w4 rfl hst | rintro e w4 ⟨rfl, hst⟩
  have HB4 := Lib.hid (HB3.out.trans (hst.mono HB3.out.size))
  clear hst K3 HB3
  go_wp2_with (go_at_call 17; refine (K4.out _ HB4.out).mono ?_)
  first | rintro e w5 rfl hst | rintro e w5 ⟨rfl, hst⟩
  have HB5 := Lib.hid (HB4.out.trans (hst.mono HB4.out.size))
  clear hst K4 HB4
  go_wp2_with (go_at_call 17; refine (K5.out _ HB5.out).mono ?_)
  first | rintro e w6 rfl hst | rintro e w6 ⟨rfl, hst⟩
  have HB6 := Lib.hid (HB5.out.trans (hst.mono HB5.out.size))
  clear hst K5 HB5
  go_wp2_with (go_at_call 19; refine (K6.out _ HB6.out).mono ?_)
  first | rintro e w7 rfl hst | rintro e w7 ⟨rfl, hst⟩
  have HB7 := Lib.hid (HB6.out.trans (hst.mono HB6.out.size))
  clear hst K6 HB6
  go_wp2_with (go_at_call 19; refine (K7.out _ HB7.out).mono ?_)
  first | rintro e w8 rfl hst | rintro e w8 ⟨rfl, hst⟩
  have HB8 := Lib.hid (HB7.out.trans (hst.mono HB7.out.size))
  clear hst K7 HB7
  go_wp2_with (go_at_call 19; refine (K8.out _ HB8.out).mono ?_)
  first | rintro e w9 rfl hst | rintro e w9 ⟨rfl, hst⟩
  have HB9 := Lib.hid (HB8.out.trans (hst.mono HB8.out.size))
  clear hst K8 HB8
  go_wp2_with (go_at_call 19; refine (K9.out _ HB9.out).mono ?_)
  first | rintro e w10 rfl hst | rintro e w10 ⟨rfl, hst⟩
  have HB10 := Lib.hid (HB9.out.trans (hst.mono HB9.out.size))
  clear hst K9 HB9
  have KS : Hid (Calls Tryz.prog 16 #[.slice A n0 c0, .slice B n0 c1] w10 fun e w' => e = .returned (.bool sm) ∧ Below w10.heap.size w10 w') := Lib.hid (by
    have h := sameInts23_any A B n0 c0 n0 c1 a b w10 (HA.out.mono iR_mono HB10.out) (HB.out.mono iR_mono HB10.out)
    rwa [HSM.out] at h)
  go_wp2_with (go_at_call 16; refine KS.out.mono ?_)
  first | rintro e w11 rfl hst | rintro e w11 ⟨rfl, hst⟩
  have HB11 := Lib.hid (HB10.out.trans (hst.mono HB10.out.size))
  clear hst KS HB10
  obtain ⟨f1, f2, f3, f4, f5, f6, f7⟩ := F.out
  have hD : 0 < z1 ∨ (z1 ≤ 0 ∧ 0 < z3) ∨ (z1 ≤ 0 ∧ z3 ≤ 0 ∧ z4 ≤ 0) := by omega
  clear f7 F
  rcases f6 with rfl | rfl | rfl
  · obtain rfl : z2 = 1 := by omega
    obtain rfl : false = sm := by simpa using f5
    clear f4 f5
    cases p <;> cases q <;> cases r <;> cases s <;> first
      | (exfalso; simp at f1 f2 f3; done)
      | (clear f1 f2 f3; rcases hD with h | ⟨_, h⟩ | ⟨_, h, h'⟩ <;> first | (exfalso; omega) | (go_wp2_with fail; go_ret; exact ⟨rfl, HB11.out⟩))
  · obtain rfl : z2 = 0 := by omega
    obtain rfl : true = sm := by simpa using f5
    clear f4 f5
    cases p <;> cases q <;> cases r <;> cases s <;> first
      | (exfalso; simp at f1 f2 f3; done)
      | (clear f1 f2 f3; rcases hD with h | ⟨_, h⟩ | ⟨_, h, h'⟩ <;> first | (exfalso; omega) | (go_wp2_with fail; go_ret; exact ⟨rfl, HB11.out⟩))
  · obtain rfl : z2 = -1 := by omega
    obtain rfl : false = sm := by simpa using f5
    clear f4 f5
    cases p <;> cases q <;> cases r <;> cases s <;> first
      | (exfalso; simp at f1 f2 f3; done)
      | (exfalso; have := f3 rfl; omega)
      | (clear f1 f2 f3; rcases hD with h | ⟨_, h⟩ | ⟨_, h, h'⟩ <;> first | (exfalso; omega) | (go_wp2_with fail; go_ret; exact ⟨rfl, HB11.out⟩))

end Go.Proofs.YtkgmonplcdnnbaaGreat
