/- The law DependsFirst returns true. -/
import Derived.Test.YtejjggchjoifoaaDepR5
import Derived.Test.YtejjggchjoifoaaDepR6
namespace Go.Proofs.Ytejjggchjoifoaa
open Go.RowKit

theorem SpW.alloc {w : World} {p : Nat} {sc : Array Value} {W : World} (h : SpW w p sc W) (o : Obj) : SpW w p sc (W.alloc o) := h.below ((Below.refl _ _).alloc (Nat.le_refl _) _)

set_option maxHeartbeats 4000000 in
set_option maxRecDepth 100000 in
theorem first_law (s1 s2 : ByteArray) (i1 i2 : Int) (fA dA : Option Addr) (nf fc nd dc : Nat) (ds : List Dep) (A : Option Addr) (ln c : Nat) (l : List Inst) (w : World)
    (hnf : nf ≤ 9223372036854775807) (hs : SlR 4 depR w (.slice dA nd dc) ds) (hl : SlR 4 instR w (.slice A ln c) l) :
    Calls Try.prog 8 #[.agg #[.string s1, .string s2, .int .i64 i1, .int .i64 i2, .slice fA nf fc, .slice dA nd dc], .slice A ln c] w (Ret (.bool true) w) := by
  have hln : ln ≤ 9223372036854775807 := by have := hl.le; omega
  have hnd : nd ≤ 9223372036854775807 ∧ nd ≤ dc ∧ dc ≤ 9223372036854775807 := by have := hs.le; omega
  obtain ⟨hnd, hndc, hdc⟩ := hnd
  have HN := Lib.hid hs.len
  have HLN := Lib.hid hl.len
  have HS := Lib.hid hs
  have HL := Lib.hid hl
  clear hs hl
  go_enter Try.func8, Try.ntmps8
  go_wp2_with fail
  refine (sane_any _).mono ?_
  rintro e w3 ⟨rfl, hb3⟩
  have hsp : SpW w w.heap.size #[.string s1, .string s2, .int .i64 i1, .int .i64 i2, .slice fA nf fc, .slice dA nd dc] w3 :=
    (SpW.mk ((Below.refl _ _).alloc (Nat.le_refl _) _) (Blk.new _ _ _)).below hb3
  clear hb3
  obtain ⟨p, hp⟩ : ∃ p, p = w.heap.size := ⟨_, rfl⟩
  rw [← hp] at hsp ⊢
  clear hp
  obtain ⟨q0, q1, q2, q3, q4, q5⟩ := hsp.six
  have lp := hsp.bs.lt
  have H3 := Lib.hid hsp
  clear hsp
  go_wp2_with fail
  refine (few_any s1 s2 i1 i2 fA dA nf fc nd dc ds _ hnf (HS.out.mono depR_mono H3.out.old)).mono ?_
  rintro e w4 ⟨rfl, hb4⟩
  have hsp := H3.out.below hb4
  clear q0 q1 q2 q3 q4 q5 lp H3
  obtain ⟨q0, q1, q2, q3, q4, q5⟩ := hsp.six
  have lp := hsp.bs.lt
  have H4 := Lib.hid hsp
  clear hsp hb4
  obtain ⟨fb, hfb⟩ : ∃ fb, fewB nf ds = fb := ⟨_, rfl⟩
  rw [hfb]
  clear hfb
  cases fb
  · go_wp2
    go_ret
    exact ⟨rfl, H4.out.old⟩
  go_wp2_with fail
  refine (fewI_any A ln c l _ (HL.out.mono instR_mono H4.out.old)).mono ?_
  rintro e w' ⟨rfl, rfl⟩
  obtain ⟨fb, hfb⟩ : ∃ fb, fewI l = fb := ⟨_, rfl⟩
  rw [hfb]
  clear hfb
  cases fb
  · go_wp2
    go_ret
    exact ⟨rfl, H4.out.old⟩
  go_wp2_with fail
  refine (Broken_any s1 s2 i1 i2 fA dA nf fc nd dc ds A ln c l _ hnf (HS.out.mono depR_mono H4.out.old) (HL.out.mono instR_mono H4.out.old)).mono ?_
  rintro e w5 ⟨rfl, hb5⟩
  have hsp := H4.out.below hb5
  clear q0 q1 q2 q3 q4 q5 lp H4
  obtain ⟨q0, q1, q2, q3, q4, q5⟩ := hsp.six
  have lp := hsp.bs.lt
  have H5 := Lib.hid hsp
  clear hsp hb5
  have hbd := insts_bd HL.out
  obtain ⟨ok1, ho1⟩ : ∃ b, brokenOk nf ds l = b := ⟨_, rfl⟩
  obtain ⟨ok2, ho2⟩ : ∃ b, (brokenS nf ds l).ok = b := ⟨_, rfl⟩
  cases ok1
  · have hst : brokenS nf ds l = ⟨0, 0, 0, false⟩ := by rw [brokenS, ho1]; rfl
    rw [ho1, hst]
    clear ho1 ho2 hst hbd
    simp only [eno, Bool.false_eq_true, if_false]
    go_wp2
    go_ret
    exact ⟨rfl, H5.out.old⟩
  cases ok2
  · have hst := (broken_no hbd ho1 ho2).1
    rw [ho1, hst]
    clear ho1 ho2 hst hbd
    simp only [eno, if_true]
    go_wp2
    go_ret
    exact ⟨rfl, H5.out.old⟩
  obtain ⟨a, b, k, hst, hfirst⟩ := broken_yes hbd ho1 ho2
  rw [ho1, hst]
  have HFI := Lib.hid hfirst
  have HOD : Hid (∀ d ∈ ds, okDep nf d) := by
    unfold brokenOk at ho1
    rw [Bool.and_eq_true] at ho1
    exact (checkB_ok ho1.1).2.2.2
  have HLEN : Hid (∀ x ∈ l, x.length = nf) := by
    unfold brokenOk at ho1
    rw [Bool.and_eq_true, List.all_eq_true] at ho1
    exact fun x hx => by simpa using ho1.2 x hx
  have hab := hfirst.ab
  have hbl : b < ln := by have := hfirst.bl; have := HLN.out; omega
  have hkl : k < nd := by have := hfirst.kl; have := HN.out; omega
  clear ho1 ho2 hst hbd hfirst
  simp only [eno, if_true]
  obtain ⟨xb, off, x, x1, x2, x3, xA, xn, xc, rfl, hxb, hx, c0, c1, c2, c3, hxs⟩ := inst_at (HL.out.mono instR_mono H5.out.old) (show a < ln by omega)
  obtain ⟨yb, yoff, y, y1, y2, y3, yA, yn, yc, e0, hyb, hy, e1, e2, e3, e4, hys⟩ := inst_at (HL.out.mono instR_mono H5.out.old) hbl
  injection e0 with e0
  injection e0 with e5 e6
  subst e5 e6
  obtain ⟨db, doff, d, nA, nn, nc, s, gA, gn, gc, rfl, hdb, hd, f0, f1, f2, f3, hsrc, _, _⟩ := dep_at (HS.out.mono depR_mono H5.out.old) hkl
  have HXS := Lib.hid hxs
  have HYS := Lib.hid hys
  have HSRC := Lib.hid hsrc
  have HX := Lib.hid hx
  have HY := Lib.hid hy
  have HD := Lib.hid hd
  have HODD := Lib.hid (HOD.out d (List.mem_of_getElem? hd))
  have HXL := Lib.hid (HLEN.out x (List.mem_of_getElem? hx))
  have HYL := Lib.hid (HLEN.out y (List.mem_of_getElem? hy))
  have HBB : Hid (breaksB x y d = true) := by
    have := HFI.out.br d hd
    rw [instAt_of hx, instAt_of hy] at this
    exact this
  clear hxs hys hsrc hx hy hd
  have t1 : decide ((a : Int) < 0) = false := by simp
  have t2 : decide ((b : Int) ≤ (a : Int)) = false := by simp; omega
  have t3 : decide ((ln : Int) ≤ (b : Int)) = false := by simp; omega
  have t4 : decide ((k : Int) < 0) = false := by simp
  have t5 : decide ((nd : Int) ≤ (k : Int)) = false := by simp; omega
  have t2' : decide (b ≤ a) = false := by simp; omega
  have t3' : decide (ln ≤ b) = false := by simp; omega
  have t5' : decide (nd ≤ k) = false := by simp; omega
  have ha0 : (0 : Int) ≤ (a : Int) := by omega
  have ha1 : (a : Int) < (ln : Int) := by omega
  have hb0 : (0 : Int) ≤ (b : Int) := by omega
  have hb1 : (b : Int) < (ln : Int) := by omega
  have hk0 : (0 : Int) ≤ (k : Int) := by omega
  have hk1 : (k : Int) < (nd : Int) := by omega
  go_wp2_with fail
  go_still_tail 38, (by kernel_rfl)
  change wpList _ _ _ _ _ w5.drew
  go_wp2_with fail
  refine (lawBreaks_any _ _ _ _ _ _ _ _ _ _ _ _ _ _ _ _ _ _ _ x y d nf _ (HXS.out.mono intR_mono (Below.refl _ _).drew) (HYS.out.mono intR_mono (Below.refl _ _).drew) (HSRC.out.mono intR_mono (Below.refl _ _).drew) HODD.out HXL.out HYL.out).mono ?_
  rintro e w6 ⟨rfl, hb6⟩
  rw [HBB.out]
  have H6 := Lib.hid (H5.out.drew.below hb6)
  clear hb6 H5 q0 q1 q2 q3 q4 q5 lp c0 c1 c2 c3 e1 e2 e3 e4 f0 f1 f2 f3 HXS HYS HSRC HX HY HD HODD HXL HYL HBB hxb hyb hdb t1 t2 t3 t4 t5 ha0 ha1 hb0 hb1 hk0 hk1
  go_wp2_with fail
  clear t2' t3' t5'
  go_loopg [10] (a + 1) (fun g i wr => ∃ i0 : Nat, i0 ≤ a + 1 ∧ g = a + 1 - i0 ∧ i = .int .i64 i0 ∧ SpW w p #[.string s1, .string s2, .int .i64 i1, .int .i64 i2, .slice fA nf fc, .slice (some ⟨db, doff, none⟩) nd dc] wr)
  case atStart => exact ⟨0, Nat.zero_le _, rfl, rfl, H6.out⟩
  case round =>
    clear H6
    obtain ⟨i, hi, hg, rfl, hsp⟩ := hrel
    have HG := Lib.hid hg
    have H6 := Lib.hid hsp
    clear hg hsp
    by_cases hlt : i ≤ a
    · go_wp2_with fail
      obtain ⟨wi, rfl⟩ : ∃ wi : World, wi = wr := ⟨_, rfl⟩
      go_loopg [11] (ln - (i + 1)) (fun g j wr => ∃ j0 : Nat, i < j0 ∧ j0 ≤ ln ∧ g = ln - j0 ∧ j = .int .i64 j0 ∧ SpW w p #[.string s1, .string s2, .int .i64 i1, .int .i64 i2, .slice fA nf fc, .slice (some ⟨db, doff, none⟩) nd dc] wr)
      case atStart => exact ⟨i + 1, by omega, by omega, rfl, by go_num, H6.out⟩
      case round =>
        clear H6
        obtain ⟨j, hij, hjl, hg2, rfl, hsp⟩ := hrel
        obtain ⟨q0, q1, q2, q3, q4, q5⟩ := hsp.six
        have lp := hsp.bs.lt
        have HG2 := Lib.hid hg2
        have H6 := Lib.hid hsp
        clear hg2 hsp
        by_cases hlt2 : j < ln
        · by_cases hbrk : i = a ∧ b ≤ j
          · obtain ⟨hia, hbj⟩ := hbrk
            have t1 : ((i : Int) == (a : Int)) = true := by rw [hia]; simp
            clear hia
            go_wp2_with fail
            go_roundg (a + 1 - (i + 1))
            case measure => have := HG.out; omega
            case rel => exact ⟨i + 1, by omega, rfl, by go_num, H6.out⟩
          have HLX : Hid (lexLt i j a b) := by show lexLt _ _ _ _; unfold lexLt; omega
          have hwalk : (((i : Int) == (a : Int)) = false) ∨ (((i : Int) == (a : Int)) = true ∧ decide (b ≤ j) = false) := by
            by_cases e : i = a
            · right; exact ⟨by rw [e]; simp, by simp; omega⟩
            · left; rw [beq_eq_false_iff_ne]; omega
          clear hbrk
          rcases hwalk with t1 | ⟨t1, t2⟩
          all_goals
            go_wp2_with fail
            obtain ⟨wj, rfl⟩ : ∃ wj : World, wj = wr := ⟨_, rfl⟩
            clear q0 q1 q2 q3 q4 q5 lp
            go_loopg [120] nd (fun g i wr => ∃ k0 : Nat, k0 ≤ nd ∧ g = nd - k0 ∧ i = .int .i64 k0 ∧ SpW w p #[.string s1, .string s2, .int .i64 i1, .int .i64 i2, .slice fA nf fc, .slice (some ⟨db, doff, none⟩) nd dc] wr)
            case atStart => exact ⟨0, Nat.zero_le _, rfl, rfl, H6.out⟩
            case round =>
              clear H6
              obtain ⟨k', hk, hg3, rfl, hsp⟩ := hrel
              have HG3 := Lib.hid hg3
              have H6 := Lib.hid hsp
              clear hg3 hsp
              by_cases hlt3 : k' < nd
              · obtain ⟨db', doff', d', nA', nn', nc', s', gA', gn', gc', e0, hdb, hd, f0, f1, f2, f3, hsrc, _, _⟩ := dep_at (HS.out.mono depR_mono H6.out.old) hlt3
                injection e0 with e0
                injection e0 with e5 e6
                subst e5 e6
                obtain ⟨xb', off', x, x1', x2', x3', xA', xn', xc', e0, hxb, hx, c0, c1, c2, c3, hxs⟩ := inst_at (HL.out.mono instR_mono H6.out.old) (show i < ln by omega)
                injection e0 with e0
                injection e0 with e5 e6
                subst e5 e6
                obtain ⟨yb, yoff, y, y1', y2', y3', yA', yn', yc', e0, hyb, hy, e1, e2, e3, e4, hys⟩ := inst_at (HL.out.mono instR_mono H6.out.old) hlt2
                injection e0 with e0
                injection e0 with e5 e6
                subst e5 e6
                have HXS := Lib.hid hxs
                have HYS := Lib.hid hys
                have HSRC := Lib.hid hsrc
                have HODD := Lib.hid (HOD.out d' (List.mem_of_getElem? hd))
                have HXL := Lib.hid (HLEN.out x (List.mem_of_getElem? hx))
                have HYL := Lib.hid (HLEN.out y (List.mem_of_getElem? hy))
                have HBB : Hid (breaksB x y d' = false) := by
                  have := HFI.out.before i j hij (by have := HLN.out; omega) HLX.out d' (List.mem_of_getElem? hd)
                  rw [instAt_of hx, instAt_of hy] at this
                  exact this
                clear hxs hys hsrc hx hy hd
                have hi0 : (0 : Int) ≤ (i : Int) := by omega
                have hi1 : (i : Int) < (ln : Int) := by omega
                have hj0 : (0 : Int) ≤ (j : Int) := by omega
                have hj1 : (j : Int) < (ln : Int) := by omega
                go_wp2_with fail
                have hbz : Below wr.heap.size wr (wr.alloc (.cells #[.slice nA' nn' nc', .string s', .slice gA' gn' gc', .int .i64 d'.dst] 29)) := (Below.refl _ _).alloc (Nat.le_refl _) _
                have hblk : Blk (wr.alloc (.cells #[.slice nA' nn' nc', .string s', .slice gA' gn' gc', .int .i64 d'.dst] 29)) wr.heap.size 29 #[.slice nA' nn' nc', .string s', .slice gA' gn' gc', .int .i64 d'.dst] := Blk.new _ _ _
                generalize (wr.alloc (.cells #[.slice nA' nn' nc', .string s', .slice gA' gn' gc', .int .i64 d'.dst] 29)) = wz at hbz hblk ⊢
                obtain ⟨b0, b1, b2, b3⟩ := hblk.four
                have lb := hblk.lt
                rw [← (bcell hbz).1 _ _ hxb] at c0 c1 c2 c3
                rw [← (bcell hbz).1 _ _ hxb] at e1 e2 e3 e4
                have HBZ := Lib.hid hbz
                clear f0 f1 f2 f3 hblk hbz
                go_still_tail 9, (by kernel_rfl)
                change wpList _ _ _ _ _ wz.drew
                go_wp2_with fail
                have hbz := HBZ.out.drew
                refine (lawBreaks_any _ _ _ _ _ _ _ _ _ _ _ _ _ _ _ _ _ _ _ x y d' nf _ (HXS.out.mono intR_mono hbz) (HYS.out.mono intR_mono hbz) (HSRC.out.mono intR_mono hbz) HODD.out HXL.out HYL.out).mono ?_
                rintro e w7 ⟨rfl, hb7⟩
                rw [HBB.out]
                have H7 := Lib.hid ((H6.out.below hbz).below hb7)
                clear hb7 hbz H6 c0 c1 c2 c3 e1 e2 e3 e4 hxb hyb hdb hi0 hi1 hj0 hj1 b0 b1 b2 b3 lb HBZ
                go_wp2_with fail
                go_roundg (nd - (k' + 1))
                case measure => have := HG3.out; omega
                case rel => exact ⟨k' + 1, by omega, rfl, by go_num, H7.out⟩
              · go_wp2_with fail
                go_roundg (ln - (j + 1))
                case measure => have := HG2.out; omega
                case rel => exact ⟨j + 1, by omega, by omega, rfl, by go_num, H6.out⟩
        · clear q0 q1 q2 q3 q4 q5 lp
          go_wp2_with fail
          go_roundg (a + 1 - (i + 1))
          case measure => have := HG.out; omega
          case rel => exact ⟨i + 1, by omega, rfl, by go_num, H6.out⟩
    · obtain ⟨q0, q1, q2, q3, q4, q5⟩ := H6.out.six
      have lp := H6.out.bs.lt
      have hkc : (k : Int) ≤ (dc : Int) := by omega
      go_wp2_with fail
      clear q0 q1 q2 q3 q4 q5 lp hlt hi HG
      obtain ⟨wi, rfl⟩ : ∃ wi : World, wi = wr := ⟨_, rfl⟩
      go_loopg [140] k (fun g i wr => ∃ k0 : Nat, k0 ≤ k ∧ g = k - k0 ∧ i = .int .i64 k0 ∧ SpW w p #[.string s1, .string s2, .int .i64 i1, .int .i64 i2, .slice fA nf fc, .slice (some ⟨db, doff, none⟩) nd dc] wr)
      case atStart => exact ⟨0, Nat.zero_le _, rfl, rfl, H6.out⟩
      case round =>
        clear H6
        obtain ⟨k', hk, hg3, rfl, hsp⟩ := hrel
        have HG3 := Lib.hid hg3
        have H6 := Lib.hid hsp
        clear hg3 hsp
        by_cases hlt3 : k' < k
        · obtain ⟨db', doff', d', nA', nn', nc', s', gA', gn', gc', e0, hdb, hd, f0, f1, f2, f3, hsrc, _, _⟩ := dep_at (HS.out.mono depR_mono H6.out.old) (show k' < nd by omega)
          injection e0 with e0
          injection e0 with e5 e6
          subst e5 e6
          obtain ⟨xb', off', x, x1', x2', x3', xA', xn', xc', e0, hxb, hx, c0, c1, c2, c3, hxs⟩ := inst_at (HL.out.mono instR_mono H6.out.old) (show a < ln by omega)
          injection e0 with e0
          injection e0 with e5 e6
          subst e5 e6
          obtain ⟨yb, yoff, y, y1', y2', y3', yA', yn', yc', e0, hyb, hy, e1, e2, e3, e4, hys⟩ := inst_at (HL.out.mono instR_mono H6.out.old) hbl
          injection e0 with e0
          injection e0 with e5 e6
          subst e5 e6
          have HXS := Lib.hid hxs
          have HYS := Lib.hid hys
          have HSRC := Lib.hid hsrc
          have HODD := Lib.hid (HOD.out d' (List.mem_of_getElem? hd))
          have HXL := Lib.hid (HLEN.out x (List.mem_of_getElem? hx))
          have HYL := Lib.hid (HLEN.out y (List.mem_of_getElem? hy))
          have HBB : Hid (breaksB x y d' = false) := by
            have := HFI.out.least d' (List.mem_of_getElem? (by rw [List.getElem?_take_of_lt hlt3]; exact hd))
            rw [instAt_of hx, instAt_of hy] at this
            exact this
          clear hxs hys hsrc hx hy hd
          have hi0 : (0 : Int) ≤ (a : Int) := by omega
          have hi1 : (a : Int) < (ln : Int) := by omega
          have hj0 : (0 : Int) ≤ (b : Int) := by omega
          have hj1 : (b : Int) < (ln : Int) := by omega
          go_wp2_with fail
          have hbz : Below wr.heap.size wr (wr.alloc (.cells #[.slice nA' nn' nc', .string s', .slice gA' gn' gc', .int .i64 d'.dst] 29)) := (Below.refl _ _).alloc (Nat.le_refl _) _
          have hblk : Blk (wr.alloc (.cells #[.slice nA' nn' nc', .string s', .slice gA' gn' gc', .int .i64 d'.dst] 29)) wr.heap.size 29 #[.slice nA' nn' nc', .string s', .slice gA' gn' gc', .int .i64 d'.dst] := Blk.new _ _ _
          generalize (wr.alloc (.cells #[.slice nA' nn' nc', .string s', .slice gA' gn' gc', .int .i64 d'.dst] 29)) = wz at hbz hblk ⊢
          obtain ⟨b0, b1, b2, b3⟩ := hblk.four
          have lb := hblk.lt
          rw [← (bcell hbz).1 _ _ hxb] at c0 c1 c2 c3
          rw [← (bcell hbz).1 _ _ hxb] at e1 e2 e3 e4
          have HBZ := Lib.hid hbz
          clear f0 f1 f2 f3 hblk hbz
          go_still_tail 9, (by kernel_rfl)
          change wpList _ _ _ _ _ wz.drew
          go_wp2_with fail
          have hbz := HBZ.out.drew
          refine (lawBreaks_any _ _ _ _ _ _ _ _ _ _ _ _ _ _ _ _ _ _ _ x y d' nf _ (HXS.out.mono intR_mono hbz) (HYS.out.mono intR_mono hbz) (HSRC.out.mono intR_mono hbz) HODD.out HXL.out HYL.out).mono ?_
          rintro e w7 ⟨rfl, hb7⟩
          rw [HBB.out]
          have H7 := Lib.hid ((H6.out.below hbz).below hb7)
          clear hb7 hbz H6 c0 c1 c2 c3 e1 e2 e3 e4 hxb hyb hdb hi0 hi1 hj0 hj1 b0 b1 b2 b3 lb HBZ
          go_wp2_with fail
          go_roundg (k - (k' + 1))
          case measure => have := HG3.out; omega
          case rel => exact ⟨k' + 1, by omega, rfl, by go_num, H7.out⟩
        · go_wp2_with fail
          go_ret
          exact ⟨rfl, H6.out.old⟩

end Go.Proofs.Ytejjggchjoifoaa
