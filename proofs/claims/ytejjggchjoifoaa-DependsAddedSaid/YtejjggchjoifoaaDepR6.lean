/- Contract of the reference's Broken: it is Broken's answer. -/
import Derived.Test.YtejjggchjoifoaaDepR4
import Derived.Test.YtejjggchjoifoaaDepR2
import Derived.Test.YtejjggchjoifoaaDepLaw1
import Derived.StillTailTactics
namespace Go.Proofs.Ytejjggchjoifoaa
open Go.RowKit

theorem SpW.drewN {w : World} {p : Nat} {sc : Array Value} {W : World} (h : SpW w p sc W) (n : Nat) : SpW w p sc (W.drewN n) := ⟨below_drewN h.old n, h.bs.drewN n⟩
theorem SpW.drew {w : World} {p : Nat} {sc : Array Value} {W : World} (h : SpW w p sc W) : SpW w p sc W.drew := h.drewN 1

theorem insts_bd {w : World} {v : Value} {l : List Inst} (h : SlR 4 instR w v l) : ∀ x ∈ l, Bd x := by
  intro x hx
  obtain ⟨i, hi, rfl⟩ := List.getElem_of_mem hx
  obtain ⟨A', cap', e, h1, h2, h3⟩ := h
  obtain ⟨b, off, cs, _, _, _, _, a, b, c, A, n, cp, _, h4⟩ := h3 i l[i] (List.getElem?_eq_getElem hi)
  exact ints_bd h4

theorem instAt_of {l : List Inst} {i : Nat} {x : Inst} (h : l[i]? = some x) : instAt l i = x := by
  unfold instAt; rw [List.getD_eq_getElem?_getD, h]; rfl

set_option maxHeartbeats 2000000 in
theorem refBroken_any (s1 s2 : ByteArray) (i1 i2 : Int) (fA dA : Option Addr) (nf fc nd dc : Nat) (ds : List Dep) (A : Option Addr) (ln c : Nat) (l : List Inst) (w : World)
    (hnf : nf ≤ 9223372036854775807) (hs : SlR 4 depR w (.slice dA nd dc) ds) (hl : SlR 4 instR w (.slice A ln c) l) :
    Calls Try.prog 21 #[.agg #[.string s1, .string s2, .int .i64 i1, .int .i64 i2, .slice fA nf fc, .slice dA nd dc], .slice A ln c] w (RetBroken (brokenS nf ds l) (brokenOk nf ds l) w) := by
  have hln : ln ≤ 9223372036854775807 := by have := hl.le; omega
  have hnd : nd ≤ 9223372036854775807 := by have := hs.le; omega
  have HN := Lib.hid hs.len
  have HLN := Lib.hid hl.len
  have HS := Lib.hid hs
  have HL := Lib.hid hl
  have HBD := Lib.hid (insts_bd hl)
  clear hs hl
  go_enter Try.func21, Try.ntmps21
  go_wp2_with fail
  refine (refCheck_any s1 s2 i1 i2 fA dA nf fc nd dc ds _ hnf (HS.out.mono depR_mono ((Below.refl _ _).alloc (Nat.le_refl _) _))).mono ?_
  rintro e w1 ⟨rfl, hb1⟩
  have hsp : SpW w w.heap.size #[.string s1, .string s2, .int .i64 i1, .int .i64 i2, .slice fA nf fc, .slice dA nd dc] w1 :=
    (SpW.mk ((Below.refl _ _).alloc (Nat.le_refl _) _) (Blk.new _ _ _)).below hb1
  clear hb1
  obtain ⟨p, hp⟩ : ∃ p, p = w.heap.size := ⟨_, rfl⟩
  rw [← hp] at hsp ⊢
  clear hp
  have H1 := Lib.hid hsp
  clear hsp
  obtain ⟨cb, hcb⟩ : ∃ cb, checkB nf ds = cb := ⟨_, rfl⟩
  rw [hcb]
  have HCB := Lib.hid hcb
  clear hcb
  cases cb
  · have HB : Hid (brokenOk nf ds l = false) := by show _ = _; simp [brokenOk, HCB.out]
    simp only [eno]
    go_wp2
    refine bodyPost_ret (v := .tuple #[.int .i64 0, .int .i64 0, .int .i64 0, .bool false, .int .i64 130]) (by simp [results, Try.results21, go_sem]) rfl ?_
    refine ⟨?_, H1.out.old⟩
    rw [brokenS, HB.out]; rfl
  obtain ⟨k1, k2, k3, k4⟩ := checkB_ok HCB.out
  have HK4 := Lib.hid k4
  clear k4
  simp only [eno, if_true]
  go_wp2_with fail
  go_loopg [10] ln (fun g i wr => ∃ k : Nat, k ≤ ln ∧ g = ln - k ∧ i = .int .i64 k ∧ SpW w p #[.string s1, .string s2, .int .i64 i1, .int .i64 i2, .slice fA nf fc, .slice dA nd dc] wr ∧ (l.take k).all (fun x => x.length == nf) = true)
  case atStart => exact ⟨0, Nat.zero_le _, rfl, rfl, H1.out, rfl⟩
  case round =>
    clear H1
    obtain ⟨k, hk, hg, rfl, hsp, hv⟩ := hrel
    obtain ⟨q0, q1, q2, q3, q4, q5⟩ := hsp.six
    have lp := hsp.bs.lt
    have HV := Lib.hid hv
    have HG := Lib.hid hg
    have H1 := Lib.hid hsp
    clear hv hg hsp
    by_cases hlt : k < ln
    · obtain ⟨b, off, x, j1, j2, j3, vA, vn, vc, rfl, hbl, hx, c0, c1, c2, c3, hxs⟩ := inst_at (HL.out.mono instR_mono H1.out.old) hlt
      have hvn2 : vn ≤ 9223372036854775807 := by have := hxs.le; omega
      have HX := Lib.hid hx
      have HVN := Lib.hid hxs.len
      clear hx hxs
      have hkn : (k : Int) < (ln : Int) := by omega
      have hk0 : (0 : Int) ≤ (k : Int) := by omega
      by_cases he : vn = nf
      · have t1 : ((vn : Int) != (nf : Int)) = false := by rw [he]; simp
        have HE := Lib.hid he
        clear he
        go_wp2_with fail
        go_quiet (fail)
        go_wp2_with fail
        go_roundg (ln - (k + 1))
        case measure => have := HG.out; omega
        case rel => exact ⟨k + 1, by omega, rfl, by go_num, H1.out.drewN _, by rw [take_snoc HX.out, List.all_append, HV.out]; have := HVN.out; have := HE.out; simp; omega⟩
      · have t1 : ((vn : Int) != (nf : Int)) = true := by rw [bne_iff_ne]; omega
        have HB : Hid (brokenOk nf ds l = false) := by
          show _ = _
          have : l.all (fun x => x.length == nf) = false := by
            rw [List.all_eq_false]
            exact ⟨x, List.mem_of_getElem? HX.out, by have := HVN.out; simp; omega⟩
          simp [brokenOk, this]
        clear he
        go_wp2_with fail
        go_quiet (fail)
        go_wp2_with fail
        refine bodyPost_ret (v := .tuple #[.int .i64 0, .int .i64 0, .int .i64 0, .bool false, .int .i64 130]) (by simp [results, Try.results21, go_sem]) rfl ?_
        refine ⟨?_, below_drewN H1.out.old _⟩
        rw [brokenS, HB.out]; rfl
    · have HOK : Hid (brokenOk nf ds l = true) := by
        have h1 := HV.out
        rw [List.take_of_length_le (by have := HLN.out; omega)] at h1
        show _ = _
        simp only [brokenOk, HCB.out, h1, Bool.and_self]
      have HLEN : Hid (∀ x ∈ l, x.length = nf) := by
        have h1 := HV.out
        rw [List.take_of_length_le (by have := HLN.out; omega), List.all_eq_true] at h1
        exact fun x hx => by simpa using h1 x hx
      clear HV HG
      go_wp2_with fail
      clear hlt hk
      obtain ⟨wo, rfl⟩ : ∃ wo : World, wo = wr := ⟨_, rfl⟩
      clear q0 q1 q2 q3 q4 q5 lp
      go_loopg [11] ln (fun g i wr => ∃ a : Nat, a ≤ ln ∧ g = ln - a ∧ i = .int .i64 a ∧ SpW w p #[.string s1, .string s2, .int .i64 i1, .int .i64 i2, .slice fA nf fc, .slice dA nd dc] wr ∧ ∀ a' b' : Nat, a' < a → a' < b' → b' < ln → ∀ d ∈ ds, breaksB (instAt l a') (instAt l b') d = false)
      case atStart => exact ⟨0, Nat.zero_le _, rfl, rfl, H1.out, fun a' b' h => by omega⟩
      case round =>
        clear H1
        obtain ⟨a, ha, hg, rfl, hsp, hno⟩ := hrel
        have HNO := Lib.hid hno
        have HG := Lib.hid hg
        have H1 := Lib.hid hsp
        clear hno hg hsp
        by_cases hlt : a < ln
        · go_wp2_with fail
          obtain ⟨wi, rfl⟩ : ∃ wi : World, wi = wr := ⟨_, rfl⟩
          go_loopg [12] (ln - (a + 1)) (fun g i wr => ∃ b : Nat, a < b ∧ b ≤ ln ∧ g = ln - b ∧ i = .int .i64 b ∧ SpW w p #[.string s1, .string s2, .int .i64 i1, .int .i64 i2, .slice fA nf fc, .slice dA nd dc] wr ∧ ∀ b' : Nat, a < b' → b' < b → ∀ d ∈ ds, breaksB (instAt l a) (instAt l b') d = false)
          case atStart => exact ⟨a + 1, by omega, by omega, rfl, by go_num, H1.out, fun b' h1 h2 => by omega⟩
          case round =>
            clear H1
            obtain ⟨b, hab, hbl, hg2, rfl, hsp, hno2⟩ := hrel
            have HNO2 := Lib.hid hno2
            have HG2 := Lib.hid hg2
            have H1 := Lib.hid hsp
            clear hno2 hg2 hsp
            by_cases hlt2 : b < ln
            · go_wp2_with fail
              obtain ⟨wj, rfl⟩ : ∃ wj : World, wj = wr := ⟨_, rfl⟩
              go_loopg [13] nd (fun g i wr => ∃ k : Nat, k ≤ nd ∧ g = nd - k ∧ i = .int .i64 k ∧ SpW w p #[.string s1, .string s2, .int .i64 i1, .int .i64 i2, .slice fA nf fc, .slice dA nd dc] wr ∧ ∀ d ∈ ds.take k, breaksB (instAt l a) (instAt l b) d = false)
              case atStart => exact ⟨0, Nat.zero_le _, rfl, rfl, H1.out, by simp⟩
              case round =>
                clear H1
                obtain ⟨k, hk, hg3, rfl, hsp, hno3⟩ := hrel
                obtain ⟨q0, q1, q2, q3, q4, q5⟩ := hsp.six
                have lp := hsp.bs.lt
                have HNO3 := Lib.hid hno3
                have HG3 := Lib.hid hg3
                have H1 := Lib.hid hsp
                clear hno3 hg3 hsp
                by_cases hlt3 : k < nd
                · obtain ⟨xb, off, x, x1, x2, x3, xA, xn, xc, rfl, hxb, hx, c0, c1, c2, c3, hxs⟩ := inst_at (HL.out.mono instR_mono H1.out.old) hlt
                  obtain ⟨yb, yoff, y, y1, y2, y3, yA, yn, yc, e0, hyb, hy, e1, e2, e3, e4, hys⟩ := inst_at (HL.out.mono instR_mono H1.out.old) hlt2
                  injection e0 with e0
                  injection e0 with e5 e6
                  subst e5 e6
                  obtain ⟨db, doff, d, nA, nn, nc, s, gA, gn, gc, rfl, hdb, hd, f0, f1, f2, f3, hsrc, _, _⟩ := dep_at (HS.out.mono depR_mono H1.out.old) hlt3
                  have HXS := Lib.hid hxs
                  have HYS := Lib.hid hys
                  have HSRC := Lib.hid hsrc
                  have HX := Lib.hid hx
                  have HY := Lib.hid hy
                  have HD := Lib.hid hd
                  have HOD := Lib.hid (HK4.out d (List.mem_of_getElem? hd))
                  have HXL := Lib.hid (HLEN.out x (List.mem_of_getElem? hx))
                  have HYL := Lib.hid (HLEN.out y (List.mem_of_getElem? hy))
                  clear hxs hys hsrc hx hy hd
                  obtain ⟨bb, hbb⟩ : ∃ bb, breaksB x y d = bb := ⟨_, rfl⟩
                  have HBB : Hid (breaksB (instAt l a) (instAt l b) d = bb) := by show _ = _; rw [instAt_of HX.out, instAt_of HY.out]; exact hbb
                  have HB2 := Lib.hid hbb
                  clear hbb
                  have ha0 : (0 : Int) ≤ (a : Int) := by omega
                  have ha1 : (a : Int) < (ln : Int) := by omega
                  have hb0 : (0 : Int) ≤ (b : Int) := by omega
                  have hb1 : (b : Int) < (ln : Int) := by omega
                  have hk0 : (0 : Int) ≤ (k : Int) := by omega
                  have hk1 : (k : Int) < (nd : Int) := by omega
                  go_wp2_with fail
                  go_still_tail 13, (by kernel_rfl)
                  change wpList _ _ _ _ _ wr.drew
                  go_wp2_with fail
                  refine (refBreaks_any _ _ _ _ _ _ _ _ _ _ _ _ _ _ _ _ _ _ _ x y d nf _ (HXS.out.mono intR_mono (Below.refl _ _).drew) (HYS.out.mono intR_mono (Below.refl _ _).drew) (HSRC.out.mono intR_mono (Below.refl _ _).drew) HOD.out HXL.out HYL.out).mono ?_
                  rintro e w2 ⟨rfl, hb2⟩
                  have hsp := H1.out.drew.below hb2
                  rw [HB2.out]
                  have H2 := Lib.hid hsp
                  clear hsp hb2 H1 q0 q1 q2 q3 q4 q5 lp c0 c1 c2 c3 e1 e2 e3 e4 f0 f1 f2 f3
                  cases bb
                  · go_wp2_with fail
                    go_roundg (nd - (k + 1))
                    case measure => have := HG3.out; omega
                    case rel =>
                      refine ⟨k + 1, by omega, rfl, by go_num, H2.out, ?_⟩
                      rw [take_snoc HD.out]
                      intro d' hd'
                      rcases List.mem_append.1 hd' with h | h
                      · exact HNO3.out d' h
                      · rw [List.mem_singleton.1 h]; exact HBB.out
                  · go_wp2_with fail
                    refine bodyPost_ret (v := .tuple #[.int .i64 a, .int .i64 b, .int .i64 k, .bool true, .int .i64 0]) (by simp [results, Try.results21, go_sem]) rfl ?_
                    refine ⟨?_, H2.out.old⟩
                    have hfirst : IsFirst ds l a b k :=
                      { ab := hab
                        bl := by have := HLN.out; omega
                        kl := by have := HN.out; omega
                        br := fun d' hd' => by rw [HD.out, Option.some.injEq] at hd'; rw [← hd']; exact HBB.out
                        before := fun a' b' h1 h2 h3 d' hd' => by
                          have h4 := HLN.out
                          unfold lexLt at h3
                          rcases Nat.lt_or_ge a' a with h5 | h5
                          · exact HNO.out a' b' h5 h1 (by omega) d' hd'
                          · have e : a' = a := by omega
                            subst e
                            exact HNO2.out b' h1 (by omega) d' hd'
                        least := HNO3.out }
                    rw [broken_first HBD.out HOK.out hfirst, HOK.out]; rfl
                · have HNK : Hid (∀ d ∈ ds, breaksB (instAt l a) (instAt l b) d = false) := by
                    have h1 := HNO3.out
                    rw [List.take_of_length_le (by have := HN.out; omega)] at h1
                    exact h1
                  go_wp2_with fail
                  go_roundg (ln - (b + 1))
                  case measure => have := HG2.out; omega
                  case rel =>
                    refine ⟨b + 1, by omega, by omega, rfl, by go_num, H1.out, fun b' h1 h2 d' hd' => ?_⟩
                    rcases Nat.lt_or_ge b' b with h3 | h3
                    · exact HNO2.out b' h1 h3 d' hd'
                    · have e : b' = b := by omega
                      subst e
                      exact HNK.out d' hd'
            · go_wp2_with fail
              go_roundg (ln - (a + 1))
              case measure => have := HG.out; omega
              case rel =>
                refine ⟨a + 1, by omega, rfl, by go_num, H1.out, fun a' b' h1 h2 h3 d' hd' => ?_⟩
                rcases Nat.lt_or_ge a' a with h4 | h4
                · exact HNO.out a' b' h4 h2 h3 d' hd'
                · have e : a' = a := by omega
                  subst e
                  exact HNO2.out b' h2 (by omega) d' hd'
        · go_wp2_with fail
          refine bodyPost_ret (v := .tuple #[.int .i64 0, .int .i64 0, .int .i64 0, .bool false, .int .i64 0]) (by simp [results, Try.results21, go_sem]) rfl ?_
          refine ⟨?_, H1.out.old⟩
          rw [broken_none HBD.out HOK.out (fun a' b' h1 h2 => HNO.out a' b' (by have := HLN.out; omega) h1 (by have := HLN.out; omega)), HOK.out]; rfl

end Go.Proofs.Ytejjggchjoifoaa
