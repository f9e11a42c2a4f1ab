/- The law NamesScales: it answers true. -/
import Derived.Test.YtkkkephjljiplaaNmScP
import Derived.Test.YtkkkephjljiplaaNmSane
import Derived.Test.YtkkkephjljiplaaNmFew
namespace Go.Proofs.Ytkkkephjljiplaa
open Go.RowKit

set_option maxHeartbeats 4000000 in
set_option maxRecDepth 100000 in
theorem scales_any (A1 A2 A3 A4 A5 A6 : Option Addr) (n1 c1 n2 c2 n3 c3 n4 c4 n5 c5 n6 c6 : Nat) (s : QSource) (w : World)
    (h1 : SlB 1 16 strR w (.slice A1 n1 c1) s.issuers) (h2 : SlB 5 56 qUnitR w (.slice A2 n2 c2) s.units) (h3 : SlB 6 96 qSchemaR w (.slice A3 n3 c3) s.schemas) (h4 : SlB 5 96 qRuleR w (.slice A4 n4 c4) s.rules) (h5 : SlB 5 72 qConvertR w (.slice A5 n5 c5) s.converts) (h6 : SlB 3 48 qPurposeR w (.slice A6 n6 c6) s.purposes) :
    Calls Try.prog 6 #[.agg #[.slice A1 n1 c1, .slice A2 n2 c2, .slice A3 n3 c3, .slice A4 n4 c4, .slice A5 n5 c5, .slice A6 n6 c6]] w fun e w' => e = .returned (.bool true) ∧ Below w.heap.size w w' := by
  have H1 := Lib.hid h1
  have H2 := Lib.hid h2
  have H3 := Lib.hid h3
  have H4 := Lib.hid h4
  have H5 := Lib.hid h5
  have H6 := Lib.hid h6
  clear h1 h2 h3 h4 h5 h6
  go_enter Try.func6, Try.ntmps6
  go_upto_region 1 with fail
  have hk : Blk (w.alloc (.cells #[.slice A1 n1 c1, .slice A2 n2 c2, .slice A3 n3 c3, .slice A4 n4 c4, .slice A5 n5 c5, .slice A6 n6 c6] 29)) w.heap.size 29 #[.slice A1 n1 c1, .slice A2 n2 c2, .slice A3 n3 c3, .slice A4 n4 c4, .slice A5 n5 c5, .slice A6 n6 c6] := Blk.new _ _ _
  have hb : Below w.heap.size w (w.alloc (.cells #[.slice A1 n1 c1, .slice A2 n2 c2, .slice A3 n3 c3, .slice A4 n4 c4, .slice A5 n5 c5, .slice A6 n6 c6] 29)) := (Below.refl _ _).alloc (Nat.le_refl _) _
  obtain ⟨g, hg⟩ : ∃ g, g = w.heap.size := ⟨_, rfl⟩
  rw [← hg] at hk ⊢
  generalize w.alloc (.cells #[.slice A1 n1 c1, .slice A2 n2 c2, .slice A3 n3 c3, .slice A4 n4 c4, .slice A5 n5 c5, .slice A6 n6 c6] 29) = wb at hk hb ⊢
  have HK := Lib.hid hk
  have HB := Lib.hid hb
  clear hk hb hg
  go_wp2_with fail
  refine (sane_any wb).mono ?_
  rintro e w1 ⟨rfl, hb1⟩
  have hk1 := HK.out.below hb1 HK.out.lt
  have k0 := hk1.cell 0
  have k1 := hk1.cell 1
  have k2 := hk1.cell 2
  have k3 := hk1.cell 3
  have k4 := hk1.cell 4
  have k5 := hk1.cell 5
  simp only [List.getElem?_toArray, List.getElem?_cons_zero, List.getElem?_cons_succ] at k0 k1 k2 k3 k4 k5
  have HK1 := Lib.hid hk1
  have HB1 := Lib.hid (HB.out.trans (hb1.mono HB.out.size))
  clear hk1 hb1 HK HB
  go_wp2_with fail
  refine (few_any A1 A2 A3 A4 A5 A6 n1 c1 n2 c2 n3 c3 n4 c4 n5 c5 n6 c6 s w1 (H3.out.1.mono qSchemaR_mono HB1.out) (H4.out.1.mono qRuleR_mono HB1.out) (H5.out.1.mono qConvertR_mono HB1.out) (H6.out.1.mono qPurposeR_mono HB1.out)).mono ?_
  rintro e w2 ⟨⟨b, rfl⟩, hb2⟩
  clear k0 k1 k2 k3 k4 k5
  have hk2 := HK1.out.below hb2 HK1.out.lt
  have HB2 := Lib.hid (HB1.out.trans (hb2.mono HB1.out.size))
  clear hb2 HB1 HK1
  cases b with
  | false =>
    go_wp2_with fail
    go_ret
    exact ⟨rfl, HB2.out⟩
  | true =>
    have k0 := hk2.cell 0
    have k1 := hk2.cell 1
    have k2 := hk2.cell 2
    have k3 := hk2.cell 3
    have k4 := hk2.cell 4
    have k5 := hk2.cell 5
    simp only [List.getElem?_toArray, List.getElem?_cons_zero, List.getElem?_cons_succ] at k0 k1 k2 k3 k4 k5
    clear hk2
    go_wp2_with fail
    refine (resolve_any A1 A2 A3 A4 A5 A6 n1 c1 n2 c2 n3 c3 n4 c4 n5 c5 n6 c6 s w2 (H1.out.mono strR_mono HB2.out) (H2.out.mono qUnitR_mono HB2.out) (H3.out.mono qSchemaR_mono HB2.out) (H4.out.mono qRuleR_mono HB2.out) (H5.out.mono qConvertR_mono HB2.out) (H6.out.mono qPurposeR_mono HB2.out)).mono ?_
    rintro e w3 ⟨cs, rfl, ⟨X1, p1, q1, X2, p2, q2, X3, p3, q3, X4, p4, q4, X5, p5, q5, X6, p6, q6, rfl, _, g2, _⟩, hb3⟩
    have HB3 := Lib.hid (HB2.out.trans (hb3.mono HB2.out.size))
    have HG2 := Lib.hid g2.1
    clear k0 k1 k2 k3 k4 k5 hb3 g2 HB2
    have hal : Below w3.heap.size w3 (w3.alloc (.cells #[.slice X1 p1 q1, .slice X2 p2 q2, .slice X3 p3 q3, .slice X4 p4 q4, .slice X5 p5 q5, .slice X6 p6 q6] 29)) := (Below.refl _ _).alloc (Nat.le_refl _) _
    have HB4 := Lib.hid (HB3.out.trans (hal.mono HB3.out.size))
    rcases resolve_cases s with hres | hres | ⟨htw, x, hnum, hres⟩
    · rw [hres] at HG2 ⊢
      clear hres HG2
      go_wp2_with fail
      go_ret
      exact ⟨rfl, HB4.out⟩
    · rw [hres] at HG2 ⊢
      clear hres HG2
      go_wp2_with fail
      go_ret
      exact ⟨rfl, HB4.out⟩
    · rw [hres] at HG2 ⊢
      have hups := numP_units hnum
      have hon := once_units htw
      go_upto_region 8 with fail
      have hk4 : Blk (w3.alloc (.cells #[.slice X1 p1 q1, .slice X2 p2 q2, .slice X3 p3 q3, .slice X4 p4 q4, .slice X5 p5 q5, .slice X6 p6 q6] 29)) w3.heap.size 29 #[.slice X1 p1 q1, .slice X2 p2 q2, .slice X3 p3 q3, .slice X4 p4 q4, .slice X5 p5 q5, .slice X6 p6 q6] := Blk.new _ _ _
      have hu4 := HG2.out.mono qUnitR_mono hal
      obtain ⟨gx, hgx⟩ : ∃ g, g = w3.heap.size := ⟨_, rfl⟩
      rw [← hgx] at hk4 ⊢
      generalize w3.alloc (.cells #[.slice X1 p1 q1, .slice X2 p2 q2, .slice X3 p3 q3, .slice X4 p4 q4, .slice X5 p5 q5, .slice X6 p6 q6] 29) = w4 at hk4 hu4 HB4 ⊢
      have lx := hk4.lt
      have hx1 := hk4.cell 1
      simp only [List.getElem?_toArray, List.getElem?_cons_zero, List.getElem?_cons_succ] at hx1
      have hp2 : p2 ≤ 9223372036854775807 := by have := hu4.le; omega
      have HLP := Lib.hid hu4.len
      have HU := Lib.hid hu4
      have HX1 := Lib.hid hx1
      have hok := unitsTo_ok (Nat.le_refl _) hups
      have hsc := unitsTo_sc hups
      have hnm : ∀ (i : Nat) (u : QUnit), x.units[i]? = some u → (unitNames s)[i]? = some u.name := fun i u hi => by
        obtain ⟨u0, h0, hn⟩ := (hok i u hi).1
        unfold unitNames
        rw [List.getElem?_map, h0, hn]; rfl
      have HOK := Lib.hid hok
      have HSC := Lib.hid hsc
      have HNM := Lib.hid hnm
      have HON := Lib.hid hon
      clear hk4 hu4 hx1 hok hsc hnm hon hups hnum htw hres hal HG2 hgx HB3
      go_wp2_with fail
      go_loopg [5] p2 (fun q i wr => ∃ k : Nat, k ≤ p2 ∧ q = p2 - k ∧ i = .int .i64 k ∧ Below w4.heap.size w4 wr)
      case atStart => exact ⟨0, Nat.zero_le _, rfl, rfl, Below.refl _ _⟩
      case round =>
        obtain ⟨k, hk, hq, rfl, hb⟩ := hrel
        have HQ := Lib.hid hq
        have HBR := Lib.hid hb
        have kx := (hb.cell (p := ⟨gx, 1, none⟩) lx).trans HX1.out
        have lxr := Nat.lt_of_lt_of_le lx hb.size
        clear hq hb
        by_cases hlt : k < p2
        · obtain ⟨ui, hui⟩ : ∃ u, x.units[k]? = some u := ⟨x.units[k]'(by have := HLP.out; omega), List.getElem?_eq_getElem _⟩
          have HUI := Lib.hid hui
          have hkn : (k : Int) < (p2 : Int) := by omega
          have hk0 : (0 : Int) ≤ (k : Int) := by omega
          obtain ⟨wy, rfl⟩ : ∃ x, x = wr := ⟨_, rfl⟩
          clear hui
          go_wp2_with fail
          clear kx
          go_loopg [6, 7, 8, 9] p2 (fun q at_ pr gd st wr => ∃ (a t : Nat) (p : Int) (good : Bool) (ua : QUnit), at_ = .int .i64 a ∧ pr = .int .i64 p ∧ gd = .bool good ∧ st = .int .i64 t ∧ a + t ≤ k ∧ q = p2 - t ∧ x.units[a]? = some ua ∧ ui.base = ua.base ∧ Way ui.scale good p ua.scale ∧ Below wy.heap.size wy wr)
          case atStart =>
            have hs := HSC.out ui (List.mem_of_getElem? HUI.out)
            exact ⟨k, 0, 1, true, ui, rfl, rfl, rfl, rfl, by omega, rfl, HUI.out, rfl, way_start hs.1 hs.2, Below.refl _ _⟩
          case round =>
            obtain ⟨a, t, p, good, ua, rfl, rfl, rfl, rfl, hat, hq', hua, hbase, hway, hb'⟩ := hrel
            have HQ' := Lib.hid hq'
            have HBR' := Lib.hid (HBR.out.trans (hb'.mono HBR.out.size))
            have HB2' := Lib.hid hb'
            have HUA := Lib.hid hua
            have HBASE := Lib.hid hbase
            have HWAY := Lib.hid hway
            have kx := (HBR'.out.cell (p := ⟨gx, 1, none⟩) lx).trans HX1.out
            have hap : a < p2 := by omega
            have htp : (t : Int) < (p2 : Int) := by omega
            have ht0 : (0 : Int) ≤ (t : Int) := by omega
            obtain ⟨ub, uo, ua', rfl, hul, hua', e0, e1, e2, e3, e4⟩ := qUnit_at (HU.out.mono qUnitR_mono HBR'.out) hap
            have eua : ua' = ua := by rw [hua] at hua'; exact (Option.some.inj hua').symm
            subst eua
            have han : (a : Int) < (p2 : Int) := by omega
            have ha0 : (0 : Int) ≤ (a : Int) := by omega
            clear hq' hb' hua hbase hway hua'
            by_cases hof : ua'.of_ = noStr
            · have t1 : ua'.of_.toList.isEmpty = true := by rw [hof, noStr_list]; rfl
              have t2 : ua'.of_.toList = [] := by rw [hof, noStr_list]
              obtain ⟨_, _, ui', eb, _, hui', f0, f1, f2, f3, f4⟩ := qUnit_at (HU.out.mono qUnitR_mono HBR'.out) hlt
              have eui : ui' = ui := by have := HUI.out; rw [this] at hui'; exact (Option.some.inj hui').symm
              subst eui
              injection eb with eb
              injection eb with eb1 eb2
              subst eb1 eb2
              have hend : ua'.base = (a : Int) ∧ ua'.scale = 1 := by
                rcases (HOK.out a ua' HUA.out).2 with h | h
                · exact h.2
                · exact absurd hof h.1
              have hb1 : ui'.base = (a : Int) := HBASE.out.trans hend.1
              have hw := HWAY.out
              rw [hend.2] at hw
              have hsi := way_end hw
              clear hui' hof hend hw e0 e2 e3 e4 f0 f1 f2
              rw [hb1] at f3
              clear hb1
              cases good with
              | true =>
                rw [if_pos rfl] at hsi
                rw [hsi] at f4
                clear hsi
                go_wp2_with fail
                go_roundg (p2 - (k + 1))
                case measure => have := HQ.out; omega
                case rel => exact ⟨k + 1, by omega, rfl, by go_num, HBR'.out⟩
              | false =>
                rw [if_neg (by simp)] at hsi
                rw [hsi] at f4
                clear hsi
                go_wp2_with fail
                go_roundg (p2 - (k + 1))
                case measure => have := HQ.out; omega
                case rel => exact ⟨k + 1, by omega, rfl, by go_num, HBR'.out⟩
            · have t1 : ua'.of_.toList.isEmpty = false := noStr_ne hof
              have t2 : ¬ ua'.of_.toList = [] := by intro e; rw [e] at t1; cases t1
              obtain ⟨n, b, hin, hna, hb, hbb, hscale⟩ : ∃ n b, idx (unitNames s) ua'.of_ = some n ∧ n < a ∧ x.units[n]? = some b ∧ ua'.base = b.base ∧ ua'.scale = scaleOf ua' b := by
                rcases (HOK.out a ua' HUA.out).2 with h | h
                · exact absurd h.1 hof
                · exact h.2
              have hstep := way_step HWAY.out hscale (HSC.out b (List.mem_of_getElem? hb)).1
              have HIN := Lib.hid (idx_at hin)
              have HBN := Lib.hid hb
              have HBB := Lib.hid (HBASE.out.trans hbb)
              have hp1 := HWAY.out.1
              have hp2' := HWAY.out.2.1
              have hmul : 2 ≤ ua'.factor → ua'.factor ≤ 1000 → IntKind.i64.wrap (ua'.factor * p) = ua'.factor * p := fun h2 h3 => by
                have h5 : ua'.factor * p ≤ 1000 * 1099511627776 := Int.mul_le_mul h3 hp2' (by omega) (by omega)
                have h6 : 0 ≤ ua'.factor * p := Int.mul_nonneg (by omega) (by omega)
                exact IntWalk.i64_in _ (by omega)
              have HST := Lib.hid hstep
              have HMUL := Lib.hid hmul
              clear hin hb hbb hscale hstep hof hmul e0 e3 e4 hp1 hp2'
              by_cases hall : good = true ∧ 2 ≤ ua'.factor ∧ ua'.factor ≤ 1000 ∧ ua'.factor * p ≤ 1099511627776
              · have HW := Lib.hid (HST.out.1 hall)
                obtain ⟨rfl, g2, g3, g4⟩ := hall
                have gm := HMUL.out g2 g3
                have d2 : decide ((2 : Int) ≤ ua'.factor) = true := by simpa using g2
                have d3 : decide (ua'.factor ≤ (1000 : Int)) = true := by simpa using g3
                have d4 : decide (ua'.factor * p ≤ (1099511627776 : Int)) = true := by simpa using g4
                clear HST HMUL
                go_upto_region 19 with fail
                clear d2 d3 d4 gm g2 g3 g4
                generalize ua'.factor * p = p' at HW ⊢
                go_wp2_with fail
                obtain ⟨wv, rfl⟩ : ∃ x, x = wr := ⟨_, rfl⟩
                clear kx e1 e2
                go_loopg [11, 12] a (fun q nx kk wr => ∃ k3 : Nat, k3 ≤ a ∧ q = a - k3 ∧ kk = .int .i64 k3 ∧ nx = .int .i64 (if n < k3 then (n : Int) else -1) ∧ Below w4.heap.size w4 wr ∧ Below wy.heap.size wy wr)
                case atStart => exact ⟨0, Nat.zero_le _, rfl, rfl, by rw [if_neg (by omega)], HBR'.out, HB2'.out⟩
                case round =>
                  clear HBR' HB2'
                  obtain ⟨k3, hk3, hq3, rfl, rfl, hb3, hb3y⟩ := hrel
                  have HQ3 := Lib.hid hq3
                  have HBR3 := Lib.hid hb3
                  have HBY3 := Lib.hid hb3y
                  have kx := (hb3.cell (p := ⟨gx, 1, none⟩) lx).trans HX1.out
                  clear hq3 hb3 hb3y
                  by_cases hlt3 : k3 < a
                  · obtain ⟨_, _, uk, eb, hul3, huk, e0, _, _, _, _⟩ := qUnit_at (HU.out.mono qUnitR_mono HBR3.out) (show k3 < p2 by omega)
                    injection eb with eb
                    injection eb with eb1 eb2
                    subst eb1 eb2
                    obtain ⟨_, _, ua2, eb, _, hua2, _, e1, _, _, _⟩ := qUnit_at (HU.out.mono qUnitR_mono HBR3.out) hap
                    injection eb with eb
                    injection eb with eb1 eb2
                    subst eb1 eb2
                    have eua2 : ua2 = ua' := by have := HUA.out; rw [this] at hua2; exact (Option.some.inj hua2).symm
                    subst eua2
                    have h3n : (k3 : Int) < (p2 : Int) := by omega
                    have h30 : (0 : Int) ≤ (k3 : Int) := by omega
                    have hnk := HNM.out k3 uk huk
                    have h3a : (k3 : Int) < (a : Int) := by omega
                    obtain ⟨nx, hnx⟩ : ∃ z : Int, z = (if n < k3 then (n : Int) else -1) := ⟨_, rfl⟩
                    rw [← hnx]
                    have HNX := Lib.hid hnx
                    clear hnx hua2 huk
                    by_cases hkn3 : k3 = n
                    · have hse : uk.name = ua2.of_ := by
                        have h9 := HIN.out
                        rw [← hkn3, hnk] at h9
                        exact Option.some.inj h9
                      have te : (uk.name.toList == ua2.of_.toList) = true := by rw [str_beq]; simpa using hse
                      have HKN := Lib.hid hkn3
                      clear hnk hse hkn3
                      go_wp2_with fail
                      go_quiet (fail)
                      go_wp2_with fail
                      go_roundg (a - (k3 + 1))
                      case measure => have := HQ3.out; omega
                      case rel => exact ⟨k3 + 1, by omega, rfl, by go_num, by have := HKN.out; rw [if_pos (by omega), this], below_drewN HBR3.out _, below_drewN HBY3.out _⟩
                    · have hse : uk.name ≠ ua2.of_ := fun e => hkn3 (once_of HON.out hnk (by rw [e]; exact HIN.out))
                      have te : (uk.name.toList == ua2.of_.toList) = false := by rw [str_beq]; simpa using hse
                      have HKN := Lib.hid hkn3
                      clear hnk hse hkn3
                      go_wp2_with fail
                      go_quiet (fail)
                      go_wp2_with fail
                      go_roundg (a - (k3 + 1))
                      case measure => have := HQ3.out; omega
                      case rel =>
                        refine ⟨k3 + 1, by omega, rfl, by go_num, ?_, below_drewN HBR3.out _, below_drewN HBY3.out _⟩
                        have h8 := HKN.out
                        rw [HNX.out]
                        by_cases h7 : n < k3
                        · rw [if_pos h7, if_pos (by omega)]
                        · rw [if_neg h7, if_neg (by omega)]
                  · have hkk : n < k3 := by omega
                    rw [if_pos hkk]
                    have tn : decide ((n : Int) < 0) = false := by simp
                    have h3a : ¬ (k3 : Int) < (a : Int) := by omega
                    go_wp2_with fail
                    go_roundg (p2 - (t + 1))
                    case measure => have := HQ'.out; omega
                    case rel => exact ⟨n, t + 1, _, _, b, rfl, rfl, rfl, by go_num, by omega, rfl, HBN.out, HBB.out, HW.out, HBY3.out⟩
              · have HW := Lib.hid (HST.out.2 hall)
                clear HST
                cases good with
                | false =>
                  clear hall HMUL
                  go_upto_region 19 with fail
                  go_wp2_with fail
                  obtain ⟨wv, rfl⟩ : ∃ x, x = wr := ⟨_, rfl⟩
                  clear kx e1 e2
                  go_loopg [11, 12] a (fun q nx kk wr => ∃ k3 : Nat, k3 ≤ a ∧ q = a - k3 ∧ kk = .int .i64 k3 ∧ nx = .int .i64 (if n < k3 then (n : Int) else -1) ∧ Below w4.heap.size w4 wr ∧ Below wy.heap.size wy wr)
                  case atStart => exact ⟨0, Nat.zero_le _, rfl, rfl, by rw [if_neg (by omega)], HBR'.out, HB2'.out⟩
                  case round =>
                    clear HBR' HB2'
                    obtain ⟨k3, hk3, hq3, rfl, rfl, hb3, hb3y⟩ := hrel
                    have HQ3 := Lib.hid hq3
                    have HBR3 := Lib.hid hb3
                    have HBY3 := Lib.hid hb3y
                    have kx := (hb3.cell (p := ⟨gx, 1, none⟩) lx).trans HX1.out
                    clear hq3 hb3 hb3y
                    by_cases hlt3 : k3 < a
                    · obtain ⟨_, _, uk, eb, hul3, huk, e0, _, _, _, _⟩ := qUnit_at (HU.out.mono qUnitR_mono HBR3.out) (show k3 < p2 by omega)
                      injection eb with eb
                      injection eb with eb1 eb2
                      subst eb1 eb2
                      obtain ⟨_, _, ua2, eb, _, hua2, _, e1, _, _, _⟩ := qUnit_at (HU.out.mono qUnitR_mono HBR3.out) hap
                      injection eb with eb
                      injection eb with eb1 eb2
                      subst eb1 eb2
                      have eua2 : ua2 = ua' := by have := HUA.out; rw [this] at hua2; exact (Option.some.inj hua2).symm
                      subst eua2
                      have h3n : (k3 : Int) < (p2 : Int) := by omega
                      have h30 : (0 : Int) ≤ (k3 : Int) := by omega
                      have hnk := HNM.out k3 uk huk
                      have h3a : (k3 : Int) < (a : Int) := by omega
                      obtain ⟨nx, hnx⟩ : ∃ z : Int, z = (if n < k3 then (n : Int) else -1) := ⟨_, rfl⟩
                      rw [← hnx]
                      have HNX := Lib.hid hnx
                      clear hnx hua2 huk
                      by_cases hkn3 : k3 = n
                      · have hse : uk.name = ua2.of_ := by
                          have h9 := HIN.out
                          rw [← hkn3, hnk] at h9
                          exact Option.some.inj h9
                        have te : (uk.name.toList == ua2.of_.toList) = true := by rw [str_beq]; simpa using hse
                        have HKN := Lib.hid hkn3
                        clear hnk hse hkn3
                        go_wp2_with fail
                        go_quiet (fail)
                        go_wp2_with fail
                        go_roundg (a - (k3 + 1))
                        case measure => have := HQ3.out; omega
                        case rel => exact ⟨k3 + 1, by omega, rfl, by go_num, by have := HKN.out; rw [if_pos (by omega), this], below_drewN HBR3.out _, below_drewN HBY3.out _⟩
                      · have hse : uk.name ≠ ua2.of_ := fun e => hkn3 (once_of HON.out hnk (by rw [e]; exact HIN.out))
                        have te : (uk.name.toList == ua2.of_.toList) = false := by rw [str_beq]; simpa using hse
                        have HKN := Lib.hid hkn3
                        clear hnk hse hkn3
                        go_wp2_with fail
                        go_quiet (fail)
                        go_wp2_with fail
                        go_roundg (a - (k3 + 1))
                        case measure => have := HQ3.out; omega
                        case rel =>
                          refine ⟨k3 + 1, by omega, rfl, by go_num, ?_, below_drewN HBR3.out _, below_drewN HBY3.out _⟩
                          have h8 := HKN.out
                          rw [HNX.out]
                          by_cases h7 : n < k3
                          · rw [if_pos h7, if_pos (by omega)]
                          · rw [if_neg h7, if_neg (by omega)]
                    · have hkk : n < k3 := by omega
                      rw [if_pos hkk]
                      have tn : decide ((n : Int) < 0) = false := by simp
                      have h3a : ¬ (k3 : Int) < (a : Int) := by omega
                      go_wp2_with fail
                      go_roundg (p2 - (t + 1))
                      case measure => have := HQ'.out; omega
                      case rel => exact ⟨n, t + 1, _, _, b, rfl, rfl, rfl, by go_num, by omega, rfl, HBN.out, HBB.out, HW.out, HBY3.out⟩
                | true =>
                  by_cases g2 : 2 ≤ ua'.factor
                  · by_cases g3 : ua'.factor ≤ 1000
                    · have g4 : ¬ ua'.factor * p ≤ 1099511627776 := fun h => hall ⟨rfl, g2, g3, h⟩
                      have gm := HMUL.out g2 g3
                      have d2 : decide ((2 : Int) ≤ ua'.factor) = true := by simpa using g2
                      have d3 : decide (ua'.factor ≤ (1000 : Int)) = true := by simpa using g3
                      have d4 : decide (ua'.factor * p ≤ (1099511627776 : Int)) = false := by simpa using g4
                      clear HMUL hall
                      go_upto_region 19 with fail
                      clear d2 d3 d4 gm g2 g3 g4
                      go_wp2_with fail
                      obtain ⟨wv, rfl⟩ : ∃ x, x = wr := ⟨_, rfl⟩
                      clear kx e1 e2
                      go_loopg [11, 12] a (fun q nx kk wr => ∃ k3 : Nat, k3 ≤ a ∧ q = a - k3 ∧ kk = .int .i64 k3 ∧ nx = .int .i64 (if n < k3 then (n : Int) else -1) ∧ Below w4.heap.size w4 wr ∧ Below wy.heap.size wy wr)
                      case atStart => exact ⟨0, Nat.zero_le _, rfl, rfl, by rw [if_neg (by omega)], HBR'.out, HB2'.out⟩
                      case round =>
                        clear HBR' HB2'
                        obtain ⟨k3, hk3, hq3, rfl, rfl, hb3, hb3y⟩ := hrel
                        have HQ3 := Lib.hid hq3
                        have HBR3 := Lib.hid hb3
                        have HBY3 := Lib.hid hb3y
                        have kx := (hb3.cell (p := ⟨gx, 1, none⟩) lx).trans HX1.out
                        clear hq3 hb3 hb3y
                        by_cases hlt3 : k3 < a
                        · obtain ⟨_, _, uk, eb, hul3, huk, e0, _, _, _, _⟩ := qUnit_at (HU.out.mono qUnitR_mono HBR3.out) (show k3 < p2 by omega)
                          injection eb with eb
                          injection eb with eb1 eb2
                          subst eb1 eb2
                          obtain ⟨_, _, ua2, eb, _, hua2, _, e1, _, _, _⟩ := qUnit_at (HU.out.mono qUnitR_mono HBR3.out) hap
                          injection eb with eb
                          injection eb with eb1 eb2
                          subst eb1 eb2
                          have eua2 : ua2 = ua' := by have := HUA.out; rw [this] at hua2; exact (Option.some.inj hua2).symm
                          subst eua2
                          have h3n : (k3 : Int) < (p2 : Int) := by omega
                          have h30 : (0 : Int) ≤ (k3 : Int) := by omega
                          have hnk := HNM.out k3 uk huk
                          have h3a : (k3 : Int) < (a : Int) := by omega
                          obtain ⟨nx, hnx⟩ : ∃ z : Int, z = (if n < k3 then (n : Int) else -1) := ⟨_, rfl⟩
                          rw [← hnx]
                          have HNX := Lib.hid hnx
                          clear hnx hua2 huk
                          by_cases hkn3 : k3 = n
                          · have hse : uk.name = ua2.of_ := by
                              have h9 := HIN.out
                              rw [← hkn3, hnk] at h9
                              exact Option.some.inj h9
                            have te : (uk.name.toList == ua2.of_.toList) = true := by rw [str_beq]; simpa using hse
                            have HKN := Lib.hid hkn3
                            clear hnk hse hkn3
                            go_wp2_with fail
                            go_quiet (fail)
                            go_wp2_with fail
                            go_roundg (a - (k3 + 1))
                            case measure => have := HQ3.out; omega
                            case rel => exact ⟨k3 + 1, by omega, rfl, by go_num, by have := HKN.out; rw [if_pos (by omega), this], below_drewN HBR3.out _, below_drewN HBY3.out _⟩
                          · have hse : uk.name ≠ ua2.of_ := fun e => hkn3 (once_of HON.out hnk (by rw [e]; exact HIN.out))
                            have te : (uk.name.toList == ua2.of_.toList) = false := by rw [str_beq]; simpa using hse
                            have HKN := Lib.hid hkn3
                            clear hnk hse hkn3
                            go_wp2_with fail
                            go_quiet (fail)
                            go_wp2_with fail
                            go_roundg (a - (k3 + 1))
                            case measure => have := HQ3.out; omega
                            case rel =>
                              refine ⟨k3 + 1, by omega, rfl, by go_num, ?_, below_drewN HBR3.out _, below_drewN HBY3.out _⟩
                              have h8 := HKN.out
                              rw [HNX.out]
                              by_cases h7 : n < k3
                              · rw [if_pos h7, if_pos (by omega)]
                              · rw [if_neg h7, if_neg (by omega)]
                        · have hkk : n < k3 := by omega
                          rw [if_pos hkk]
                          have tn : decide ((n : Int) < 0) = false := by simp
                          have h3a : ¬ (k3 : Int) < (a : Int) := by omega
                          go_wp2_with fail
                          go_roundg (p2 - (t + 1))
                          case measure => have := HQ'.out; omega
                          case rel => exact ⟨n, t + 1, _, _, b, rfl, rfl, rfl, by go_num, by omega, rfl, HBN.out, HBB.out, HW.out, HBY3.out⟩
                    · have d2 : decide ((2 : Int) ≤ ua'.factor) = true := by simpa using g2
                      have d3 : decide (ua'.factor ≤ (1000 : Int)) = false := by simpa using g3
                      clear HMUL hall
                      go_upto_region 19 with fail
                      clear d2 d3 g2 g3
                      go_wp2_with fail
                      obtain ⟨wv, rfl⟩ : ∃ x, x = wr := ⟨_, rfl⟩
                      clear kx e1 e2
                      go_loopg [11, 12] a (fun q nx kk wr => ∃ k3 : Nat, k3 ≤ a ∧ q = a - k3 ∧ kk = .int .i64 k3 ∧ nx = .int .i64 (if n < k3 then (n : Int) else -1) ∧ Below w4.heap.size w4 wr ∧ Below wy.heap.size wy wr)
                      case atStart => exact ⟨0, Nat.zero_le _, rfl, rfl, by rw [if_neg (by omega)], HBR'.out, HB2'.out⟩
                      case round =>
                        clear HBR' HB2'
                        obtain ⟨k3, hk3, hq3, rfl, rfl, hb3, hb3y⟩ := hrel
                        have HQ3 := Lib.hid hq3
                        have HBR3 := Lib.hid hb3
                        have HBY3 := Lib.hid hb3y
                        have kx := (hb3.cell (p := ⟨gx, 1, none⟩) lx).trans HX1.out
                        clear hq3 hb3 hb3y
                        by_cases hlt3 : k3 < a
                        · obtain ⟨_, _, uk, eb, hul3, huk, e0, _, _, _, _⟩ := qUnit_at (HU.out.mono qUnitR_mono HBR3.out) (show k3 < p2 by omega)
                          injection eb with eb
                          injection eb with eb1 eb2
                          subst eb1 eb2
                          obtain ⟨_, _, ua2, eb, _, hua2, _, e1, _, _, _⟩ := qUnit_at (HU.out.mono qUnitR_mono HBR3.out) hap
                          injection eb with eb
                          injection eb with eb1 eb2
                          subst eb1 eb2
                          have eua2 : ua2 = ua' := by have := HUA.out; rw [this] at hua2; exact (Option.some.inj hua2).symm
                          subst eua2
                          have h3n : (k3 : Int) < (p2 : Int) := by omega
                          have h30 : (0 : Int) ≤ (k3 : Int) := by omega
                          have hnk := HNM.out k3 uk huk
                          have h3a : (k3 : Int) < (a : Int) := by omega
                          obtain ⟨nx, hnx⟩ : ∃ z : Int, z = (if n < k3 then (n : Int) else -1) := ⟨_, rfl⟩
                          rw [← hnx]
                          have HNX := Lib.hid hnx
                          clear hnx hua2 huk
                          by_cases hkn3 : k3 = n
                          · have hse : uk.name = ua2.of_ := by
                              have h9 := HIN.out
                              rw [← hkn3, hnk] at h9
                              exact Option.some.inj h9
                            have te : (uk.name.toList == ua2.of_.toList) = true := by rw [str_beq]; simpa using hse
                            have HKN := Lib.hid hkn3
                            clear hnk hse hkn3
                            go_wp2_with fail
                            go_quiet (fail)
                            go_wp2_with fail
                            go_roundg (a - (k3 + 1))
                            case measure => have := HQ3.out; omega
                            case rel => exact ⟨k3 + 1, by omega, rfl, by go_num, by have := HKN.out; rw [if_pos (by omega), this], below_drewN HBR3.out _, below_drewN HBY3.out _⟩
                          · have hse : uk.name ≠ ua2.of_ := fun e => hkn3 (once_of HON.out hnk (by rw [e]; exact HIN.out))
                            have te : (uk.name.toList == ua2.of_.toList) = false := by rw [str_beq]; simpa using hse
                            have HKN := Lib.hid hkn3
                            clear hnk hse hkn3
                            go_wp2_with fail
                            go_quiet (fail)
                            go_wp2_with fail
                            go_roundg (a - (k3 + 1))
                            case measure => have := HQ3.out; omega
                            case rel =>
                              refine ⟨k3 + 1, by omega, rfl, by go_num, ?_, below_drewN HBR3.out _, below_drewN HBY3.out _⟩
                              have h8 := HKN.out
                              rw [HNX.out]
                              by_cases h7 : n < k3
                              · rw [if_pos h7, if_pos (by omega)]
                              · rw [if_neg h7, if_neg (by omega)]
                        · have hkk : n < k3 := by omega
                          rw [if_pos hkk]
                          have tn : decide ((n : Int) < 0) = false := by simp
                          have h3a : ¬ (k3 : Int) < (a : Int) := by omega
                          go_wp2_with fail
                          go_roundg (p2 - (t + 1))
                          case measure => have := HQ'.out; omega
                          case rel => exact ⟨n, t + 1, _, _, b, rfl, rfl, rfl, by go_num, by omega, rfl, HBN.out, HBB.out, HW.out, HBY3.out⟩
                  · have d2 : decide ((2 : Int) ≤ ua'.factor) = false := by simpa using g2
                    clear HMUL hall
                    go_upto_region 19 with fail
                    clear d2 g2
                    go_wp2_with fail
                    obtain ⟨wv, rfl⟩ : ∃ x, x = wr := ⟨_, rfl⟩
                    clear kx e1 e2
                    go_loopg [11, 12] a (fun q nx kk wr => ∃ k3 : Nat, k3 ≤ a ∧ q = a - k3 ∧ kk = .int .i64 k3 ∧ nx = .int .i64 (if n < k3 then (n : Int) else -1) ∧ Below w4.heap.size w4 wr ∧ Below wy.heap.size wy wr)
                    case atStart => exact ⟨0, Nat.zero_le _, rfl, rfl, by rw [if_neg (by omega)], HBR'.out, HB2'.out⟩
                    case round =>
                      clear HBR' HB2'
                      obtain ⟨k3, hk3, hq3, rfl, rfl, hb3, hb3y⟩ := hrel
                      have HQ3 := Lib.hid hq3
                      have HBR3 := Lib.hid hb3
                      have HBY3 := Lib.hid hb3y
                      have kx := (hb3.cell (p := ⟨gx, 1, none⟩) lx).trans HX1.out
                      clear hq3 hb3 hb3y
                      by_cases hlt3 : k3 < a
                      · obtain ⟨_, _, uk, eb, hul3, huk, e0, _, _, _, _⟩ := qUnit_at (HU.out.mono qUnitR_mono HBR3.out) (show k3 < p2 by omega)
                        injection eb with eb
                        injection eb with eb1 eb2
                        subst eb1 eb2
                        obtain ⟨_, _, ua2, eb, _, hua2, _, e1, _, _, _⟩ := qUnit_at (HU.out.mono qUnitR_mono HBR3.out) hap
                        injection eb with eb
                        injection eb with eb1 eb2
                        subst eb1 eb2
                        have eua2 : ua2 = ua' := by have := HUA.out; rw [this] at hua2; exact (Option.some.inj hua2).symm
                        subst eua2
                        have h3n : (k3 : Int) < (p2 : Int) := by omega
                        have h30 : (0 : Int) ≤ (k3 : Int) := by omega
                        have hnk := HNM.out k3 uk huk
                        have h3a : (k3 : Int) < (a : Int) := by omega
                        obtain ⟨nx, hnx⟩ : ∃ z : Int, z = (if n < k3 then (n : Int) else -1) := ⟨_, rfl⟩
                        rw [← hnx]
                        have HNX := Lib.hid hnx
                        clear hnx hua2 huk
                        by_cases hkn3 : k3 = n
                        · have hse : uk.name = ua2.of_ := by
                            have h9 := HIN.out
                            rw [← hkn3, hnk] at h9
                            exact Option.some.inj h9
                          have te : (uk.name.toList == ua2.of_.toList) = true := by rw [str_beq]; simpa using hse
                          have HKN := Lib.hid hkn3
                          clear hnk hse hkn3
                          go_wp2_with fail
                          go_quiet (fail)
                          go_wp2_with fail
                          go_roundg (a - (k3 + 1))
                          case measure => have := HQ3.out; omega
                          case rel => exact ⟨k3 + 1, by omega, rfl, by go_num, by have := HKN.out; rw [if_pos (by omega), this], below_drewN HBR3.out _, below_drewN HBY3.out _⟩
                        · have hse : uk.name ≠ ua2.of_ := fun e => hkn3 (once_of HON.out hnk (by rw [e]; exact HIN.out))
                          have te : (uk.name.toList == ua2.of_.toList) = false := by rw [str_beq]; simpa using hse
                          have HKN := Lib.hid hkn3
                          clear hnk hse hkn3
                          go_wp2_with fail
                          go_quiet (fail)
                          go_wp2_with fail
                          go_roundg (a - (k3 + 1))
                          case measure => have := HQ3.out; omega
                          case rel =>
                            refine ⟨k3 + 1, by omega, rfl, by go_num, ?_, below_drewN HBR3.out _, below_drewN HBY3.out _⟩
                            have h8 := HKN.out
                            rw [HNX.out]
                            by_cases h7 : n < k3
                            · rw [if_pos h7, if_pos (by omega)]
                            · rw [if_neg h7, if_neg (by omega)]
                      · have hkk : n < k3 := by omega
                        rw [if_pos hkk]
                        have tn : decide ((n : Int) < 0) = false := by simp
                        have h3a : ¬ (k3 : Int) < (a : Int) := by omega
                        go_wp2_with fail
                        go_roundg (p2 - (t + 1))
                        case measure => have := HQ'.out; omega
                        case rel => exact ⟨n, t + 1, _, _, b, rfl, rfl, rfl, by go_num, by omega, rfl, HBN.out, HBB.out, HW.out, HBY3.out⟩
        · go_wp2_with fail
          go_ret
          exact ⟨rfl, HB4.out.trans (HBR.out.mono HB4.out.size)⟩

end Go.Proofs.Ytkkkephjljiplaa
