/- The law NamesMeans: it answers true. Written by genmeans.py. -/
import Derived.Test.YtkkkephjljiplaaNmMeQ
import Derived.Test.YtkkkephjljiplaaNmFew
namespace Go.Proofs.Ytkkkephjljiplaa
open Go.RowKit

set_option maxHeartbeats 16000000 in
set_option maxRecDepth 100000 in
theorem means_any (A1 A2 A3 A4 A5 A6 : Option Addr) (n1 c1 n2 c2 n3 c3 n4 c4 n5 c5 n6 c6 : Nat) (s : QSource) (w : World)
    (h1 : SlB 1 16 strR w (.slice A1 n1 c1) s.issuers) (h2 : SlB 5 56 qUnitR w (.slice A2 n2 c2) s.units) (h3 : SlB 6 96 qSchemaR w (.slice A3 n3 c3) s.schemas) (h4 : SlB 5 96 qRuleR w (.slice A4 n4 c4) s.rules) (h5 : SlB 5 72 qConvertR w (.slice A5 n5 c5) s.converts) (h6 : SlB 3 48 qPurposeR w (.slice A6 n6 c6) s.purposes) :
    Calls Try.prog 4 #[.agg #[.slice A1 n1 c1, .slice A2 n2 c2, .slice A3 n3 c3, .slice A4 n4 c4, .slice A5 n5 c5, .slice A6 n6 c6]] w fun e w' => e = .returned (.bool true) ∧ Below w.heap.size w w' := by
  have HS := Lib.hid (src_whole h1 h2 h3 h4 h5 h6)
  clear h1 h2 h3 h4 h5 h6
  go_enter Try.func4, Try.ntmps4
  go_upto_region 1 with fail
  have hk : Blk (w.alloc (.cells #[.slice A1 n1 c1, .slice A2 n2 c2, .slice A3 n3 c3, .slice A4 n4 c4, .slice A5 n5 c5, .slice A6 n6 c6] 29)) w.heap.size 29 #[.slice A1 n1 c1, .slice A2 n2 c2, .slice A3 n3 c3, .slice A4 n4 c4, .slice A5 n5 c5, .slice A6 n6 c6] := Blk.new _ _ _
  have hb : Below w.heap.size w (w.alloc (.cells #[.slice A1 n1 c1, .slice A2 n2 c2, .slice A3 n3 c3, .slice A4 n4 c4, .slice A5 n5 c5, .slice A6 n6 c6] 29)) := (Below.refl _ _).alloc (Nat.le_refl _) _
  obtain ⟨g, hg⟩ : ∃ g, g = w.heap.size := ⟨_, rfl⟩
  rw [← hg] at hk ⊢
  generalize w.alloc (.cells #[.slice A1 n1 c1, .slice A2 n2 c2, .slice A3 n3 c3, .slice A4 n4 c4, .slice A5 n5 c5, .slice A6 n6 c6] 29) = wb at hk hb ⊢
  have HK := Lib.hid hk
  have HB := Lib.hid hb
  clear hk hb hg
  go_wp2_with fail
  refine (sane_any wb).mono ?_
  rintro e w1 ⟨rfl, hb1⟩
  have hk1 := HK.out.below hb1 HK.out.lt
  obtain ⟨k0, k1, k2, k3, k4, k5⟩ := six_cells hk1 (Below.refl _ _)
  have HK1 := Lib.hid hk1
  have HB1 := Lib.hid (below_step HB.out hb1)
  clear hk1 hb1 HK HB
  go_wp2_with fail
  have HP1 := Lib.hid (src_parts (qSourceR_mono _ _ HB1.out _ _ HS.out))
  refine (few_any A1 A2 A3 A4 A5 A6 n1 c1 n2 c2 n3 c3 n4 c4 n5 c5 n6 c6 s w1 HP1.out.2.2.1.1 HP1.out.2.2.2.1.1 HP1.out.2.2.2.2.1.1 HP1.out.2.2.2.2.2.1).mono ?_
  rintro e w2 ⟨⟨b, rfl⟩, hb2⟩
  clear k0 k1 k2 k3 k4 k5 HP1
  have HK2 := Lib.hid (HK1.out.below hb2 HK1.out.lt)
  have HB2 := Lib.hid (below_step HB1.out hb2)
  clear hb2 HB1 HK1
  cases b with
  | false =>
    go_wp2_with fail
    go_ret
    exact ⟨rfl, HB2.out⟩
  | true =>
    obtain ⟨k0, k1, k2, k3, k4, k5⟩ := six_cells HK2.out (Below.refl _ _)
    go_wp2_with fail
    obtain ⟨t1, t2, t3, t4, t5, t6⟩ := src_parts (qSourceR_mono _ _ HB2.out _ _ HS.out)
    refine (resolve_any A1 A2 A3 A4 A5 A6 n1 c1 n2 c2 n3 c3 n4 c4 n5 c5 n6 c6 s w2 t1 t2 t3 t4 t5 t6).mono ?_
    rintro e w3 ⟨cs, rfl, hx, hb3⟩
    have HX3 := Lib.hid hx
    obtain ⟨X1, p1, q1, X2, p2, q2, X3, p3, q3, X4, p4, q4, X5, p5, q5, X6, p6, q6, rfl, -⟩ := hx
    obtain ⟨ev, xv, hr⟩ : ∃ a b, resolveP s = (a, b) := ⟨_, _, rfl⟩
    rw [hr] at HX3 ⊢
    have HR := Lib.hid hr
    have HB3 := Lib.hid (below_step HB2.out hb3)
    have HK3 := Lib.hid (HK2.out.below hb3 HK2.out.lt)
    clear k0 k1 k2 k3 k4 k5 t1 t2 t3 t4 t5 t6 hb3 HB2 HK2 hr
    go_upto_region 6 with fail
    have hal : Below w3.heap.size w3 (w3.alloc (.cells #[.slice X1 p1 q1, .slice X2 p2 q2, .slice X3 p3 q3, .slice X4 p4 q4, .slice X5 p5 q5, .slice X6 p6 q6] 29)) := (Below.refl _ _).alloc (Nat.le_refl _) _
    have hx4 : Blk (w3.alloc (.cells #[.slice X1 p1 q1, .slice X2 p2 q2, .slice X3 p3 q3, .slice X4 p4 q4, .slice X5 p5 q5, .slice X6 p6 q6] 29)) w3.heap.size 29 #[.slice X1 p1 q1, .slice X2 p2 q2, .slice X3 p3 q3, .slice X4 p4 q4, .slice X5 p5 q5, .slice X6 p6 q6] := Blk.new _ _ _
    have HB4 := Lib.hid (below_step HB3.out hal)
    have HK4 := Lib.hid (HK3.out.below hal HK3.out.lt)
    have XS := Lib.hid (qSourceR_mono _ _ hal _ _ HX3.out)
    obtain ⟨gx, hgx⟩ : ∃ g, g = w3.heap.size := ⟨_, rfl⟩
    rw [← hgx] at hx4 ⊢
    generalize w3.alloc (.cells #[.slice X1 p1 q1, .slice X2 p2 q2, .slice X3 p3 q3, .slice X4 p4 q4, .slice X5 p5 q5, .slice X6 p6 q6] 29) = w4 at hx4 HB4 HK4 XS ⊢
    have HX4 := Lib.hid hx4
    clear hx4 hgx hal HB3 HK3 HX3
    have hrc := resolve_cases s
    rw [HR.out] at hrc
    rcases hrc with hrc | hrc | ⟨htw, x, hnum, hrc⟩
    · obtain rfl : ev = 111 := congrArg Prod.fst hrc
      obtain rfl : xv = noSource := congrArg Prod.snd hrc
      obtain ⟨k0, k1, k2, k3, k4, k5⟩ := six_cells HX4.out (Below.refl _ _)
      clear hrc
      go_wp2_with fail
      refine (same_src [.slice X1 p1 q1, .slice X2 p2 q2, .slice X3 p3 q3, .slice X4 p4 q4, .slice X5 p5 q5, .slice X6 p6 q6] [.slice none 0 0, .slice none 0 0, .slice none 0 0, .slice none 0 0, .slice none 0 0, .slice none 0 0] noSource w4 XS.out (noSource_at _)).mono ?_
      rintro e w5 ⟨rfl, hb5⟩
      have HB5 := Lib.hid (below_step HB4.out hb5)
      clear hb5 k0 k1 k2 k3 k4 k5
      go_wp2_with fail
      go_ret
      exact ⟨rfl, HB5.out⟩
    · obtain rfl : ev = 110 := congrArg Prod.fst hrc
      obtain rfl : xv = noSource := congrArg Prod.snd hrc
      obtain ⟨k0, k1, k2, k3, k4, k5⟩ := six_cells HX4.out (Below.refl _ _)
      clear hrc
      go_wp2_with fail
      refine (same_src [.slice X1 p1 q1, .slice X2 p2 q2, .slice X3 p3 q3, .slice X4 p4 q4, .slice X5 p5 q5, .slice X6 p6 q6] [.slice none 0 0, .slice none 0 0, .slice none 0 0, .slice none 0 0, .slice none 0 0, .slice none 0 0] noSource w4 XS.out (noSource_at _)).mono ?_
      rintro e w5 ⟨rfl, hb5⟩
      have HB5 := Lib.hid (below_step HB4.out hb5)
      clear hb5 k0 k1 k2 k3 k4 k5
      go_wp2_with fail
      go_ret
      exact ⟨rfl, HB5.out⟩
    obtain rfl : ev = 0 := congrArg Prod.fst hrc
    obtain rfl : x = xv := (congrArg Prod.snd hrc).symm
    have MO := Lib.hid (meansOk hnum)
    have EQB := Lib.hid (numP_is hnum)
    clear hrc htw hnum HR
    go_upto_region 8 with fail
    apply wp_via2 (α := Value) (β := Value) (G := fun _ _ w' => Below w4.heap.size w4 w')
    · obtain ⟨k0, k1, k2, k3, k4, k5, j0, j1, j2, j3, j4, j5, -⟩ := twelve HK4.out HX4.out (Below.refl _ _)
      go_region_held3 (fun w' => w'.cell? ⟨g, 0, none⟩ = some (.slice A1 n1 c1) ∧ w'.cell? ⟨g, 1, none⟩ = some (.slice A2 n2 c2) ∧ w'.cell? ⟨g, 2, none⟩ = some (.slice A3 n3 c3) ∧ w'.cell? ⟨g, 3, none⟩ = some (.slice A4 n4 c4) ∧ w'.cell? ⟨g, 4, none⟩ = some (.slice A5 n5 c5) ∧ w'.cell? ⟨g, 5, none⟩ = some (.slice A6 n6 c6) ∧
          w'.cell? ⟨gx, 0, none⟩ = some (.slice X1 p1 q1) ∧ w'.cell? ⟨gx, 1, none⟩ = some (.slice X2 p2 q2) ∧ w'.cell? ⟨gx, 2, none⟩ = some (.slice X3 p3 q3) ∧ w'.cell? ⟨gx, 3, none⟩ = some (.slice X4 p4 q4) ∧ w'.cell? ⟨gx, 4, none⟩ = some (.slice X5 p5 q5) ∧ w'.cell? ⟨gx, 5, none⟩ = some (.slice X6 p6 q6) ∧ Below w4.heap.size w4 w')
        (first | with_reducible assumption | exact twelve HK4.out HX4.out hbz | exact twelve HK4.out HX4.out (Below.refl _ _).drew)
        (first
          | (go_at_call 15; ((with_reducible refine (bare_src [.slice X1 p1 q1, .slice X2 p2 q2, .slice X3 p3 q3, .slice X4 p4 q4, .slice X5 p5 q5, .slice X6 p6 q6] x _ ?_).mono ?_)); refine qSourceR_mono w4 _ ?_ _ _ XS.out; (first | assumption | (go_split_ands; assumption)); rintro e wx ⟨cs1, rfl, hy, hbx⟩; have HY1 := Lib.hid hy; clear hy
             have hbz : Below w4.heap.size w4 wx := by
               refine below_step ?_ hbx
               (first | assumption | (go_split_ands; assumption)))
          | (go_at_call 15; ((with_reducible refine (bare_src [.slice A1 n1 c1, .slice A2 n2 c2, .slice A3 n3 c3, .slice A4 n4 c4, .slice A5 n5 c5, .slice A6 n6 c6] s _ ?_).mono ?_)); refine qSourceR_mono w _ (below_step HB4.out ?_) _ _ HS.out; (first | assumption | (go_split_ands; assumption)); rintro e ws ⟨cs2, rfl, hy, hbs⟩; have HY2 := Lib.hid hy; clear hy
             have hbz : Below w4.heap.size w4 ws := by
               refine below_step ?_ hbs
               (first | assumption | (go_split_ands; assumption)))
          | (go_at_call 14; ((with_reducible refine (same_src cs1 cs2 (bareP x) _ ?_ ?_).mono ?_)); (first | exact HY1.out | exact qSourceR_mono _ _ hbs _ _ HY1.out); (rw [EQB.out]; first | exact HY2.out | exact qSourceR_mono _ _ hbx _ _ HY2.out); rintro e wm ⟨rfl, hbm⟩
             have hbz : Below w4.heap.size w4 wm := by
               refine below_step ?_ hbm
               (first | assumption | (go_split_ands; assumption))))
      all_goals
        obtain ⟨v1, hv1⟩ : ∃ v, v = Value.agg cs1.toArray := ⟨_, rfl⟩
        obtain ⟨v2, hv2⟩ : ∃ v, v = Value.agg cs2.toArray := ⟨_, rfl⟩
        rw [← hv1, ← hv2]
        exact ⟨v1, v2, rfl, hbz⟩
    rintro v1 v2 w5 hb5
    have HB5 := Lib.hid (below_step HB4.out hb5)
    have XS5 := Lib.hid (qSourceR_mono _ _ hb5 _ _ XS.out)
    have HX5 := Lib.hid (HX4.out.below hb5 HX4.out.lt)
    clear hb5 HB4 XS HX4 HK4 HS EQB
    have l1 := (src_parts XS5.out).1.1.le
    have l2 := (src_parts XS5.out).2.1.1.le
    have l3 := (src_parts XS5.out).2.2.1.1.le
    have l4 := (src_parts XS5.out).2.2.2.1.1.le
    have l5 := (src_parts XS5.out).2.2.2.2.1.1.le
    have l6 := (src_parts XS5.out).2.2.2.2.2.1.le
    go_wp2_with fail
    go_loopg [5] p3 (fun q i wr => ∃ k : Nat, k ≤ p3 ∧ q = p3 - k ∧ i = .int .i64 k ∧ Below w5.heap.size w5 wr)
    case atStart => exact ⟨0, Nat.zero_le _, rfl, rfl, Below.refl _ _⟩
    case round =>
      obtain ⟨k, hk, hq, rfl, hb⟩ := hrel
      have HQ := Lib.hid hq
      have HBR := Lib.hid hb
      clear hq hb
      obtain ⟨k0, k1, k2, k3, k4, k5⟩ := six_cells HX5.out HBR.out
      have lx := (HX5.out.below HBR.out HX5.out.lt).lt
      by_cases hltk : k < p3
      · have hnk : (k : Int) < (p3 : Int) := by omega
        have h0k : (0 : Int) ≤ (k : Int) := by omega
        as_aux_lemma =>
          obtain ⟨sb, so, y, F1, f1, g1, D1, d1, e1, rfl, hsl, hy, s0, s1, s2, s3, s4, s5, hfl, hdp⟩ := qSchema_at ((src_parts (qSourceR_mono _ _ HBR.out _ _ XS5.out)).2.2.1.1) hltk
          obtain ⟨⟨m, hm, hmi⟩, hok1, hok2⟩ := MO.out.schemas k y hy
          obtain ⟨ib, io, z, rfl, hil, hz, i0⟩ := str_at ((src_parts (qSourceR_mono _ _ HBR.out _ _ XS5.out)).1.1) (k := m) (by have h8 := (src_parts XS5.out).1.1.len; have := (List.getElem?_eq_some_iff.1 hmi).1; omega)
          obtain rfl : y.by_ = z := by rw [hmi] at hz; exact Option.some.inj hz
          have hmp : m < p1 := by have h8 := (src_parts XS5.out).1.1.len; have := (List.getElem?_eq_some_iff.1 hmi).1; omega
          rw [hm] at s2
          have HO1 := Lib.hid hok1
          have HO2 := Lib.hid hok2
          have hm0 : (0 : Int) ≤ (m : Int) := by omega
          have hm1 : (m : Int) < (p1 : Int) := by omega
          clear hy hm hmi hz hok1 hok2
          go_upto_region 14 with fail
          have hal : Below wr.heap.size wr (wr.alloc (.cells #[.string y.name, .string y.by_, .int .i64 (m : Int), .int .i64 y.version, .slice F1 f1 g1, .slice D1 d1 e1] 40)) := (Below.refl _ _).alloc (Nat.le_refl _) _
          have hky : Blk (wr.alloc (.cells #[.string y.name, .string y.by_, .int .i64 (m : Int), .int .i64 y.version, .slice F1 f1 g1, .slice D1 d1 e1] 40)) wr.heap.size 40 #[.string y.name, .string y.by_, .int .i64 (m : Int), .int .i64 y.version, .slice F1 f1 g1, .slice D1 d1 e1] := Blk.new _ _ _
          have HBY := Lib.hid (below_step HBR.out hal)
          have HFL := Lib.hid (hfl.mono qFieldR_mono hal)
          have HDP := Lib.hid (hdp.mono qDepR_mono hal)
          have i1 := (hal.cell (p := ⟨ib, io + m, none⟩) hil).trans i0
          have hil' := Nat.lt_of_lt_of_le hil hal.size
          obtain ⟨gy, hgy⟩ : ∃ g, g = wr.heap.size := ⟨_, rfl⟩
          rw [← hgy] at hky ⊢
          clear hal hgy
          generalize wr.alloc (.cells #[.string y.name, .string y.by_, .int .i64 (m : Int), .int .i64 y.version, .slice F1 f1 g1, .slice D1 d1 e1] 40) = wy at hky HBY HFL HDP i1 hil' ⊢
          clear hfl hdp k0 k1 k2 k3 k4 k5 lx s0 s1 s2 s3 s4 s5 hsl i0 hil
          obtain ⟨k0, k1, k2, k3, k4, k5⟩ := six_cells HX5.out HBY.out
          have lx := (HX5.out.below HBY.out HX5.out.lt).lt
          obtain ⟨y0, y1, y2, y3, y4, y5⟩ := six_cells hky (Below.refl _ _)
          have ly := hky.lt
          have dm0 : decide ((m : Int) < 0) = false := by simp
          have dm1 : decide (p1 ≤ m) = false := by simp; omega
          have dm2 : decide ((p1 : Int) ≤ (m : Int)) = false := by simp; omega
          obtain ⟨wo1, rfl⟩ : ∃ x, x = wr := ⟨_, rfl⟩
          go_quiet (fail)
          rename_i nq
          have hdr : Below wy.heap.size wy (wy.drewN nq) := below_drewN (Below.refl _ _) _
          have HBZ := Lib.hid (below_step HBY.out hdr)
          have hkz := hky.below hdr hky.lt
          have hfz := HFL.out.mono qFieldR_mono hdr
          have hdz := HDP.out.mono qDepR_mono hdr
          clear hdr
          generalize wy.drewN nq = wz at HBZ hkz hfz hdz ⊢
          clear hky HFL HDP HBY i1 hil' k0 k1 k2 k3 k4 k5 lx y0 y1 y2 y3 y4 y5 ly dm0 dm1 dm2 hm0 hm1 hmp
          obtain ⟨y0, y1, y2, y3, y4, y5⟩ := six_cells hkz (Below.refl _ _)
          have ly := hkz.lt
          have fle := hfz.1.le
          have HKY := Lib.hid hkz
          have HFL := Lib.hid hfz
          have HDP := Lib.hid hdz
          clear hkz hfz hdz HBR y0 y1 y2 y3 y5
          go_wp2_with fail
          clear y4 ly
          go_loopg [7] f1 (fun q i wr => ∃ k : Nat, k ≤ f1 ∧ q = f1 - k ∧ i = .int .i64 k ∧ Below wz.heap.size wz wr)
          case atStart => exact ⟨0, Nat.zero_le _, rfl, rfl, Below.refl _ _⟩
          case round =>
            obtain ⟨kk2, hkk2, hq, rfl, hb⟩ := hrel
            have HQ2 := Lib.hid hq
            have HB2 := Lib.hid hb
            clear hq hb
            have hky3 := HKY.out.below HB2.out HKY.out.lt
            obtain ⟨y0, y1, y2, y3, y4, y5⟩ := six_cells hky3 (Below.refl _ _)
            have ly := hky3.lt
            clear hky3 y0 y1 y2 y3 y5
            by_cases hltkk2 : kk2 < f1
            · have hnkk2 : (kk2 : Int) < (f1 : Int) := by omega
              have h0kk2 : (0 : Int) ≤ (kk2 : Int) := by omega
              as_aux_lemma =>
                clear y4 ly
                obtain ⟨tb, to_, f, N1, nn, nc, rfl, htl, hf, t0, t1, t2, t3, t4, t5, t6, t7, t8, t9, t10, -⟩ := qField_at (HFL.out.1.mono qFieldR_mono HB2.out) hltkk2
                have hty := HO1.out kk2 f hf
                obtain ⟨k0, k1, k2, k3, k4, k5⟩ := six_cells HX5.out (below_step HBZ.out HB2.out)
                have lx := (HX5.out.below (below_step HBZ.out HB2.out) HX5.out.lt).lt
                have hky2 := HKY.out.below HB2.out HKY.out.lt
                obtain ⟨y0, y1, y2, y3, y4, y5⟩ := six_cells hky2 (Below.refl _ _)
                have ly := hky2.lt
                clear hf hky2
                unfold TypeOk at hty
                rcases hty with ⟨hkd, hof, mu, u, hun, hu, hnm⟩ | ⟨hno, hun⟩
                · have hmu : mu < p2 := by have h8 := (src_parts XS5.out).2.1.1.len; have := (List.getElem?_eq_some_iff.1 hu).1; omega
                  rw [hkd] at t1
                  rw [hun] at t5
                  have HUU := Lib.hid hu
                  have HNM := Lib.hid hnm
                  have x1 : f.type.of_.toList.isEmpty = false := noStr_ne hof
                  have x2 : ¬ f.type.of_.toList = [] := by intro e; rw [e] at x1; cases x1
                  clear hkd hof hun hu hnm
                  go_upto_region 20 with fail
                  have hal : Below wr.heap.size wr (wr.alloc (.cells #[.int .i64 1, .int .i64 f.type.lo, .int .i64 f.type.hi, .string f.type.of_, .int .i64 (mu : Int), .slice N1 nn nc] 42)) := (Below.refl _ _).alloc (Nat.le_refl _) _
                  have hkt : Blk (wr.alloc (.cells #[.int .i64 1, .int .i64 f.type.lo, .int .i64 f.type.hi, .string f.type.of_, .int .i64 (mu : Int), .slice N1 nn nc] 42)) wr.heap.size 42 #[.int .i64 1, .int .i64 f.type.lo, .int .i64 f.type.hi, .string f.type.of_, .int .i64 (mu : Int), .slice N1 nn nc] := Blk.new _ _ _
                  have HBT := Lib.hid (below_step HB2.out hal)
                  obtain ⟨gt, hgt⟩ : ∃ g, g = wr.heap.size := ⟨_, rfl⟩
                  rw [← hgt] at hkt ⊢
                  clear hal hgt
                  generalize wr.alloc (.cells #[.int .i64 1, .int .i64 f.type.lo, .int .i64 f.type.hi, .string f.type.of_, .int .i64 (mu : Int), .slice N1 nn nc] 42) = wt at hkt HBT  ⊢
                  clear k0 k1 k2 k3 k4 k5 lx y0 y1 y2 y3 y4 y5 ly t0 t1 t2 t3 t4 t5 t6 t7 t8 t9 t10 htl
                  have HBT5 := Lib.hid (below_step HBZ.out HBT.out)
                  obtain ⟨k0, k1, k2, k3, k4, k5⟩ := six_cells HX5.out HBT5.out
                  have lx := (HX5.out.below HBT5.out HX5.out.lt).lt
                  obtain ⟨g0, g1', g2, g3, g4, g5⟩ := six_cells hkt (Below.refl _ _)
                  have lt := hkt.lt
                  clear hkt
                  obtain ⟨ub, uo, u', rfl, hul, hu', u0, -⟩ := qUnit_at ((src_parts (qSourceR_mono _ _ HBT5.out _ _ XS5.out)).2.1.1) hmu
                  obtain rfl : u = u' := by have := HUU.out; rw [hu'] at this; exact (Option.some.inj this).symm
                  rw [HNM.out] at u0
                  have hm0 : (0 : Int) ≤ (mu : Int) := by omega
                  have hm1 : (mu : Int) < (p2 : Int) := by omega
                  have v0 : decide ((0 : Int) ≤ (mu : Int)) = true := by simp
                  have v1 : decide (p2 ≤ mu) = false := by simp; omega
                  have v2 : decide ((p2 : Int) ≤ (mu : Int)) = false := by simp; omega
                  have v3 : decide ((mu : Int) < -1) = false := by simp <;> omega
                  clear hu' HUU HNM
                  go_upto_region 21 with fail
                  go_quiet (fail)
                  go_wp2_with fail
                  go_roundg (f1 - (kk2 + 1))
                  case measure => have := HQ2.out; omega
                  case rel => exact ⟨kk2 + 1, by omega, rfl, by go_num, below_drewN HBT.out _⟩
                · rw [hun] at t5
                  clear hun
                  by_cases hkd : f.type.kind = 1
                  · have hof : f.type.of_ = noStr := Classical.byContradiction fun h => hno ⟨hkd, h⟩
                    rw [hkd] at t1
                    have x1 : f.type.of_.toList.isEmpty = true := by rw [hof, noStr_list]; rfl
                    have x2 : f.type.of_.toList = [] := by rw [hof, noStr_list]
                    clear hkd hof hno
                    go_upto_region 20 with fail
                    have hal : Below wr.heap.size wr (wr.alloc (.cells #[.int .i64 1, .int .i64 f.type.lo, .int .i64 f.type.hi, .string f.type.of_, .int .i64 (-1), .slice N1 nn nc] 42)) := (Below.refl _ _).alloc (Nat.le_refl _) _
                    have hkt : Blk (wr.alloc (.cells #[.int .i64 1, .int .i64 f.type.lo, .int .i64 f.type.hi, .string f.type.of_, .int .i64 (-1), .slice N1 nn nc] 42)) wr.heap.size 42 #[.int .i64 1, .int .i64 f.type.lo, .int .i64 f.type.hi, .string f.type.of_, .int .i64 (-1), .slice N1 nn nc] := Blk.new _ _ _
                    have HBT := Lib.hid (below_step HB2.out hal)
                    obtain ⟨gt, hgt⟩ : ∃ g, g = wr.heap.size := ⟨_, rfl⟩
                    rw [← hgt] at hkt ⊢
                    clear hal hgt
                    generalize wr.alloc (.cells #[.int .i64 1, .int .i64 f.type.lo, .int .i64 f.type.hi, .string f.type.of_, .int .i64 (-1), .slice N1 nn nc] 42) = wt at hkt HBT  ⊢
                    clear k0 k1 k2 k3 k4 k5 lx y0 y1 y2 y3 y4 y5 ly t0 t1 t2 t3 t4 t5 t6 t7 t8 t9 t10 htl
                    have HBT5 := Lib.hid (below_step HBZ.out HBT.out)
                    obtain ⟨k0, k1, k2, k3, k4, k5⟩ := six_cells HX5.out HBT5.out
                    have lx := (HX5.out.below HBT5.out HX5.out.lt).lt
                    obtain ⟨g0, g1', g2, g3, g4, g5⟩ := six_cells hkt (Below.refl _ _)
                    have lt := hkt.lt
                    clear hkt
                    go_upto_region 21 with fail
                    go_quiet (fail)
                    go_wp2_with fail
                    go_roundg (f1 - (kk2 + 1))
                    case measure => have := HQ2.out; omega
                    case rel => exact ⟨kk2 + 1, by omega, rfl, by go_num, below_drewN HBT.out _⟩
                  · have x1 : decide (f.type.kind = 1) = false := by simpa using hkd
                    have x2 : (f.type.kind == 1) = false := by simpa using hkd
                    clear hkd hno
                    go_upto_region 20 with fail
                    have hal : Below wr.heap.size wr (wr.alloc (.cells #[.int .i64 f.type.kind, .int .i64 f.type.lo, .int .i64 f.type.hi, .string f.type.of_, .int .i64 (-1), .slice N1 nn nc] 42)) := (Below.refl _ _).alloc (Nat.le_refl _) _
                    have hkt : Blk (wr.alloc (.cells #[.int .i64 f.type.kind, .int .i64 f.type.lo, .int .i64 f.type.hi, .string f.type.of_, .int .i64 (-1), .slice N1 nn nc] 42)) wr.heap.size 42 #[.int .i64 f.type.kind, .int .i64 f.type.lo, .int .i64 f.type.hi, .string f.type.of_, .int .i64 (-1), .slice N1 nn nc] := Blk.new _ _ _
                    have HBT := Lib.hid (below_step HB2.out hal)
                    obtain ⟨gt, hgt⟩ : ∃ g, g = wr.heap.size := ⟨_, rfl⟩
                    rw [← hgt] at hkt ⊢
                    clear hal hgt
                    generalize wr.alloc (.cells #[.int .i64 f.type.kind, .int .i64 f.type.lo, .int .i64 f.type.hi, .string f.type.of_, .int .i64 (-1), .slice N1 nn nc] 42) = wt at hkt HBT  ⊢
                    clear k0 k1 k2 k3 k4 k5 lx y0 y1 y2 y3 y4 y5 ly t0 t1 t2 t3 t4 t5 t6 t7 t8 t9 t10 htl
                    have HBT5 := Lib.hid (below_step HBZ.out HBT.out)
                    obtain ⟨k0, k1, k2, k3, k4, k5⟩ := six_cells HX5.out HBT5.out
                    have lx := (HX5.out.below HBT5.out HX5.out.lt).lt
                    obtain ⟨g0, g1', g2, g3, g4, g5⟩ := six_cells hkt (Below.refl _ _)
                    have lt := hkt.lt
                    clear hkt
                    go_upto_region 21 with fail
                    go_quiet (fail)
                    go_wp2_with fail
                    go_roundg (f1 - (kk2 + 1))
                    case measure => have := HQ2.out; omega
                    case rel => exact ⟨kk2 + 1, by omega, rfl, by go_num, below_drewN HBT.out _⟩
            · have hnkk2 : ¬ (kk2 : Int) < (f1 : Int) := by omega
              as_aux_lemma =>
                obtain ⟨wv, rfl⟩ : ∃ x, x = wr := ⟨_, rfl⟩
                have HBV := Lib.hid (below_step HBZ.out HB2.out)
                have hky3 := HKY.out.below HB2.out HKY.out.lt
                have hdp := HDP.out.mono qDepR_mono HB2.out
                obtain ⟨y0, y1, y2, y3, y4', y5⟩ := six_cells hky3 (Below.refl _ _)
                clear HKY HDP HFL HBZ HB2 HQ2
                have HKY := Lib.hid hky3
                have HDP := Lib.hid hdp
                have dle := hdp.1.le
                clear hky3 hdp y0 y1 y2 y3 y4'
                go_wp2_with fail
                clear y4 y5 ly
                go_loopg [10] d1 (fun q i wr => ∃ k : Nat, k ≤ d1 ∧ q = d1 - k ∧ i = .int .i64 k ∧ Below wv.heap.size wv wr)
                case atStart => exact ⟨0, Nat.zero_le _, rfl, rfl, Below.refl _ _⟩
                case round =>
                  obtain ⟨kk3, hkk3, hq, rfl, hb⟩ := hrel
                  have HQ3 := Lib.hid hq
                  have HB3 := Lib.hid hb
                  clear hq hb
                  have hky3 := HKY.out.below HB3.out HKY.out.lt
                  obtain ⟨y0, y1, y2, y3, y4, y5⟩ := six_cells hky3 (Below.refl _ _)
                  have ly := hky3.lt
                  clear hky3 y0 y1 y2 y3 y4
                  by_cases hltkk3 : kk3 < d1
                  · have hnkk3 : (kk3 : Int) < (d1 : Int) := by omega
                    have h0kk3 : (0 : Int) ≤ (kk3 : Int) := by omega
                    as_aux_lemma =>
                      clear y5 ly
                      obtain ⟨db, dof, d, N1, nn, nc, V1, vn, vc, rfl, hdl, hd, z0, z1, z2, z3, hnm, hsr⟩ := qDep_at (HDP.out.1.mono qDepR_mono HB3.out) hltkk3
                      obtain ⟨hdn, hdst, hds⟩ := HO2.out kk3 d hd
                      obtain rfl : nn = vn := by rw [hnm.1.len, hsr.1.len, hdn]
                      have HDT := Lib.hid hdst
                      have HDS := Lib.hid hds
                      have nnle := hnm.1.le
                      obtain ⟨k0, k1, k2, k3, k4, k5⟩ := six_cells HX5.out (below_step HBV.out HB3.out)
                      have lx := (HX5.out.below (below_step HBV.out HB3.out) HX5.out.lt).lt
                      have hky3 := HKY.out.below HB3.out HKY.out.lt
                      obtain ⟨y0, y1, y2, y3, y4, y5⟩ := six_cells hky3 (Below.refl _ _)
                      have ly := hky3.lt
                      clear hd hdn hdst hds hky3
                      go_upto_region 27 with fail
                      have hal : Below wr.heap.size wr (wr.alloc (.cells #[.slice N1 nn nc, .string d.name, .slice V1 nn vc, .int .i64 d.dst] 50)) := (Below.refl _ _).alloc (Nat.le_refl _) _
                      have hkd : Blk (wr.alloc (.cells #[.slice N1 nn nc, .string d.name, .slice V1 nn vc, .int .i64 d.dst] 50)) wr.heap.size 50 #[.slice N1 nn nc, .string d.name, .slice V1 nn vc, .int .i64 d.dst] := Blk.new _ _ _
                      have HBDV := Lib.hid (below_step HB3.out hal)
                      have HNM := Lib.hid (hnm.1.mono strR_mono hal)
                      have HSR := Lib.hid (hsr.1.mono iR_mono hal)
                      obtain ⟨gd, hgd⟩ : ∃ g, g = wr.heap.size := ⟨_, rfl⟩
                      rw [← hgd] at hkd ⊢
                      clear hal hgd
                      generalize wr.alloc (.cells #[.slice N1 nn nc, .string d.name, .slice V1 nn vc, .int .i64 d.dst] 50) = wd at hkd HBDV HNM HSR ⊢
                      clear hnm hsr k0 k1 k2 k3 k4 k5 lx y0 y1 y2 y3 y4 y5 ly z0 z1 z2 z3 hdl
                      have HBD0 := Lib.hid (below_step HBV.out HBDV.out)
                      obtain ⟨k0, k1, k2, k3, k4, k5⟩ := six_cells HX5.out HBD0.out
                      have lx := (HX5.out.below HBD0.out HX5.out.lt).lt
                      have d0 := hkd.cell 0
                      have d1' := hkd.cell 1
                      have d2 := hkd.cell 2
                      have d3 := hkd.cell 3
                      simp only [List.getElem?_toArray, List.getElem?_cons_zero, List.getElem?_cons_succ] at d0 d1' d2 d3
                      have ld := hkd.lt
                      have HKD0 := Lib.hid hkd
                      clear hkd
                      go_wp2_with fail
                      refine (field_yes _ _ _ _ _ _ _ _ _ _ _ _ _ _ _ _ _ _ x _ _ _ _ ((src_parts (qSourceR_mono _ _ HBD0.out _ _ XS5.out)).2.2.1.1) HDT.out).mono ?_
                      rintro e we ⟨rfl, hbe⟩
                      clear k0 k1 k2 k3 k4 k5 lx d0 d1' d2 d3 ld
                      have HBD := Lib.hid (below_step HBD0.out hbe)
                      have HAL := Lib.hid (below_step HBDV.out hbe)
                      have HKD := Lib.hid (HKD0.out.below hbe HKD0.out.lt)
                      have hn2 := HNM.out.mono strR_mono hbe
                      have hs2 := HSR.out.mono iR_mono hbe
                      clear HNM HSR
                      have HNM := Lib.hid hn2
                      have HSR := Lib.hid hs2
                      clear hbe HBD0 HKD0 hn2 hs2
                      obtain ⟨wo3, rfl⟩ : ∃ x, x = wr := ⟨_, rfl⟩
                      have hkd4 := HKD.out
                      have d2 := hkd4.cell 2
                      simp only [List.getElem?_toArray, List.getElem?_cons_zero, List.getElem?_cons_succ] at d2
                      have ld := hkd4.lt
                      clear hkd4
                      go_wp2_with fail
                      clear d2 ld
                      go_loopg [12] nn (fun q i wr => ∃ k : Nat, k ≤ nn ∧ q = nn - k ∧ i = .int .i64 k ∧ Below we.heap.size we wr)
                      case atStart => exact ⟨0, Nat.zero_le _, rfl, rfl, Below.refl _ _⟩
                      case round =>
                        obtain ⟨kk4, hkk4, hq, rfl, hb⟩ := hrel
                        have HQ4 := Lib.hid hq
                        have HB4 := Lib.hid hb
                        clear hq hb
                        have hkd4 := HKD.out.below HB4.out HKD.out.lt
                        have d2 := hkd4.cell 2
                        simp only [List.getElem?_toArray, List.getElem?_cons_zero, List.getElem?_cons_succ] at d2
                        have ld := hkd4.lt
                        clear hkd4
                        by_cases hltkk4 : kk4 < nn
                        · have hnkk4 : (kk4 : Int) < (nn : Int) := by omega
                          have h0kk4 : (0 : Int) ≤ (kk4 : Int) := by omega
                          as_aux_lemma =>
                            clear d2 ld
                            obtain ⟨vb, vo, a, rfl, hvl, ha, a0⟩ := i_at (HSR.out.mono iR_mono HB4.out) hltkk4
                            obtain ⟨nb, no, b, rfl, hnl, hb_, b0⟩ := str_at (HNM.out.mono strR_mono HB4.out) hltkk4
                            have HFD := Lib.hid (HDS.out kk4 a b ha hb_)
                            obtain ⟨k0, k1, k2, k3, k4, k5⟩ := six_cells HX5.out (below_step HBD.out HB4.out)
                            have lx := (HX5.out.below (below_step HBD.out HB4.out) HX5.out.lt).lt
                            have hkd4 := HKD.out.below HB4.out HKD.out.lt
                            have d0 := hkd4.cell 0
                            have d2 := hkd4.cell 2
                            simp only [List.getElem?_toArray, List.getElem?_cons_zero, List.getElem?_cons_succ] at d0 d2
                            have ld := hkd4.lt
                            have HSC := Lib.hid ((src_parts (qSourceR_mono _ _ (below_step HBD.out HB4.out) _ _ XS5.out)).2.2.1.1)
                            clear ha hb_ hkd4
                            go_upto_region 32 with fail
                            go_region_held3 (fun w' => w'.cell? ⟨gx, 0, none⟩ = some (.slice (some ⟨ib, io, none⟩) p1 q1) ∧ w'.cell? ⟨gx, 1, none⟩ = some (.slice X2 p2 q2) ∧ w'.cell? ⟨gx, 2, none⟩ = some (.slice (some ⟨sb, so, none⟩) p3 q3) ∧ w'.cell? ⟨gx, 3, none⟩ = some (.slice X4 p4 q4) ∧ w'.cell? ⟨gx, 4, none⟩ = some (.slice X5 p5 q5) ∧ w'.cell? ⟨gx, 5, none⟩ = some (.slice X6 p6 q6) ∧ w'.cell? ⟨gd, 0, none⟩ = some (.slice (some ⟨nb, no, none⟩) nn nc) ∧ w'.cell? ⟨gd, 2, none⟩ = some (.slice (some ⟨vb, vo, none⟩) nn vc) ∧ w'.cell? ⟨vb, vo + kk4, none⟩ = some (.int .i64 a) ∧ w'.cell? ⟨nb, no + kk4, none⟩ = some (.string b) ∧ Below wr.heap.size wr w')
                              (first | (refine ⟨?_, ?_, ?_, ?_, ?_, ?_, ?_, ?_, ?_, ?_, ?_⟩ <;> first | assumption | exact (Below.refl _ _).drew | (simp only [go_sem]; assumption)))
                              (first
                                | (go_at_call 16; ((with_reducible refine (field_yes _ _ _ _ _ _ _ _ _ _ _ _ _ _ _ _ _ _ x _ _ _ _ ?_ HFD.out).mono ?_)); refine HSC.out.mono qSchemaR_mono ?_; (first | assumption | (go_split_ands; assumption)); rintro e wc ⟨rfl, hbc⟩
                                   have hbz : Below wr.heap.size wr wc := by
                                     refine below_step ?_ hbc
                                     (first | assumption | (go_split_ands; assumption))
                                   have r_k0 := (hbz.cell (p := ⟨gx, 0, none⟩) lx).trans k0
                                   have r_k1 := (hbz.cell (p := ⟨gx, 1, none⟩) lx).trans k1
                                   have r_k2 := (hbz.cell (p := ⟨gx, 2, none⟩) lx).trans k2
                                   have r_k3 := (hbz.cell (p := ⟨gx, 3, none⟩) lx).trans k3
                                   have r_k4 := (hbz.cell (p := ⟨gx, 4, none⟩) lx).trans k4
                                   have r_k5 := (hbz.cell (p := ⟨gx, 5, none⟩) lx).trans k5
                                   have r_d0 := (hbz.cell (p := ⟨gd, 0, none⟩) ld).trans d0
                                   have r_d2 := (hbz.cell (p := ⟨gd, 2, none⟩) ld).trans d2
                                   have r_a0 := (hbz.cell (p := ⟨vb, vo + kk4, none⟩) hvl).trans a0
                                   have r_b0 := (hbz.cell (p := ⟨nb, no + kk4, none⟩) hnl).trans b0))
                            all_goals
                              have HBE := Lib.hid (below_step HB4.out hbz)
                              clear hbz hbc
                              go_wp2_with fail
                              go_roundg (nn - (kk4 + 1))
                              case measure => have := HQ4.out; omega
                              case rel => exact ⟨kk4 + 1, by omega, rfl, by go_num, HBE.out⟩
                        · have hnkk4 : ¬ (kk4 : Int) < (nn : Int) := by omega
                          as_aux_lemma =>
                            go_wp2_with fail
                            go_roundg (d1 - (kk3 + 1))
                            case measure => have := HQ3.out; omega
                            case rel => exact ⟨kk3 + 1, by omega, rfl, by go_num, below_step HAL.out HB4.out⟩
                  · have hnkk3 : ¬ (kk3 : Int) < (d1 : Int) := by omega
                    as_aux_lemma =>
                      go_wp2_with fail
                      go_roundg (p3 - (k + 1))
                      case measure => have := HQ.out; omega
                      case rel => exact ⟨k + 1, by omega, rfl, by go_num, below_step HBV.out HB3.out⟩
      · have hnk : ¬ (k : Int) < (p3 : Int) := by omega
        as_aux_lemma =>
          have hbo := HBR.out
          clear HBR HQ
          have HBO := Lib.hid hbo
          clear hbo
          obtain ⟨wo1, rfl⟩ : ∃ x, x = wr := ⟨_, rfl⟩
          go_wp2_with fail
          clear k0 k1 k2 k3 k4 k5 lx
          go_loopg [13] p4 (fun q i wr => ∃ k : Nat, k ≤ p4 ∧ q = p4 - k ∧ i = .int .i64 k ∧ Below w5.heap.size w5 wr)
          case atStart => exact ⟨0, Nat.zero_le _, rfl, rfl, HBO.out⟩
          case round =>
            obtain ⟨kr, hkr, hq, rfl, hb⟩ := hrel
            have HQR := Lib.hid hq
            have HBR := Lib.hid hb
            clear hq hb
            obtain ⟨k0, k1, k2, k3, k4, k5⟩ := six_cells HX5.out HBR.out
            have lx := (HX5.out.below HBR.out HX5.out.lt).lt
            by_cases hltkr : kr < p4
            · have hnkr : (kr : Int) < (p4 : Int) := by omega
              have h0kr : (0 : Int) ≤ (kr : Int) := by omega
              as_aux_lemma =>
                obtain ⟨rb, ro, r, FA, fa, fc, WA, wa, wc, SA, sa, sc, rfl, hrl, hr, t0, t1, t2, t3, t4, hfr, hwh, hse⟩ := qRule_at ((src_parts (qSourceR_mono _ _ HBR.out _ _ XS5.out)).2.2.2.1.1) hltkr
                obtain ⟨hcl, hrf, hrw, hrs⟩ := MO.out.rules kr r hr
                have HCL := Lib.hid hcl
                have HRF := Lib.hid hrf
                have HRW := Lib.hid hrw
                have HRS := Lib.hid hrs
                have le1 := hfr.1.le
                have le2 := hwh.1.le
                have le3 := hse.1.le
                clear hr hcl hrf hrw hrs
                go_upto_region 38 with fail
                have hal : Below wr.heap.size wr (wr.alloc (.cells #[.string r.head, .int .i64 r.schema, .slice FA fa fc, .slice WA wa wc, .slice SA sa sc] 56)) := (Below.refl _ _).alloc (Nat.le_refl _) _
                have hkr : Blk (wr.alloc (.cells #[.string r.head, .int .i64 r.schema, .slice FA fa fc, .slice WA wa wc, .slice SA sa sc] 56)) wr.heap.size 56 #[.string r.head, .int .i64 r.schema, .slice FA fa fc, .slice WA wa wc, .slice SA sa sc] := Blk.new _ _ _
                have HBQ := Lib.hid (below_step HBR.out hal)
                have HFR0 := Lib.hid (hfr.1.mono qFromR_mono hal)
                have HWH0 := Lib.hid (hwh.1.mono qAtomR_mono hal)
                have HSE0 := Lib.hid (hse.1.mono qSetR_mono hal)
                obtain ⟨gr, hgr⟩ : ∃ g, g = wr.heap.size := ⟨_, rfl⟩
                rw [← hgr] at hkr ⊢
                clear hal hgr
                generalize wr.alloc (.cells #[.string r.head, .int .i64 r.schema, .slice FA fa fc, .slice WA wa wc, .slice SA sa sc] 56) = wq at hkr HBQ HFR0 HWH0 HSE0 ⊢
                clear hfr hwh hse k0 k1 k2 k3 k4 k5 lx t0 t1 t2 t3 t4 hrl
                obtain ⟨k0, k1, k2, k3, k4, k5⟩ := six_cells HX5.out HBQ.out
                have lx := (HX5.out.below HBQ.out HX5.out.lt).lt
                have r0 := hkr.cell 0
                have r1 := hkr.cell 1
                simp only [List.getElem?_toArray, List.getElem?_cons_zero, List.getElem?_cons_succ] at r0 r1
                have lr := hkr.lt
                have HKR0 := Lib.hid hkr
                clear hkr
                go_wp2_with fail
                refine (called_yes _ _ _ _ _ _ _ _ _ _ _ _ _ _ _ _ _ _ x _ _ _ ((src_parts (qSourceR_mono _ _ HBQ.out _ _ XS5.out)).2.2.1.1) HCL.out).mono ?_
                rintro e wu6 ⟨rfl, hbe⟩
                clear k0 k1 k2 k3 k4 k5 lx r0 r1 lr
                have HB7 := Lib.hid (below_step HBQ.out hbe)
                have HKRB := Lib.hid (HKR0.out.below hbe HKR0.out.lt)
                have HFR := Lib.hid (HFR0.out.mono qFromR_mono hbe)
                have HWH := Lib.hid (HWH0.out.mono qAtomR_mono hbe)
                have HSE := Lib.hid (HSE0.out.mono qSetR_mono hbe)
                clear hbe HKR0 HFR0 HWH0 HSE0 HBQ HBR HCL
                obtain ⟨wo5, rfl⟩ : ∃ x, x = wr := ⟨_, rfl⟩
                have hk9 := HKRB.out
                have r2 := hk9.cell 2
                simp only [List.getElem?_toArray, List.getElem?_cons_zero, List.getElem?_cons_succ] at r2
                have lr := hk9.lt
                clear hk9
                go_wp2_with fail
                clear r2 lr
                go_loopg [15] fa (fun q i wr => ∃ k : Nat, k ≤ fa ∧ q = fa - k ∧ i = .int .i64 k ∧ Below wu6.heap.size wu6 wr)
                case atStart => exact ⟨0, Nat.zero_le _, rfl, rfl, Below.refl _ _⟩
                case round =>
                  obtain ⟨kk6, hkk6, hq, rfl, hb⟩ := hrel
                  have HQ8 := Lib.hid hq
                  have HB8 := Lib.hid hb
                  clear hq hb
                  have hkr9 := HKRB.out.below HB8.out HKRB.out.lt
                  have r2 := hkr9.cell 2
                  simp only [List.getElem?_toArray, List.getElem?_cons_zero, List.getElem?_cons_succ] at r2
                  have lr := hkr9.lt
                  clear hkr9
                  by_cases hltkk6 : kk6 < fa
                  · have hnkk6 : (kk6 : Int) < (fa : Int) := by omega
                    have h0kk6 : (0 : Int) ≤ (kk6 : Int) := by omega
                    as_aux_lemma =>
                      clear r2 lr
                      obtain ⟨fb, fo, f, rfl, hfl, hf, f0, f1, f2, f3, f4, f5, f6, f7⟩ := qFrom_at (HFR.out.mono qFromR_mono HB8.out) hltkk6
                      have HCA := Lib.hid (HRF.out kk6 f hf).1
                      have HME := Lib.hid (HRF.out kk6 f hf).2
                      have HFS := Lib.hid (HFR.out.mono qFromR_mono HB8.out)
                      have HLE := Lib.hid (show kk6 ≤ r.froms.length by have := HFR.out.len; omega)
                      clear hf f0
                      have hkr9 := HKRB.out.below HB8.out HKRB.out.lt
                      have r2 := hkr9.cell 2
                      simp only [List.getElem?_toArray, List.getElem?_cons_zero, List.getElem?_cons_succ] at r2
                      have lr := hkr9.lt
                      clear hkr9
                      obtain ⟨k0, k1, k2, k3, k4, k5⟩ := six_cells HX5.out (below_step HB7.out HB8.out)
                      have lx := (HX5.out.below (below_step HB7.out HB8.out) HX5.out.lt).lt
                      have HSC := Lib.hid ((src_parts (qSourceR_mono _ _ (below_step HB7.out HB8.out) _ _ XS5.out)).2.2.1.1)
                      go_upto_region 43 with fail
                      go_region_held3 (fun w' => w'.cell? ⟨gx, 0, none⟩ = some (.slice X1 p1 q1) ∧ w'.cell? ⟨gx, 1, none⟩ = some (.slice X2 p2 q2) ∧ w'.cell? ⟨gx, 2, none⟩ = some (.slice X3 p3 q3) ∧ w'.cell? ⟨gx, 3, none⟩ = some (.slice (some ⟨rb, ro, none⟩) p4 q4) ∧ w'.cell? ⟨gx, 4, none⟩ = some (.slice X5 p5 q5) ∧ w'.cell? ⟨gx, 5, none⟩ = some (.slice X6 p6 q6) ∧ w'.cell? ⟨gr, 2, none⟩ = some (.slice (some ⟨fb, fo, none⟩) fa fc) ∧ w'.cell? ⟨fb, fo + kk6 * 8 + 1, none⟩ = some (.string f.kind) ∧ w'.cell? ⟨fb, fo + kk6 * 8 + 2, none⟩ = some (.int .i64 f.schema) ∧ w'.cell? ⟨fb, fo + kk6 * 8 + 3, none⟩ = some (.string f.of_.name) ∧ w'.cell? ⟨fb, fo + kk6 * 8 + 4, none⟩ = some (.string f.of_.path) ∧ w'.cell? ⟨fb, fo + kk6 * 8 + 5, none⟩ = some (.int .i64 f.of_.var) ∧ w'.cell? ⟨fb, fo + kk6 * 8 + 6, none⟩ = some (.int .i64 f.of_.field) ∧ w'.cell? ⟨fb, fo + kk6 * 8 + 7, none⟩ = some (.int .i64 f.of_.n) ∧ Below wr.heap.size wr w')
                        (first | (refine ⟨?_, ?_, ?_, ?_, ?_, ?_, ?_, ?_, ?_, ?_, ?_, ?_, ?_, ?_, ?_⟩ <;> first | assumption | exact (Below.refl _ _).drew | (simp only [go_sem]; assumption)))
                        (first
                          | (go_at_call 17; ((with_reducible refine (called_yes _ _ _ _ _ _ _ _ _ _ _ _ _ _ _ _ _ _ x _ _ _ ?_ HCA.out).mono ?_)); refine HSC.out.mono qSchemaR_mono ?_; (first | assumption | (go_split_ands; assumption)); rintro e wc ⟨rfl, hbc⟩
                             have hbz : Below wr.heap.size wr wc := by
                               refine below_step ?_ hbc
                               (first | assumption | (go_split_ands; assumption))
                             have r_k0 := (hbz.cell (p := ⟨gx, 0, none⟩) lx).trans k0
                             have r_k1 := (hbz.cell (p := ⟨gx, 1, none⟩) lx).trans k1
                             have r_k2 := (hbz.cell (p := ⟨gx, 2, none⟩) lx).trans k2
                             have r_k3 := (hbz.cell (p := ⟨gx, 3, none⟩) lx).trans k3
                             have r_k4 := (hbz.cell (p := ⟨gx, 4, none⟩) lx).trans k4
                             have r_k5 := (hbz.cell (p := ⟨gx, 5, none⟩) lx).trans k5
                             have r_r2 := (hbz.cell (p := ⟨gr, 2, none⟩) lr).trans r2
                             have r_f1 := (hbz.cell (p := ⟨fb, fo + kk6 * 8 + 1, none⟩) hfl).trans f1
                             have r_f2 := (hbz.cell (p := ⟨fb, fo + kk6 * 8 + 2, none⟩) hfl).trans f2
                             have r_f3 := (hbz.cell (p := ⟨fb, fo + kk6 * 8 + 3, none⟩) hfl).trans f3
                             have r_f4 := (hbz.cell (p := ⟨fb, fo + kk6 * 8 + 4, none⟩) hfl).trans f4
                             have r_f5 := (hbz.cell (p := ⟨fb, fo + kk6 * 8 + 5, none⟩) hfl).trans f5
                             have r_f6 := (hbz.cell (p := ⟨fb, fo + kk6 * 8 + 6, none⟩) hfl).trans f6
                             have r_f7 := (hbz.cell (p := ⟨fb, fo + kk6 * 8 + 7, none⟩) hfl).trans f7)
                          | (go_at_call 18; ((with_reducible refine (means_yes _ _ _ _ _ _ _ _ _ _ _ _ _ _ _ _ _ _ (some ⟨fb, fo, none⟩) fa fc x r.froms kk6 f.of_ _ ?_ ?_ HLE.out HME.out).mono ?_)); refine HSC.out.mono qSchemaR_mono ?_; (first | assumption | (go_split_ands; assumption)); refine HFS.out.mono qFromR_mono ?_; (first | assumption | (go_split_ands; assumption)); rintro e wc ⟨rfl, hbc⟩
                             have hbz : Below wr.heap.size wr wc := by
                               refine below_step ?_ hbc
                               (first | assumption | (go_split_ands; assumption))
                             have r_k0 := (hbz.cell (p := ⟨gx, 0, none⟩) lx).trans k0
                             have r_k1 := (hbz.cell (p := ⟨gx, 1, none⟩) lx).trans k1
                             have r_k2 := (hbz.cell (p := ⟨gx, 2, none⟩) lx).trans k2
                             have r_k3 := (hbz.cell (p := ⟨gx, 3, none⟩) lx).trans k3
                             have r_k4 := (hbz.cell (p := ⟨gx, 4, none⟩) lx).trans k4
                             have r_k5 := (hbz.cell (p := ⟨gx, 5, none⟩) lx).trans k5
                             have r_r2 := (hbz.cell (p := ⟨gr, 2, none⟩) lr).trans r2
                             have r_f1 := (hbz.cell (p := ⟨fb, fo + kk6 * 8 + 1, none⟩) hfl).trans f1
                             have r_f2 := (hbz.cell (p := ⟨fb, fo + kk6 * 8 + 2, none⟩) hfl).trans f2
                             have r_f3 := (hbz.cell (p := ⟨fb, fo + kk6 * 8 + 3, none⟩) hfl).trans f3
                             have r_f4 := (hbz.cell (p := ⟨fb, fo + kk6 * 8 + 4, none⟩) hfl).trans f4
                             have r_f5 := (hbz.cell (p := ⟨fb, fo + kk6 * 8 + 5, none⟩) hfl).trans f5
                             have r_f6 := (hbz.cell (p := ⟨fb, fo + kk6 * 8 + 6, none⟩) hfl).trans f6
                             have r_f7 := (hbz.cell (p := ⟨fb, fo + kk6 * 8 + 7, none⟩) hfl).trans f7))
                      all_goals
                        have HBE := Lib.hid (below_step HB8.out hbz)
                        clear hbz hbc
                        go_wp2_with fail
                        go_roundg (fa - (kk6 + 1))
                        case measure => have := HQ8.out; omega
                        case rel => exact ⟨kk6 + 1, by omega, rfl, by go_num, HBE.out⟩
                  · have hnkk6 : ¬ (kk6 : Int) < (fa : Int) := by omega
                    as_aux_lemma =>
                      obtain ⟨wu7, rfl⟩ : ∃ x, x = wr := ⟨_, rfl⟩
                      have hb9 := below_step HB7.out HB8.out
                      have hk9 := HKRB.out.below HB8.out HKRB.out.lt
                      have hf9 := HFR.out.mono qFromR_mono HB8.out
                      have hw9 := HWH.out.mono qAtomR_mono HB8.out
                      have hs9 := HSE.out.mono qSetR_mono HB8.out
                      clear HB7 HKRB HFR HWH HSE HB8 HQ8
                      have HB7 := Lib.hid hb9
                      have HKRB := Lib.hid hk9
                      have HFR := Lib.hid hf9
                      have HWH := Lib.hid hw9
                      have HSE := Lib.hid hs9
                      clear hb9 hf9 hw9 hs9
                      have r3 := hk9.cell 3
                      simp only [List.getElem?_toArray, List.getElem?_cons_zero, List.getElem?_cons_succ] at r3
                      have lr := hk9.lt
                      clear hk9
                      go_wp2_with fail
                      clear r3 lr
                      clear hnkk6 hltkk6 hkk6
                      go_loopg [16] wa (fun q i wr => ∃ k : Nat, k ≤ wa ∧ q = wa - k ∧ i = .int .i64 k ∧ Below wu7.heap.size wu7 wr)
                      case atStart => exact ⟨0, Nat.zero_le _, rfl, rfl, Below.refl _ _⟩
                      case round =>
                        obtain ⟨kk7, hkk7, hq, rfl, hb⟩ := hrel
                        have HQ8 := Lib.hid hq
                        have HB8 := Lib.hid hb
                        clear hq hb
                        have hkr9 := HKRB.out.below HB8.out HKRB.out.lt
                        have r3 := hkr9.cell 3
                        simp only [List.getElem?_toArray, List.getElem?_cons_zero, List.getElem?_cons_succ] at r3
                        have lr := hkr9.lt
                        clear hkr9
                        by_cases hltkk7 : kk7 < wa
                        · have hnkk7 : (kk7 : Int) < (wa : Int) := by omega
                          have h0kk7 : (0 : Int) ≤ (kk7 : Int) := by omega
                          as_aux_lemma =>
                            clear r3 lr
                            obtain ⟨ab, ao, c, rfl, hal_, hc, a0, a1, a2, a3, a4, a5, a6, a7, a8, a9, a10⟩ := qAtom_at (HWH.out.mono qAtomR_mono HB8.out) hltkk7
                            have HMA := Lib.hid (HRW.out kk7 c hc).1
                            have HMB := Lib.hid (HRW.out kk7 c hc).2
                            have HFS := Lib.hid (HFR.out.mono qFromR_mono HB8.out)
                            have HLE := Lib.hid (show fa ≤ r.froms.length by have := HFR.out.len; omega)
                            clear hc a0
                            have hkr9 := HKRB.out.below HB8.out HKRB.out.lt
                            have r2 := hkr9.cell 2
                            have r3 := hkr9.cell 3
                            simp only [List.getElem?_toArray, List.getElem?_cons_zero, List.getElem?_cons_succ] at r2 r3
                            have lr := hkr9.lt
                            clear hkr9
                            obtain ⟨k0, k1, k2, k3, k4, k5⟩ := six_cells HX5.out (below_step HB7.out HB8.out)
                            have lx := (HX5.out.below (below_step HB7.out HB8.out) HX5.out.lt).lt
                            have HSC := Lib.hid ((src_parts (qSourceR_mono _ _ (below_step HB7.out HB8.out) _ _ XS5.out)).2.2.1.1)
                            go_upto_region 48 with fail
                            go_region_held3 (fun w' => w'.cell? ⟨gx, 0, none⟩ = some (.slice X1 p1 q1) ∧ w'.cell? ⟨gx, 1, none⟩ = some (.slice X2 p2 q2) ∧ w'.cell? ⟨gx, 2, none⟩ = some (.slice X3 p3 q3) ∧ w'.cell? ⟨gx, 3, none⟩ = some (.slice (some ⟨rb, ro, none⟩) p4 q4) ∧ w'.cell? ⟨gx, 4, none⟩ = some (.slice X5 p5 q5) ∧ w'.cell? ⟨gx, 5, none⟩ = some (.slice X6 p6 q6) ∧ w'.cell? ⟨gr, 2, none⟩ = some (.slice FA fa fc) ∧ w'.cell? ⟨gr, 3, none⟩ = some (.slice (some ⟨ab, ao, none⟩) wa wc) ∧ w'.cell? ⟨ab, ao + kk7 * 11 + 1, none⟩ = some (.string c.a.name) ∧ w'.cell? ⟨ab, ao + kk7 * 11 + 2, none⟩ = some (.string c.a.path) ∧ w'.cell? ⟨ab, ao + kk7 * 11 + 3, none⟩ = some (.int .i64 c.a.var) ∧ w'.cell? ⟨ab, ao + kk7 * 11 + 4, none⟩ = some (.int .i64 c.a.field) ∧ w'.cell? ⟨ab, ao + kk7 * 11 + 5, none⟩ = some (.int .i64 c.a.n) ∧ w'.cell? ⟨ab, ao + kk7 * 11 + 6, none⟩ = some (.string c.b.name) ∧ w'.cell? ⟨ab, ao + kk7 * 11 + 7, none⟩ = some (.string c.b.path) ∧ w'.cell? ⟨ab, ao + kk7 * 11 + 8, none⟩ = some (.int .i64 c.b.var) ∧ w'.cell? ⟨ab, ao + kk7 * 11 + 9, none⟩ = some (.int .i64 c.b.field) ∧ w'.cell? ⟨ab, ao + kk7 * 11 + 10, none⟩ = some (.int .i64 c.b.n) ∧ Below wr.heap.size wr w')
                              (first | (refine ⟨?_, ?_, ?_, ?_, ?_, ?_, ?_, ?_, ?_, ?_, ?_, ?_, ?_, ?_, ?_, ?_, ?_, ?_, ?_⟩ <;> first | assumption | exact (Below.refl _ _).drew | (simp only [go_sem]; assumption)))
                              (first
                                | (go_at_call 18; ((with_reducible refine (means_yes _ _ _ _ _ _ _ _ _ _ _ _ _ _ _ _ _ _ FA fa fc x r.froms fa c.a _ ?_ ?_ HLE.out (by rw [HFR.out.len]; exact HMA.out)).mono ?_)); refine HSC.out.mono qSchemaR_mono ?_; (first | assumption | (go_split_ands; assumption)); refine HFS.out.mono qFromR_mono ?_; (first | assumption | (go_split_ands; assumption)); rintro e wc ⟨rfl, hbc⟩
                                   have hbz : Below wr.heap.size wr wc := by
                                     refine below_step ?_ hbc
                                     (first | assumption | (go_split_ands; assumption))
                                   have r_k0 := (hbz.cell (p := ⟨gx, 0, none⟩) lx).trans k0
                                   have r_k1 := (hbz.cell (p := ⟨gx, 1, none⟩) lx).trans k1
                                   have r_k2 := (hbz.cell (p := ⟨gx, 2, none⟩) lx).trans k2
                                   have r_k3 := (hbz.cell (p := ⟨gx, 3, none⟩) lx).trans k3
                                   have r_k4 := (hbz.cell (p := ⟨gx, 4, none⟩) lx).trans k4
                                   have r_k5 := (hbz.cell (p := ⟨gx, 5, none⟩) lx).trans k5
                                   have r_r2 := (hbz.cell (p := ⟨gr, 2, none⟩) lr).trans r2
                                   have r_r3 := (hbz.cell (p := ⟨gr, 3, none⟩) lr).trans r3
                                   have r_a1 := (hbz.cell (p := ⟨ab, ao + kk7 * 11 + 1, none⟩) hal_).trans a1
                                   have r_a2 := (hbz.cell (p := ⟨ab, ao + kk7 * 11 + 2, none⟩) hal_).trans a2
                                   have r_a3 := (hbz.cell (p := ⟨ab, ao + kk7 * 11 + 3, none⟩) hal_).trans a3
                                   have r_a4 := (hbz.cell (p := ⟨ab, ao + kk7 * 11 + 4, none⟩) hal_).trans a4
                                   have r_a5 := (hbz.cell (p := ⟨ab, ao + kk7 * 11 + 5, none⟩) hal_).trans a5
                                   have r_a6 := (hbz.cell (p := ⟨ab, ao + kk7 * 11 + 6, none⟩) hal_).trans a6
                                   have r_a7 := (hbz.cell (p := ⟨ab, ao + kk7 * 11 + 7, none⟩) hal_).trans a7
                                   have r_a8 := (hbz.cell (p := ⟨ab, ao + kk7 * 11 + 8, none⟩) hal_).trans a8
                                   have r_a9 := (hbz.cell (p := ⟨ab, ao + kk7 * 11 + 9, none⟩) hal_).trans a9
                                   have r_a10 := (hbz.cell (p := ⟨ab, ao + kk7 * 11 + 10, none⟩) hal_).trans a10)
                                | (go_at_call 18; ((with_reducible refine (means_yes _ _ _ _ _ _ _ _ _ _ _ _ _ _ _ _ _ _ FA fa fc x r.froms fa c.b _ ?_ ?_ HLE.out (by rw [HFR.out.len]; exact HMB.out)).mono ?_)); refine HSC.out.mono qSchemaR_mono ?_; (first | assumption | (go_split_ands; assumption)); refine HFS.out.mono qFromR_mono ?_; (first | assumption | (go_split_ands; assumption)); rintro e wc ⟨rfl, hbc⟩
                                   have hbz : Below wr.heap.size wr wc := by
                                     refine below_step ?_ hbc
                                     (first | assumption | (go_split_ands; assumption))
                                   have r_k0 := (hbz.cell (p := ⟨gx, 0, none⟩) lx).trans k0
                                   have r_k1 := (hbz.cell (p := ⟨gx, 1, none⟩) lx).trans k1
                                   have r_k2 := (hbz.cell (p := ⟨gx, 2, none⟩) lx).trans k2
                                   have r_k3 := (hbz.cell (p := ⟨gx, 3, none⟩) lx).trans k3
                                   have r_k4 := (hbz.cell (p := ⟨gx, 4, none⟩) lx).trans k4
                                   have r_k5 := (hbz.cell (p := ⟨gx, 5, none⟩) lx).trans k5
                                   have r_r2 := (hbz.cell (p := ⟨gr, 2, none⟩) lr).trans r2
                                   have r_r3 := (hbz.cell (p := ⟨gr, 3, none⟩) lr).trans r3
                                   have r_a1 := (hbz.cell (p := ⟨ab, ao + kk7 * 11 + 1, none⟩) hal_).trans a1
                                   have r_a2 := (hbz.cell (p := ⟨ab, ao + kk7 * 11 + 2, none⟩) hal_).trans a2
                                   have r_a3 := (hbz.cell (p := ⟨ab, ao + kk7 * 11 + 3, none⟩) hal_).trans a3
                                   have r_a4 := (hbz.cell (p := ⟨ab, ao + kk7 * 11 + 4, none⟩) hal_).trans a4
                                   have r_a5 := (hbz.cell (p := ⟨ab, ao + kk7 * 11 + 5, none⟩) hal_).trans a5
                                   have r_a6 := (hbz.cell (p := ⟨ab, ao + kk7 * 11 + 6, none⟩) hal_).trans a6
                                   have r_a7 := (hbz.cell (p := ⟨ab, ao + kk7 * 11 + 7, none⟩) hal_).trans a7
                                   have r_a8 := (hbz.cell (p := ⟨ab, ao + kk7 * 11 + 8, none⟩) hal_).trans a8
                                   have r_a9 := (hbz.cell (p := ⟨ab, ao + kk7 * 11 + 9, none⟩) hal_).trans a9
                                   have r_a10 := (hbz.cell (p := ⟨ab, ao + kk7 * 11 + 10, none⟩) hal_).trans a10))
                            all_goals
                              have HBE := Lib.hid (below_step HB8.out hbz)
                              clear hbz hbc
                              go_wp2_with fail
                              go_roundg (wa - (kk7 + 1))
                              case measure => have := HQ8.out; omega
                              case rel => exact ⟨kk7 + 1, by omega, rfl, by go_num, HBE.out⟩
                        · have hnkk7 : ¬ (kk7 : Int) < (wa : Int) := by omega
                          as_aux_lemma =>
                            obtain ⟨wu8, rfl⟩ : ∃ x, x = wr := ⟨_, rfl⟩
                            have hb9 := below_step HB7.out HB8.out
                            have hk9 := HKRB.out.below HB8.out HKRB.out.lt
                            have hf9 := HFR.out.mono qFromR_mono HB8.out
                            have hw9 := HWH.out.mono qAtomR_mono HB8.out
                            have hs9 := HSE.out.mono qSetR_mono HB8.out
                            clear HB7 HKRB HFR HWH HSE HB8 HQ8
                            have HB7 := Lib.hid hb9
                            have HKRB := Lib.hid hk9
                            have HFR := Lib.hid hf9
                            have HWH := Lib.hid hw9
                            have HSE := Lib.hid hs9
                            clear hb9 hf9 hw9 hs9
                            have r4 := hk9.cell 4
                            simp only [List.getElem?_toArray, List.getElem?_cons_zero, List.getElem?_cons_succ] at r4
                            have lr := hk9.lt
                            clear hk9
                            go_wp2_with fail
                            clear r4 lr
                            clear hnkk7 hltkk7 hkk7
                            go_loopg [17] sa (fun q i wr => ∃ k : Nat, k ≤ sa ∧ q = sa - k ∧ i = .int .i64 k ∧ Below wu8.heap.size wu8 wr)
                            case atStart => exact ⟨0, Nat.zero_le _, rfl, rfl, Below.refl _ _⟩
                            case round =>
                              obtain ⟨kk8, hkk8, hq, rfl, hb⟩ := hrel
                              have HQ8 := Lib.hid hq
                              have HB8 := Lib.hid hb
                              clear hq hb
                              have hkr9 := HKRB.out.below HB8.out HKRB.out.lt
                              have r4 := hkr9.cell 4
                              simp only [List.getElem?_toArray, List.getElem?_cons_zero, List.getElem?_cons_succ] at r4
                              have lr := hkr9.lt
                              clear hkr9
                              by_cases hltkk8 : kk8 < sa
                              · have hnkk8 : (kk8 : Int) < (sa : Int) := by omega
                                have h0kk8 : (0 : Int) ≤ (kk8 : Int) := by omega
                                as_aux_lemma =>
                                  clear r4 lr
                                  obtain ⟨ab, ao, c, rfl, hal_, hc, a0, a1, a2, a3, a4, a5, a6⟩ := qSet_at (HSE.out.mono qSetR_mono HB8.out) hltkk8
                                  have HMA := Lib.hid (HRS.out kk8 c hc).1
                                  have HMB := Lib.hid (HRS.out kk8 c hc).2
                                  have HFS := Lib.hid (HFR.out.mono qFromR_mono HB8.out)
                                  have HLE := Lib.hid (show fa ≤ r.froms.length by have := HFR.out.len; omega)
                                  clear hc
                                  have hkr9 := HKRB.out.below HB8.out HKRB.out.lt
                                  have r1 := hkr9.cell 1
                                  have r2 := hkr9.cell 2
                                  have r4 := hkr9.cell 4
                                  simp only [List.getElem?_toArray, List.getElem?_cons_zero, List.getElem?_cons_succ] at r1 r2 r4
                                  have lr := hkr9.lt
                                  clear hkr9
                                  obtain ⟨k0, k1, k2, k3, k4, k5⟩ := six_cells HX5.out (below_step HB7.out HB8.out)
                                  have lx := (HX5.out.below (below_step HB7.out HB8.out) HX5.out.lt).lt
                                  have HSC := Lib.hid ((src_parts (qSourceR_mono _ _ (below_step HB7.out HB8.out) _ _ XS5.out)).2.2.1.1)
                                  go_upto_region 53 with fail
                                  go_region_held3 (fun w' => w'.cell? ⟨gx, 0, none⟩ = some (.slice X1 p1 q1) ∧ w'.cell? ⟨gx, 1, none⟩ = some (.slice X2 p2 q2) ∧ w'.cell? ⟨gx, 2, none⟩ = some (.slice X3 p3 q3) ∧ w'.cell? ⟨gx, 3, none⟩ = some (.slice (some ⟨rb, ro, none⟩) p4 q4) ∧ w'.cell? ⟨gx, 4, none⟩ = some (.slice X5 p5 q5) ∧ w'.cell? ⟨gx, 5, none⟩ = some (.slice X6 p6 q6) ∧ w'.cell? ⟨gr, 1, none⟩ = some (.int .i64 r.schema) ∧ w'.cell? ⟨gr, 2, none⟩ = some (.slice FA fa fc) ∧ w'.cell? ⟨gr, 4, none⟩ = some (.slice (some ⟨ab, ao, none⟩) sa sc) ∧ w'.cell? ⟨ab, ao + kk8 * 7, none⟩ = some (.string c.path) ∧ w'.cell? ⟨ab, ao + kk8 * 7 + 1, none⟩ = some (.int .i64 c.field) ∧ w'.cell? ⟨ab, ao + kk8 * 7 + 2, none⟩ = some (.string c.term.name) ∧ w'.cell? ⟨ab, ao + kk8 * 7 + 3, none⟩ = some (.string c.term.path) ∧ w'.cell? ⟨ab, ao + kk8 * 7 + 4, none⟩ = some (.int .i64 c.term.var) ∧ w'.cell? ⟨ab, ao + kk8 * 7 + 5, none⟩ = some (.int .i64 c.term.field) ∧ w'.cell? ⟨ab, ao + kk8 * 7 + 6, none⟩ = some (.int .i64 c.term.n) ∧ Below wr.heap.size wr w')
                                    (first | (refine ⟨?_, ?_, ?_, ?_, ?_, ?_, ?_, ?_, ?_, ?_, ?_, ?_, ?_, ?_, ?_, ?_, ?_⟩ <;> first | assumption | exact (Below.refl _ _).drew | (simp only [go_sem]; assumption)))
                                    (first
                                      | (go_at_call 16; ((with_reducible refine (field_yes _ _ _ _ _ _ _ _ _ _ _ _ _ _ _ _ _ _ x _ _ _ _ ?_ HMA.out).mono ?_)); refine HSC.out.mono qSchemaR_mono ?_; (first | assumption | (go_split_ands; assumption)); rintro e wc ⟨rfl, hbc⟩
                                         have hbz : Below wr.heap.size wr wc := by
                                           refine below_step ?_ hbc
                                           (first | assumption | (go_split_ands; assumption))
                                         have r_k0 := (hbz.cell (p := ⟨gx, 0, none⟩) lx).trans k0
                                         have r_k1 := (hbz.cell (p := ⟨gx, 1, none⟩) lx).trans k1
                                         have r_k2 := (hbz.cell (p := ⟨gx, 2, none⟩) lx).trans k2
                                         have r_k3 := (hbz.cell (p := ⟨gx, 3, none⟩) lx).trans k3
                                         have r_k4 := (hbz.cell (p := ⟨gx, 4, none⟩) lx).trans k4
                                         have r_k5 := (hbz.cell (p := ⟨gx, 5, none⟩) lx).trans k5
                                         have r_r1 := (hbz.cell (p := ⟨gr, 1, none⟩) lr).trans r1
                                         have r_r2 := (hbz.cell (p := ⟨gr, 2, none⟩) lr).trans r2
                                         have r_r4 := (hbz.cell (p := ⟨gr, 4, none⟩) lr).trans r4
                                         have r_a0 := (hbz.cell (p := ⟨ab, ao + kk8 * 7, none⟩) hal_).trans a0
                                         have r_a1 := (hbz.cell (p := ⟨ab, ao + kk8 * 7 + 1, none⟩) hal_).trans a1
                                         have r_a2 := (hbz.cell (p := ⟨ab, ao + kk8 * 7 + 2, none⟩) hal_).trans a2
                                         have r_a3 := (hbz.cell (p := ⟨ab, ao + kk8 * 7 + 3, none⟩) hal_).trans a3
                                         have r_a4 := (hbz.cell (p := ⟨ab, ao + kk8 * 7 + 4, none⟩) hal_).trans a4
                                         have r_a5 := (hbz.cell (p := ⟨ab, ao + kk8 * 7 + 5, none⟩) hal_).trans a5
                                         have r_a6 := (hbz.cell (p := ⟨ab, ao + kk8 * 7 + 6, none⟩) hal_).trans a6)
                                      | (go_at_call 18; ((with_reducible refine (means_yes _ _ _ _ _ _ _ _ _ _ _ _ _ _ _ _ _ _ FA fa fc x r.froms fa c.term _ ?_ ?_ HLE.out (by rw [HFR.out.len]; exact HMB.out)).mono ?_)); refine HSC.out.mono qSchemaR_mono ?_; (first | assumption | (go_split_ands; assumption)); refine HFS.out.mono qFromR_mono ?_; (first | assumption | (go_split_ands; assumption)); rintro e wc ⟨rfl, hbc⟩
                                         have hbz : Below wr.heap.size wr wc := by
                                           refine below_step ?_ hbc
                                           (first | assumption | (go_split_ands; assumption))
                                         have r_k0 := (hbz.cell (p := ⟨gx, 0, none⟩) lx).trans k0
                                         have r_k1 := (hbz.cell (p := ⟨gx, 1, none⟩) lx).trans k1
                                         have r_k2 := (hbz.cell (p := ⟨gx, 2, none⟩) lx).trans k2
                                         have r_k3 := (hbz.cell (p := ⟨gx, 3, none⟩) lx).trans k3
                                         have r_k4 := (hbz.cell (p := ⟨gx, 4, none⟩) lx).trans k4
                                         have r_k5 := (hbz.cell (p := ⟨gx, 5, none⟩) lx).trans k5
                                         have r_r1 := (hbz.cell (p := ⟨gr, 1, none⟩) lr).trans r1
                                         have r_r2 := (hbz.cell (p := ⟨gr, 2, none⟩) lr).trans r2
                                         have r_r4 := (hbz.cell (p := ⟨gr, 4, none⟩) lr).trans r4
                                         have r_a0 := (hbz.cell (p := ⟨ab, ao + kk8 * 7, none⟩) hal_).trans a0
                                         have r_a1 := (hbz.cell (p := ⟨ab, ao + kk8 * 7 + 1, none⟩) hal_).trans a1
                                         have r_a2 := (hbz.cell (p := ⟨ab, ao + kk8 * 7 + 2, none⟩) hal_).trans a2
                                         have r_a3 := (hbz.cell (p := ⟨ab, ao + kk8 * 7 + 3, none⟩) hal_).trans a3
                                         have r_a4 := (hbz.cell (p := ⟨ab, ao + kk8 * 7 + 4, none⟩) hal_).trans a4
                                         have r_a5 := (hbz.cell (p := ⟨ab, ao + kk8 * 7 + 5, none⟩) hal_).trans a5
                                         have r_a6 := (hbz.cell (p := ⟨ab, ao + kk8 * 7 + 6, none⟩) hal_).trans a6))
                                  all_goals
                                    have HBE := Lib.hid (below_step HB8.out hbz)
                                    clear hbz hbc
                                    go_wp2_with fail
                                    go_roundg (sa - (kk8 + 1))
                                    case measure => have := HQ8.out; omega
                                    case rel => exact ⟨kk8 + 1, by omega, rfl, by go_num, HBE.out⟩
                              · have hnkk8 : ¬ (kk8 : Int) < (sa : Int) := by omega
                                as_aux_lemma =>
                                  go_wp2_with fail
                                  go_roundg (p4 - (kr + 1))
                                  case measure => have := HQR.out; omega
                                  case rel => exact ⟨kr + 1, by omega, rfl, by go_num, below_step HB7.out HB8.out⟩
            · have hnkr : ¬ (kr : Int) < (p4 : Int) := by omega
              as_aux_lemma =>
                have hbo := HBR.out
                clear HBR HQR HBO
                have HBO := Lib.hid hbo
                clear hbo
                obtain ⟨wo5, rfl⟩ : ∃ x, x = wr := ⟨_, rfl⟩
                go_wp2_with fail
                clear k0 k1 k2 k3 k4 k5 lx
                go_loopg [18] p5 (fun q i wr => ∃ k : Nat, k ≤ p5 ∧ q = p5 - k ∧ i = .int .i64 k ∧ Below w5.heap.size w5 wr)
                case atStart => exact ⟨0, Nat.zero_le _, rfl, rfl, HBO.out⟩
                case round =>
                  obtain ⟨kc, hkc, hq, rfl, hb⟩ := hrel
                  have HQC := Lib.hid hq
                  have HBR := Lib.hid hb
                  clear hq hb
                  obtain ⟨k0, k1, k2, k3, k4, k5⟩ := six_cells HX5.out HBR.out
                  have lx := (HX5.out.below HBR.out HX5.out.lt).lt
                  by_cases hltkc : kc < p5
                  · have hnkc : (kc : Int) < (p5 : Int) := by omega
                    have h0kc : (0 : Int) ≤ (kc : Int) := by omega
                    as_aux_lemma =>
                      obtain ⟨cb, co, c, MA, ma, mc, rfl, hrl, hr, t0, t1, t2, t3, t4, hmv⟩ := qConvert_at ((src_parts (qSourceR_mono _ _ HBR.out _ _ XS5.out)).2.2.2.2.1.1) hltkc
                      obtain ⟨hca, hcb, hcm⟩ := MO.out.converts kc c hr
                      have HCA := Lib.hid hca
                      have HCB := Lib.hid hcb
                      have HCM := Lib.hid hcm
                      have le1 := hmv.1.le
                      clear hr hca hcb hcm
                      go_upto_region 59 with fail
                      have hal : Below wr.heap.size wr (wr.alloc (.cells #[.string c.from_, .string c.to_, .int .i64 c.a, .int .i64 c.b, .slice MA ma mc] 69)) := (Below.refl _ _).alloc (Nat.le_refl _) _
                      have hkr : Blk (wr.alloc (.cells #[.string c.from_, .string c.to_, .int .i64 c.a, .int .i64 c.b, .slice MA ma mc] 69)) wr.heap.size 69 #[.string c.from_, .string c.to_, .int .i64 c.a, .int .i64 c.b, .slice MA ma mc] := Blk.new _ _ _
                      have HBQ := Lib.hid (below_step HBR.out hal)
                      have HMV0 := Lib.hid (hmv.1.mono qMoveR_mono hal)
                      obtain ⟨gc, hgc⟩ : ∃ g, g = wr.heap.size := ⟨_, rfl⟩
                      rw [← hgc] at hkr ⊢
                      clear hal hgc
                      generalize wr.alloc (.cells #[.string c.from_, .string c.to_, .int .i64 c.a, .int .i64 c.b, .slice MA ma mc] 69) = wq at hkr HBQ HMV0 ⊢
                      clear hmv k0 k1 k2 k3 k4 k5 lx t0 t1 t2 t3 t4 hrl
                      obtain ⟨k0, k1, k2, k3, k4, k5⟩ := six_cells HX5.out HBQ.out
                      have lx := (HX5.out.below HBQ.out HX5.out.lt).lt
                      have r0 := hkr.cell 0
                      have r1 := hkr.cell 1
                      have r2 := hkr.cell 2
                      have r3 := hkr.cell 3
                      simp only [List.getElem?_toArray, List.getElem?_cons_zero, List.getElem?_cons_succ] at r0 r1 r2 r3
                      have lr := hkr.lt
                      have HKR0 := Lib.hid hkr
                      clear hkr
                      go_wp2_with fail
                      refine (called_yes _ _ _ _ _ _ _ _ _ _ _ _ _ _ _ _ _ _ x c.a c.from_ _ ((src_parts (qSourceR_mono _ _ HBQ.out _ _ XS5.out)).2.2.1.1) HCA.out).mono ?_
                      rintro e we ⟨rfl, hbe⟩
                      clear k0 k1 k2 k3 k4 k5 lx r0 r1 r2 r3 lr
                      have HBE := Lib.hid (below_step HBQ.out hbe)
                      have hkr := HKR0.out.below hbe HKR0.out.lt
                      have HMV1 := Lib.hid (HMV0.out.mono qMoveR_mono hbe)
                      clear hbe HKR0 HMV0 HBQ
                      obtain ⟨k0, k1, k2, k3, k4, k5⟩ := six_cells HX5.out HBE.out
                      have lx := (HX5.out.below HBE.out HX5.out.lt).lt
                      have r0 := hkr.cell 0
                      have r1 := hkr.cell 1
                      have r2 := hkr.cell 2
                      have r3 := hkr.cell 3
                      simp only [List.getElem?_toArray, List.getElem?_cons_zero, List.getElem?_cons_succ] at r0 r1 r2 r3
                      have lr := hkr.lt
                      have HKR0 := Lib.hid hkr
                      clear hkr
                      go_wp2_with fail
                      refine (called_yes _ _ _ _ _ _ _ _ _ _ _ _ _ _ _ _ _ _ x c.b c.to_ _ ((src_parts (qSourceR_mono _ _ HBE.out _ _ XS5.out)).2.2.1.1) HCB.out).mono ?_
                      rintro e wu8 ⟨rfl, hbe⟩
                      clear k0 k1 k2 k3 k4 k5 lx r0 r1 r2 r3 lr
                      have HB7 := Lib.hid (below_step HBE.out hbe)
                      have HKRB := Lib.hid (HKR0.out.below hbe HKR0.out.lt)
                      have HMV := Lib.hid (HMV1.out.mono qMoveR_mono hbe)
                      clear hbe HKR0 HMV1 HBE HBR HCA HCB
                      obtain ⟨wo5, rfl⟩ : ∃ x, x = wr := ⟨_, rfl⟩
                      have hk9 := HKRB.out
                      have r4 := hk9.cell 4
                      simp only [List.getElem?_toArray, List.getElem?_cons_zero, List.getElem?_cons_succ] at r4
                      have lr := hk9.lt
                      clear hk9
                      go_wp2_with fail
                      clear r4 lr
                      go_loopg [20] ma (fun q i wr => ∃ k : Nat, k ≤ ma ∧ q = ma - k ∧ i = .int .i64 k ∧ Below wu8.heap.size wu8 wr)
                      case atStart => exact ⟨0, Nat.zero_le _, rfl, rfl, Below.refl _ _⟩
                      case round =>
                        obtain ⟨kk8, hkk8, hq, rfl, hb⟩ := hrel
                        have HQ8 := Lib.hid hq
                        have HB8 := Lib.hid hb
                        clear hq hb
                        have hkr9 := HKRB.out.below HB8.out HKRB.out.lt
                        have r4 := hkr9.cell 4
                        simp only [List.getElem?_toArray, List.getElem?_cons_zero, List.getElem?_cons_succ] at r4
                        have lr := hkr9.lt
                        clear hkr9
                        by_cases hltkk8 : kk8 < ma
                        · have hnkk8 : (kk8 : Int) < (ma : Int) := by omega
                          have h0kk8 : (0 : Int) ≤ (kk8 : Int) := by omega
                          as_aux_lemma =>
                            clear r4 lr
                            obtain ⟨ab, ao, mv, rfl, hal_, hc, a0, a1, a2, a3, a4⟩ := qMove_at (HMV.out.mono qMoveR_mono HB8.out) hltkk8
                            have HMA := Lib.hid (HCM.out kk8 mv hc).1
                            have HMB := Lib.hid (HCM.out kk8 mv hc).2
                            clear hc a4
                            have hkr9 := HKRB.out.below HB8.out HKRB.out.lt
                            have r2 := hkr9.cell 2
                            have r3 := hkr9.cell 3
                            have r4 := hkr9.cell 4
                            simp only [List.getElem?_toArray, List.getElem?_cons_zero, List.getElem?_cons_succ] at r2 r3 r4
                            have lr := hkr9.lt
                            clear hkr9
                            obtain ⟨k0, k1, k2, k3, k4, k5⟩ := six_cells HX5.out (below_step HB7.out HB8.out)
                            have lx := (HX5.out.below (below_step HB7.out HB8.out) HX5.out.lt).lt
                            have HSC := Lib.hid ((src_parts (qSourceR_mono _ _ (below_step HB7.out HB8.out) _ _ XS5.out)).2.2.1.1)
                            go_upto_region 64 with fail
                            go_region_held3 (fun w' => w'.cell? ⟨gx, 0, none⟩ = some (.slice X1 p1 q1) ∧ w'.cell? ⟨gx, 1, none⟩ = some (.slice X2 p2 q2) ∧ w'.cell? ⟨gx, 2, none⟩ = some (.slice X3 p3 q3) ∧ w'.cell? ⟨gx, 3, none⟩ = some (.slice X4 p4 q4) ∧ w'.cell? ⟨gx, 4, none⟩ = some (.slice (some ⟨cb, co, none⟩) p5 q5) ∧ w'.cell? ⟨gx, 5, none⟩ = some (.slice X6 p6 q6) ∧ w'.cell? ⟨gc, 2, none⟩ = some (.int .i64 c.a) ∧ w'.cell? ⟨gc, 3, none⟩ = some (.int .i64 c.b) ∧ w'.cell? ⟨gc, 4, none⟩ = some (.slice (some ⟨ab, ao, none⟩) ma mc) ∧ w'.cell? ⟨ab, ao + kk8 * 5, none⟩ = some (.string mv.to_) ∧ w'.cell? ⟨ab, ao + kk8 * 5 + 1, none⟩ = some (.string mv.from_) ∧ w'.cell? ⟨ab, ao + kk8 * 5 + 2, none⟩ = some (.int .i64 mv.b) ∧ w'.cell? ⟨ab, ao + kk8 * 5 + 3, none⟩ = some (.int .i64 mv.a) ∧ Below wr.heap.size wr w')
                              (first | (refine ⟨?_, ?_, ?_, ?_, ?_, ?_, ?_, ?_, ?_, ?_, ?_, ?_, ?_, ?_⟩ <;> first | assumption | exact (Below.refl _ _).drew | (simp only [go_sem]; assumption)))
                              (first
                                | (go_at_call 16; ((with_reducible refine (field_yes _ _ _ _ _ _ _ _ _ _ _ _ _ _ _ _ _ _ x c.a mv.a mv.from_ _ ?_ HMA.out).mono ?_)); refine HSC.out.mono qSchemaR_mono ?_; (first | assumption | (go_split_ands; assumption)); rintro e wc ⟨rfl, hbc⟩
                                   have hbz : Below wr.heap.size wr wc := by
                                     refine below_step ?_ hbc
                                     (first | assumption | (go_split_ands; assumption))
                                   have r_k0 := (hbz.cell (p := ⟨gx, 0, none⟩) lx).trans k0
                                   have r_k1 := (hbz.cell (p := ⟨gx, 1, none⟩) lx).trans k1
                                   have r_k2 := (hbz.cell (p := ⟨gx, 2, none⟩) lx).trans k2
                                   have r_k3 := (hbz.cell (p := ⟨gx, 3, none⟩) lx).trans k3
                                   have r_k4 := (hbz.cell (p := ⟨gx, 4, none⟩) lx).trans k4
                                   have r_k5 := (hbz.cell (p := ⟨gx, 5, none⟩) lx).trans k5
                                   have r_r2 := (hbz.cell (p := ⟨gc, 2, none⟩) lr).trans r2
                                   have r_r3 := (hbz.cell (p := ⟨gc, 3, none⟩) lr).trans r3
                                   have r_r4 := (hbz.cell (p := ⟨gc, 4, none⟩) lr).trans r4
                                   have r_a0 := (hbz.cell (p := ⟨ab, ao + kk8 * 5, none⟩) hal_).trans a0
                                   have r_a1 := (hbz.cell (p := ⟨ab, ao + kk8 * 5 + 1, none⟩) hal_).trans a1
                                   have r_a2 := (hbz.cell (p := ⟨ab, ao + kk8 * 5 + 2, none⟩) hal_).trans a2
                                   have r_a3 := (hbz.cell (p := ⟨ab, ao + kk8 * 5 + 3, none⟩) hal_).trans a3)
                                | (go_at_call 16; ((with_reducible refine (field_yes _ _ _ _ _ _ _ _ _ _ _ _ _ _ _ _ _ _ x c.b mv.b mv.to_ _ ?_ HMB.out).mono ?_)); refine HSC.out.mono qSchemaR_mono ?_; (first | assumption | (go_split_ands; assumption)); rintro e wc ⟨rfl, hbc⟩
                                   have hbz : Below wr.heap.size wr wc := by
                                     refine below_step ?_ hbc
                                     (first | assumption | (go_split_ands; assumption))
                                   have r_k0 := (hbz.cell (p := ⟨gx, 0, none⟩) lx).trans k0
                                   have r_k1 := (hbz.cell (p := ⟨gx, 1, none⟩) lx).trans k1
                                   have r_k2 := (hbz.cell (p := ⟨gx, 2, none⟩) lx).trans k2
                                   have r_k3 := (hbz.cell (p := ⟨gx, 3, none⟩) lx).trans k3
                                   have r_k4 := (hbz.cell (p := ⟨gx, 4, none⟩) lx).trans k4
                                   have r_k5 := (hbz.cell (p := ⟨gx, 5, none⟩) lx).trans k5
                                   have r_r2 := (hbz.cell (p := ⟨gc, 2, none⟩) lr).trans r2
                                   have r_r3 := (hbz.cell (p := ⟨gc, 3, none⟩) lr).trans r3
                                   have r_r4 := (hbz.cell (p := ⟨gc, 4, none⟩) lr).trans r4
                                   have r_a0 := (hbz.cell (p := ⟨ab, ao + kk8 * 5, none⟩) hal_).trans a0
                                   have r_a1 := (hbz.cell (p := ⟨ab, ao + kk8 * 5 + 1, none⟩) hal_).trans a1
                                   have r_a2 := (hbz.cell (p := ⟨ab, ao + kk8 * 5 + 2, none⟩) hal_).trans a2
                                   have r_a3 := (hbz.cell (p := ⟨ab, ao + kk8 * 5 + 3, none⟩) hal_).trans a3))
                            all_goals
                              have HBE := Lib.hid (below_step HB8.out hbz)
                              clear hbz hbc
                              go_wp2_with fail
                              go_roundg (ma - (kk8 + 1))
                              case measure => have := HQ8.out; omega
                              case rel => exact ⟨kk8 + 1, by omega, rfl, by go_num, HBE.out⟩
                        · have hnkk8 : ¬ (kk8 : Int) < (ma : Int) := by omega
                          as_aux_lemma =>
                            go_wp2_with fail
                            go_roundg (p5 - (kc + 1))
                            case measure => have := HQC.out; omega
                            case rel => exact ⟨kc + 1, by omega, rfl, by go_num, below_step HB7.out HB8.out⟩
                  · have hnkc : ¬ (kc : Int) < (p5 : Int) := by omega
                    as_aux_lemma =>
                      have hbo := HBR.out
                      clear HBR HQC HBO
                      have HBO := Lib.hid hbo
                      clear hbo
                      obtain ⟨wo9, rfl⟩ : ∃ x, x = wr := ⟨_, rfl⟩
                      go_wp2_with fail
                      clear k0 k1 k2 k3 k4 k5 lx
                      go_loopg [21] p6 (fun q i wr => ∃ k : Nat, k ≤ p6 ∧ q = p6 - k ∧ i = .int .i64 k ∧ Below w5.heap.size w5 wr)
                      case atStart => exact ⟨0, Nat.zero_le _, rfl, rfl, HBO.out⟩
                      case round =>
                        obtain ⟨kp, hkp, hq, rfl, hb⟩ := hrel
                        have HQP := Lib.hid hq
                        have HBR := Lib.hid hb
                        clear hq hb
                        obtain ⟨k0, k1, k2, k3, k4, k5⟩ := six_cells HX5.out HBR.out
                        have lx := (HX5.out.below HBR.out HX5.out.lt).lt
                        by_cases hltkp : kp < p6
                        · have hnkp : (kp : Int) < (p6 : Int) := by omega
                          have h0kp : (0 : Int) ≤ (kp : Int) := by omega
                          as_aux_lemma =>
                            obtain ⟨pb, po, pp, MA, ma, mc, rfl, hpl, hpp, p0, pc, p2', hmy⟩ := qPurpose_at ((src_parts (qSourceR_mono _ _ HBR.out _ _ XS5.out)).2.2.2.2.2.1) hltkp
                            have HPO := Lib.hid (MO.out.purposes kp pp hpp)
                            have HPC := Lib.hid pc
                            have HMY := Lib.hid hmy.1
                            have le1 := hmy.1.le
                            have HBP := Lib.hid HBR.out
                            clear hpp hmy p0 p2' HBR
                            obtain ⟨wu9, rfl⟩ : ∃ x, x = wr := ⟨_, rfl⟩
                            go_wp2_with fail
                            clear pc k0 k1 k2 k3 k4 k5 lx
                            go_loopg [22] ma (fun q i wr => ∃ k : Nat, k ≤ ma ∧ q = ma - k ∧ i = .int .i64 k ∧ Below wu9.heap.size wu9 wr)
                            case atStart => exact ⟨0, Nat.zero_le _, rfl, rfl, Below.refl _ _⟩
                            case round =>
                              obtain ⟨kk8, hkk8, hq, rfl, hb⟩ := hrel
                              have HQ8 := Lib.hid hq
                              have HB8 := Lib.hid hb
                              clear hq hb
                              have pc := (HB8.out.cell (p := ⟨pb, po + kp * 3 + 1, none⟩) hpl).trans HPC.out
                              have lp := Nat.lt_of_lt_of_le hpl HB8.out.size
                              obtain ⟨k0, k1, k2, k3, k4, k5⟩ := six_cells HX5.out (below_step HBP.out HB8.out)
                              have lx := (HX5.out.below (below_step HBP.out HB8.out) HX5.out.lt).lt
                              by_cases hltkk8 : kk8 < ma
                              · have hnkk8 : (kk8 : Int) < (ma : Int) := by omega
                                have h0kk8 : (0 : Int) ≤ (kk8 : Int) := by omega
                                as_aux_lemma =>
                                  clear pc lp k0 k1 k2 k3 k4 k5 lx
                                  obtain ⟨mb, mo, mr, rfl, hml, hmr, m0, m1, m2, m3⟩ := qRef_at (HMY.out.mono qRefR_mono HB8.out) hltkk8
                                  have HMA := Lib.hid (HPO.out kk8 mr hmr).1
                                  have HMB := Lib.hid (HPO.out kk8 mr hmr).2
                                  have pc := (HB8.out.cell (p := ⟨pb, po + kp * 3 + 1, none⟩) hpl).trans HPC.out
                                  have lp := Nat.lt_of_lt_of_le hpl HB8.out.size
                                  obtain ⟨k0, k1, k2, k3, k4, k5⟩ := six_cells HX5.out (below_step HBP.out HB8.out)
                                  have lx := (HX5.out.below (below_step HBP.out HB8.out) HX5.out.lt).lt
                                  clear hmr
                                  go_upto_region 73 with fail
                                  have hal : Below wr.heap.size wr (wr.alloc (.cells #[.string mr.name, .string mr.path, .int .i64 mr.schema, .int .i64 mr.field] 76)) := (Below.refl _ _).alloc (Nat.le_refl _) _
                                  have hkr : Blk (wr.alloc (.cells #[.string mr.name, .string mr.path, .int .i64 mr.schema, .int .i64 mr.field] 76)) wr.heap.size 76 #[.string mr.name, .string mr.path, .int .i64 mr.schema, .int .i64 mr.field] := Blk.new _ _ _
                                  have HBQ := Lib.hid (below_step HB8.out hal)
                                  obtain ⟨gc, hgc⟩ : ∃ g, g = wr.heap.size := ⟨_, rfl⟩
                                  rw [← hgc] at hkr ⊢
                                  clear hal hgc
                                  generalize wr.alloc (.cells #[.string mr.name, .string mr.path, .int .i64 mr.schema, .int .i64 mr.field] 76) = wq at hkr HBQ  ⊢
                                  clear k0 k1 k2 k3 k4 k5 lx pc lp m0 m1 m2 m3 hml
                                  have HBQ5 := Lib.hid (below_step HBP.out HBQ.out)
                                  obtain ⟨k0, k1, k2, k3, k4, k5⟩ := six_cells HX5.out HBQ5.out
                                  have lx := (HX5.out.below HBQ5.out HX5.out.lt).lt
                                  have r0 := hkr.cell 0
                                  have r1 := hkr.cell 1
                                  have r2 := hkr.cell 2
                                  have r3 := hkr.cell 3
                                  simp only [List.getElem?_toArray, List.getElem?_cons_zero, List.getElem?_cons_succ] at r0 r1 r2 r3
                                  have lr := hkr.lt
                                  have HKR0 := Lib.hid hkr
                                  clear hkr
                                  go_wp2_with fail
                                  refine (called_yes _ _ _ _ _ _ _ _ _ _ _ _ _ _ _ _ _ _ x mr.schema mr.name _ ((src_parts (qSourceR_mono _ _ HBQ5.out _ _ XS5.out)).2.2.1.1) HMA.out).mono ?_
                                  rintro e we ⟨rfl, hbe⟩
                                  clear k0 k1 k2 k3 k4 k5 lx r0 r1 r2 r3 lr
                                  have HBE := Lib.hid (below_step HBQ.out hbe)
                                  have HBE5 := Lib.hid (below_step HBQ5.out hbe)
                                  have hkr := HKR0.out.below hbe HKR0.out.lt
                                  clear hbe HKR0 HBQ HBQ5
                                  obtain ⟨k0, k1, k2, k3, k4, k5⟩ := six_cells HX5.out HBE5.out
                                  have lx := (HX5.out.below HBE5.out HX5.out.lt).lt
                                  have r0 := hkr.cell 0
                                  have r1 := hkr.cell 1
                                  have r2 := hkr.cell 2
                                  have r3 := hkr.cell 3
                                  simp only [List.getElem?_toArray, List.getElem?_cons_zero, List.getElem?_cons_succ] at r0 r1 r2 r3
                                  have lr := hkr.lt
                                  clear hkr
                                  go_wp2_with fail
                                  refine (field_yes _ _ _ _ _ _ _ _ _ _ _ _ _ _ _ _ _ _ x mr.schema mr.field mr.path _ ((src_parts (qSourceR_mono _ _ HBE5.out _ _ XS5.out)).2.2.1.1) HMB.out).mono ?_
                                  rintro e wf ⟨rfl, hbf⟩
                                  clear k0 k1 k2 k3 k4 k5 lx r0 r1 r2 r3 lr
                                  have HBF := Lib.hid (below_step HBE.out hbf)
                                  clear hbf
                                  go_wp2_with fail
                                  go_roundg (ma - (kk8 + 1))
                                  case measure => have := HQ8.out; omega
                                  case rel => exact ⟨kk8 + 1, by omega, rfl, by go_num, HBF.out⟩
                              · have hnkk8 : ¬ (kk8 : Int) < (ma : Int) := by omega
                                as_aux_lemma =>
                                  go_wp2_with fail
                                  go_roundg (p6 - (kp + 1))
                                  case measure => have := HQP.out; omega
                                  case rel => exact ⟨kp + 1, by omega, rfl, by go_num, below_step HBP.out HB8.out⟩
                        · have hnkp : ¬ (kp : Int) < (p6 : Int) := by omega
                          as_aux_lemma =>
                            go_wp2_with fail
                            go_ret
                            exact ⟨rfl, below_step HB5.out HBR.out⟩
end Go.Proofs.Ytkkkephjljiplaa
