/- Contract of the law's sane. -/
import Derived.Test.YtkkkephjljiplaaNmSample
import Derived.Test.YtkkkephjljiplaaNmSame0
import Derived.Deep.RegionHeld3
namespace Go.Proofs.Ytkkkephjljiplaa
open Go.RowKit

def sampleX : QSource where
  issuers := [nX, nY]
  units := [⟨nMinute, noStr, 0, 0, 1⟩, ⟨nHour, nMinute, 60, 0, 60⟩, ⟨nDay, nHour, 24, 0, 1440⟩]
  schemas := [⟨nS, nY, 1, 0, [⟨nSelf, ⟨3, 0, 0, noStr, -1, []⟩, 0, 0, 0, 0⟩, ⟨nA, ⟨1, 0, 9, nHour, 1, []⟩, 0, 0, 0, 0⟩, ⟨nB, ⟨3, 0, 0, noStr, -1, []⟩, 0, 0, 0, 0⟩], [⟨[nB], nA, [2], 1⟩]⟩]
  rules := [⟨nS, 0, [⟨nU, nS, 0, ⟨noStr, noStr, -1, 0, 0⟩⟩, ⟨nV, nS, 0, ⟨nU, nB, 0, 2, 0⟩⟩], [⟨1, ⟨nV, nA, 1, 1, 0⟩, ⟨noStr, noStr, -1, 0, 7⟩⟩], []⟩]
  converts := [⟨nS, nS, 0, 0, [⟨nA, nB, 1, 2, 0⟩]⟩]
  purposes := [⟨nP, [⟨nS, nB, 0, 2⟩], 0⟩]
theorem sample_res : resolveP sampleQ = (0, sampleX) := by kernel_rfl
theorem none_res : resolveP noSource = (0, noSource) := by kernel_rfl
theorem twice_res : resolveP { noSource with issuers := [noStr, noStr] } = (111, noSource) := by kernel_rfl
theorem by_res : resolveP { noSource with schemas := [⟨nS, nX, 0, 0, [], []⟩] } = (110, noSource) := by kernel_rfl

def Via2 {α β : Type} (F : α → β → Act) (G : α → β → World → Prop) : Exit → Act → World → Prop
  | .normal, a', w' => ∃ x y, a' = F x y ∧ G x y w'
  | _, _, _ => False
theorem wp_via2 {P : Program} {c : Code} {Q : Exit → Act → World → Prop} {a : Act} {w : World} {α β : Type} (F : α → β → Act) (G : α → β → World → Prop) (h1 : c.wp P (Via2 F G) a w) (h2 : ∀ x y w', G x y w' → Q .normal (F x y) w') : c.wp P Q a w :=
  Code.wp_mono (fun e a' w' h => by
    cases e with
    | normal => obtain ⟨x, y, rfl, hg⟩ := h; exact h2 x y w' hg
    | _ => exact h.elim) h1

set_option maxHeartbeats 4000000 in
set_option maxRecDepth 100000 in
theorem sane_any (w : World) : Calls Try.prog 10 #[] w fun e w' => e = .returned (.bool true) ∧ Below w.heap.size w w' := by
  go_enter Try.func10, Try.ntmps10
  go_wp2_with fail
  refine (sample_any w).mono ?_
  rintro e w1 ⟨cs, rfl, ⟨A1, n1, c1, A2, n2, c2, A3, n3, c3, A4, n4, c4, A5, n5, c5, A6, n6, c6, rfl, h1, h2, h3, h4, h5, h6⟩, hb1⟩
  have HB1 := Lib.hid hb1
  have HR := Lib.hid (resolve_any A1 A2 A3 A4 A5 A6 n1 c1 n2 c2 n3 c3 n4 c4 n5 c5 n6 c6 sampleQ w1 h1 h2 h3 h4 h5 h6)
  clear h1 h2 h3 h4 h5 h6 hb1
  go_wp2_with fail
  refine HR.out.mono ?_
  clear HR
  unfold RetResolve
  rw [sample_res]
  rintro e w2 ⟨cs, rfl, ⟨X1, p1, q1, X2, p2, q2, X3, p3, q3, X4, p4, q4, X5, p5, q5, X6, p6, q6, rfl, h1, h2, h3, h4, h5, h6⟩, hb2⟩
  have HB2 := Lib.hid (HB1.out.trans (hb2.mono HB1.out.size))
  have HX : Hid (qSourceR w2 _ sampleX) := Lib.hid ⟨X1, p1, q1, X2, p2, q2, X3, p3, q3, X4, p4, q4, X5, p5, q5, X6, p6, q6, rfl, h1, h2, h3, h4, h5, h6⟩
  clear h1 h2 h3 h4 h5 h6 hb2
  go_upto_region 2 with fail
  have hal : Below w2.heap.size w2 (w2.alloc (.cells #[.slice X1 p1 q1, .slice X2 p2 q2, .slice X3 p3 q3, .slice X4 p4 q4, .slice X5 p5 q5, .slice X6 p6 q6] 29)) := (Below.refl _ _).alloc (Nat.le_refl _) _
  have hX := qSourceR_mono _ _ hal _ _ HX.out
  have hk : Blk (w2.alloc (.cells #[.slice X1 p1 q1, .slice X2 p2 q2, .slice X3 p3 q3, .slice X4 p4 q4, .slice X5 p5 q5, .slice X6 p6 q6] 29)) w2.heap.size 29 #[.slice X1 p1 q1, .slice X2 p2 q2, .slice X3 p3 q3, .slice X4 p4 q4, .slice X5 p5 q5, .slice X6 p6 q6] := Blk.new _ _ _
  have hB := HB2.out.trans (hal.mono HB2.out.size)
  obtain ⟨gx, hgx⟩ : ∃ g, g = w2.heap.size := ⟨_, rfl⟩
  rw [← hgx] at hk ⊢
  generalize w2.alloc (.cells #[.slice X1 p1 q1, .slice X2 p2 q2, .slice X3 p3 q3, .slice X4 p4 q4, .slice X5 p5 q5, .slice X6 p6 q6] 29) = w3 at hX hk hB ⊢
  have HX3 := Lib.hid hX
  have HK3 := Lib.hid hk
  have HB3 := Lib.hid hB
  clear hal hX hk hB HX HB1 HB2 hgx
  -- nothing
  go_wp2_with fail
  refine (resolve_any none none none none none none 0 0 0 0 0 0 0 0 0 0 0 0 noSource w3 nilB nilB nilB nilB nilB nilB).mono ?_
  unfold RetResolve
  rw [none_res]
  rintro e w4 ⟨cs, rfl, hY, hb4⟩
  obtain ⟨Y1, y1, z1, Y2, y2, z2, Y3, y3, z3, Y4, y4, z4, Y5, y5, z5, Y6, y6, z6, rfl, g1, g2, g3, g4, g5, g6⟩ := hY
  obtain rfl : y1 = 0 := g1.1.len
  obtain rfl : y2 = 0 := g2.1.len
  obtain rfl : y3 = 0 := g3.1.len
  obtain rfl : y4 = 0 := g4.1.len
  obtain rfl : y5 = 0 := g5.1.len
  obtain rfl : y6 = 0 := g6.1.len
  have HG1 := Lib.hid g1.1
  have HX4 := Lib.hid (qSourceR_mono _ _ hb4 _ _ HX3.out)
  have HK4 := Lib.hid (HK3.out.below hb4 HK3.out.lt)
  have HB4 := Lib.hid (HB3.out.trans (hb4.mono HB3.out.size))
  clear g1 g2 g3 g4 g5 g6 hb4 HX3 HK3 HB3
  go_upto_region 3 with fail
  have hal : Below w4.heap.size w4 (w4.alloc (.cells #[.slice Y1 0 z1, .slice Y2 0 z2, .slice Y3 0 z3, .slice Y4 0 z4, .slice Y5 0 z5, .slice Y6 0 z6] 29)) := (Below.refl _ _).alloc (Nat.le_refl _) _
  have hX := qSourceR_mono _ _ hal _ _ HX4.out
  have hk := HK4.out.below hal HK4.out.lt
  have hky : Blk (w4.alloc (.cells #[.slice Y1 0 z1, .slice Y2 0 z2, .slice Y3 0 z3, .slice Y4 0 z4, .slice Y5 0 z5, .slice Y6 0 z6] 29)) w4.heap.size 29 #[.slice Y1 0 z1, .slice Y2 0 z2, .slice Y3 0 z3, .slice Y4 0 z4, .slice Y5 0 z5, .slice Y6 0 z6] := Blk.new _ _ _
  have hB := HB4.out.trans (hal.mono HB4.out.size)
  have hg1 := HG1.out.mono strR_mono hal
  obtain ⟨gy, hgy⟩ : ∃ g, g = w4.heap.size := ⟨_, rfl⟩
  rw [← hgy] at hky ⊢
  generalize w4.alloc (.cells #[.slice Y1 0 z1, .slice Y2 0 z2, .slice Y3 0 z3, .slice Y4 0 z4, .slice Y5 0 z5, .slice Y6 0 z6] 29) = w5 at hX hk hky hB hg1 ⊢
  have HX5 := Lib.hid hX
  have HK5 := Lib.hid hk
  have HY5 := Lib.hid hky
  have HB5 := Lib.hid hB
  have HG5 := Lib.hid hg1
  clear hal hX hk hky hB hg1 HX4 HK4 HB4 HG1 hgy
  -- twice
  go_wp2_with fail
  have hal : Below w5.heap.size w5 (w5.alloc (.cells #[.string noStr, .string noStr] 9)) := (Below.refl _ _).alloc (Nat.le_refl _) _
  have hs1 : SlB 1 16 strR (w5.alloc (.cells #[.string noStr, .string noStr] 9)) (.slice (some ⟨w5.heap.size, 0, none⟩) 2 2) [noStr, noStr] := slB_blk (l := [noStr, noStr]) (Blk.new _ _ _) (cellsS _ [noStr, noStr]) (by simp) (by unfold maxLen; simp)
  refine (resolve_any _ none none none none none 2 2 0 0 0 0 0 0 0 0 0 0 { noSource with issuers := [noStr, noStr] } _ hs1 nilB nilB nilB nilB nilB).mono ?_
  unfold RetResolve
  rw [twice_res]
  rintro e w6 ⟨cs, rfl, ⟨U1, u1, v1, U2, u2, v2, U3, u3, v3, U4, u4, v4, U5, u5, v5, U6, u6, v6, rfl, _⟩, hb6⟩
  have hb6' := hal.trans (hb6.mono hal.size)
  have HX6 := Lib.hid (qSourceR_mono _ _ hb6' _ _ HX5.out)
  have HK6 := Lib.hid (HK5.out.below hb6' HK5.out.lt)
  have HY6 := Lib.hid (HY5.out.below hb6' HY5.out.lt)
  have HB6 := Lib.hid (HB5.out.trans (hb6'.mono HB5.out.size))
  have HG6 := Lib.hid (HG5.out.mono strR_mono hb6')
  clear hal hs1 hb6 hb6' HX5 HK5 HY5 HB5 HG5
  go_upto_region 4 with fail
  have hal : Below w6.heap.size w6 (w6.alloc (.cells #[.slice U1 u1 v1, .slice U2 u2 v2, .slice U3 u3 v3, .slice U4 u4 v4, .slice U5 u5 v5, .slice U6 u6 v6] 29)) := (Below.refl _ _).alloc (Nat.le_refl _) _
  generalize w6.alloc (.cells #[.slice U1 u1 v1, .slice U2 u2 v2, .slice U3 u3 v3, .slice U4 u4 v4, .slice U5 u5 v5, .slice U6 u6 v6] 29) = w7 at hal ⊢
  have HX7 := Lib.hid (qSourceR_mono _ _ hal _ _ HX6.out)
  have HK7 := Lib.hid (HK6.out.below hal HK6.out.lt)
  have HY7 := Lib.hid (HY6.out.below hal HY6.out.lt)
  have HB7 := Lib.hid (HB6.out.trans (hal.mono HB6.out.size))
  have HG7 := Lib.hid (HG6.out.mono strR_mono hal)
  clear hal HX6 HK6 HY6 HB6 HG6
  -- by
  go_wp2_with fail
  have hal : Below w7.heap.size w7 (w7.alloc (.cells #[.string nS, .string nX, .int .i64 0, .int .i64 0, .slice none 0 0, .slice none 0 0] 40)) := (Below.refl _ _).alloc (Nat.le_refl _) _
  have hs3 : SlB 6 96 qSchemaR (w7.alloc (.cells #[.string nS, .string nX, .int .i64 0, .int .i64 0, .slice none 0 0, .slice none 0 0] 40)) (.slice (some ⟨w7.heap.size, 0, none⟩) 1 1) [(⟨nS, nX, 0, 0, [], []⟩ : QSchema)] := slB_blk (l := [(⟨nS, nX, 0, 0, [], []⟩ : QSchema)]) (cs := [.string nS, .string nX, .int .i64 0, .int .i64 0, .slice none 0 0, .slice none 0 0]) (Blk.new _ _ _) (CellsR.one rfl (show qSchemaR _ _ (⟨nS, nX, 0, 0, [], []⟩ : QSchema) from ⟨none, 0, 0, none, 0, 0, rfl, nilB, nilB⟩)) (by simp) (by unfold maxLen; simp)
  refine (resolve_any none none _ none none none 0 0 0 0 1 1 0 0 0 0 0 0 { noSource with schemas := [⟨nS, nX, 0, 0, [], []⟩] } _ nilB nilB hs3 nilB nilB nilB).mono ?_
  unfold RetResolve
  rw [by_res]
  rintro e w8 ⟨cs, rfl, ⟨V1, f1, h1, V2, f2, h2, V3, f3, h3, V4, f4, h4, V5, f5, h5, V6, f6, h6, rfl, _⟩, hb8⟩
  have hb8' := hal.trans (hb8.mono hal.size)
  clear hal hs3 hb8
  have HX8 := Lib.hid (qSourceR_mono _ _ hb8' _ _ HX7.out)
  have HK8 := Lib.hid (HK7.out.below hb8' HK7.out.lt)
  have HY8 := Lib.hid (HY7.out.below hb8' HY7.out.lt)
  have HB8 := Lib.hid (HB7.out.trans (hb8'.mono HB7.out.size))
  have HG8 := Lib.hid (HG7.out.mono strR_mono hb8')
  clear hb8' HX7 HK7 HY7 HB7 HG7
  go_upto_region 5 with fail
  have hal : Below w8.heap.size w8 (w8.alloc (.cells #[.slice V1 f1 h1, .slice V2 f2 h2, .slice V3 f3 h3, .slice V4 f4 h4, .slice V5 f5 h5, .slice V6 f6 h6] 29)) := (Below.refl _ _).alloc (Nat.le_refl _) _
  generalize w8.alloc (.cells #[.slice V1 f1 h1, .slice V2 f2 h2, .slice V3 f3 h3, .slice V4 f4 h4, .slice V5 f5 h5, .slice V6 f6 h6] 29) = w9 at hal ⊢
  have HX9 := Lib.hid (qSourceR_mono _ _ hal _ _ HX8.out)
  have HK9 := Lib.hid (HK8.out.below hal HK8.out.lt)
  have HY9 := Lib.hid (HY8.out.below hal HY8.out.lt)
  have HB9 := Lib.hid (HB8.out.trans (hal.mono HB8.out.size))
  have HG9 := Lib.hid (HG8.out.mono strR_mono hal)
  clear hal HX8 HK8 HY8 HB8 HG8
  go_wp2_with fail
  refine (namesField_any none none none none none none 0 0 0 0 0 0 0 0 0 0 0 0 noSource 0 nSelf w9 (SlR.nil _ _ (Nat.zero_le _))).mono ?_
  rintro e w10 ⟨rfl, hb10⟩
  rw [show firstI (fieldNo noSource 0) nSelf = 0 from rfl, show firstB (fieldNo noSource 0) nSelf = false from rfl]
  have HX10 := Lib.hid (qSourceR_mono _ _ hb10 _ _ HX9.out)
  have HK10 := Lib.hid (HK9.out.below hb10 HK9.out.lt)
  have HY10 := Lib.hid (HY9.out.below hb10 HY9.out.lt)
  have HB10 := Lib.hid (HB9.out.trans (hb10.mono HB9.out.size))
  have HG10 := Lib.hid (HG9.out.mono strR_mono hb10)
  clear hb10 HX9 HK9 HY9 HB9 HG9
  go_wp2_with fail
  refine (sample_any w10).mono ?_
  rintro e w11 ⟨cs, rfl, ⟨T1, s1, r1, T2, s2, r2, T3, s3, r3, T4, s4, r4, T5, s5, r5, T6, s6, r6, rfl, _, _, ht3, _⟩, hb11⟩
  have HX11 := Lib.hid (qSourceR_mono _ _ hb11 _ _ HX10.out)
  have HK11 := Lib.hid (HK10.out.below hb11 HK10.out.lt)
  have HY11 := Lib.hid (HY10.out.below hb11 HY10.out.lt)
  have HB11 := Lib.hid (HB10.out.trans (hb11.mono HB10.out.size))
  have HG11 := Lib.hid (HG10.out.mono strR_mono hb11)
  clear hb11 HX10 HK10 HY10 HB10 HG10
  have HT3 := Lib.hid ht3.1
  clear ht3
  go_wp2_with fail
  refine (namesField_any T1 T2 T3 T4 T5 T6 s1 r1 s2 r2 s3 r3 s4 r4 s5 r5 s6 r6 sampleQ 0 nB w11 HT3.out).mono ?_
  rintro e w12 ⟨rfl, hb12⟩
  rw [show firstI (fieldNo sampleQ 0) nB = 2 by kernel_rfl, show firstB (fieldNo sampleQ 0) nB = true by kernel_rfl]
  clear HT3
  have HX12 := Lib.hid (qSourceR_mono _ _ hb12 _ _ HX11.out)
  have HK12 := Lib.hid (HK11.out.below hb12 HK11.out.lt)
  have HY12 := Lib.hid (HY11.out.below hb12 HY11.out.lt)
  have HB12 := Lib.hid (HB11.out.trans (hb12.mono HB11.out.size))
  have HG12 := Lib.hid (HG11.out.mono strR_mono hb12)
  clear hb12 HX11 HK11 HY11 HB11 HG11
  have ky0 := HY12.out.cell 0
  have ky1 := HY12.out.cell 1
  have ky2 := HY12.out.cell 2
  have ky3 := HY12.out.cell 3
  have ky4 := HY12.out.cell 4
  have ky5 := HY12.out.cell 5
  simp only [List.getElem?_toArray, List.getElem?_cons_zero, List.getElem?_cons_succ] at ky0 ky1 ky2 ky3 ky4 ky5
  go_wp2_with fail
  refine (same0_any Y1 Y2 Y3 Y4 Y5 Y6 z1 z2 z3 z4 z5 z6 w12 HG12.out).mono ?_
  rintro e w13 ⟨rfl, hb13⟩
  clear ky0 ky1 ky2 ky3 ky4 ky5
  have HX13 := Lib.hid (qSourceR_mono _ _ hb13 _ _ HX12.out)
  have HK13 := Lib.hid (HK12.out.below hb13 HK12.out.lt)
  have HY13 := Lib.hid (HY12.out.below hb13 HY12.out.lt)
  have HB13 := Lib.hid (HB12.out.trans (hb13.mono HB12.out.size))
  have HG13 := Lib.hid (HG12.out.mono strR_mono hb13)
  clear hb13 HX12 HK12 HY12 HB12 HG12
  clear HY13 HG13
  go_upto_region 9 with fail
  obtain ⟨X1', p1', q1', X2', p2', q2', X3', p3', q3', X4', p4', q4', X5', p5', q5', X6', p6', q6', he, h1, h2, h3, h4, h5, h6⟩ := HX13.out
  simp only [List.cons.injEq, Value.slice.injEq, and_true] at he
  obtain ⟨⟨rfl, rfl, rfl⟩, ⟨rfl, rfl, rfl⟩, ⟨rfl, rfl, rfl⟩, ⟨rfl, rfl, rfl⟩, ⟨rfl, rfl, rfl⟩, ⟨rfl, rfl, rfl⟩⟩ := he
  obtain rfl : p2 = 3 := h2.1.len
  obtain rfl : p3 = 1 := h3.1.len
  obtain rfl : p4 = 1 := h4.1.len
  obtain rfl : p5 = 1 := h5.1.len
  obtain rfl : p6 = 1 := h6.1.len
  obtain ⟨ub, uo, u, rfl, lu, hu, _, _, _, u3, u4⟩ := qUnit_at h2.1 (k := 2) (by omega)
  obtain ⟨sb, so, sc, FA, fn, fc, DA, dn, dc, rfl, ls, hsc, _, _, s2, _, s4, s5, hF, hD⟩ := qSchema_at h3.1 (k := 0) (by omega)
  obtain ⟨rb, ro, ru, MA, mn, mc, WA, wn, wc, SA, sn, scc, rfl, lr, hru, r0, r1, r2, r3, r4, hM, hW, _⟩ := qRule_at h4.1 (k := 0) (by omega)
  have eu : u = ⟨nDay, nHour, 24, 0, 1440⟩ := (Option.some.inj hu).symm
  have esc : sc = _ := (Option.some.inj hsc).symm
  have eru : ru = _ := (Option.some.inj hru).symm
  subst eu esc eru
  obtain rfl : fn = 3 := hF.1.len
  obtain rfl : dn = 1 := hD.1.len
  obtain rfl : mn = 2 := hM.1.len
  obtain rfl : wn = 1 := hW.1.len
  obtain ⟨fb, fo, f1, _, _, _, rfl, lf, hf1, _, _, _, _, _, f15, _⟩ := qField_at hF.1 (k := 1) (by omega)
  obtain ⟨fb2, fo2, f2, _, _, _, ef, _, hf2, _, _, _, _, _, f25, _⟩ := qField_at hF.1 (k := 2) (by omega)
  obtain ⟨db, do_, de, NA, nn, nc, IA, inn, ic, rfl, ld, hde, d0, d1, d2, d3, hN, hI⟩ := qDep_at hD.1 (k := 0) (by omega)
  obtain ⟨mb, mo, m0, rfl, lm, hm0, _, _, _, _, _, m05, _⟩ := qFrom_at hM.1 (k := 0) (by omega)
  obtain ⟨mb2, mo2, m1, em, _, hm1, _, _, _, _, _, m15, m16, _⟩ := qFrom_at hM.1 (k := 1) (by omega)
  obtain ⟨ab, ao, at0, rfl, la, hat, _, _, _, a3, a4, _, _, _, a8, _, a10⟩ := qAtom_at hW.1 (k := 0) (by omega)
  injection ef with ef
  injection ef with ef1 ef2
  subst ef1 ef2
  injection em with em
  injection em with em1 em2
  subst em1 em2
  have ef1 : f1 = _ := (Option.some.inj hf1).symm
  have ef2 : f2 = _ := (Option.some.inj hf2).symm
  have ede : de = _ := (Option.some.inj hde).symm
  have em0 : m0 = _ := (Option.some.inj hm0).symm
  have em1 : m1 = _ := (Option.some.inj hm1).symm
  have eat : at0 = _ := (Option.some.inj hat).symm
  subst ef1 ef2 ede em0 em1 eat
  obtain rfl : inn = 1 := hI.1.len
  obtain ⟨ib, io, iv, rfl, li, hiv, i0⟩ := i_at hI.1 (k := 0) (by omega)
  have eiv : iv = 2 := (Option.some.inj hiv).symm
  subst eiv
  have kx1 := HK13.out.cell 1
  have kx2 := HK13.out.cell 2
  have kx3 := HK13.out.cell 3
  have kx4 := HK13.out.cell 4
  have kx5 := HK13.out.cell 5
  simp only [List.getElem?_toArray, List.getElem?_cons_zero, List.getElem?_cons_succ] at kx1 kx2 kx3 kx4 kx5
  simp only [Nat.zero_mul, Nat.add_zero, Nat.one_mul, Nat.reduceMul, Nat.add_assoc, Nat.reduceAdd] at u3 u4 s2 s4 s5 r0 r1 r2 r3 r4 f15 f25 d0 d1 d2 d3 m05 m15 m16 a3 a4 a8 a10 i0
  clear h1 h2 h3 h4 h5 h6 hu hsc hru hf1 hf2 hde hm0 hm1 hat hiv hF hD hM hW hN hI
  go_wp2_with fail
  apply wp_via2 (α := Nat) (β := Nat) (G := fun gd gr w14 => Blk w14 gd 50 #[.slice NA nn nc, .string nA, .slice (some ⟨ib, io, none⟩) 1 ic, .int .i64 1] ∧ Blk w14 gr 56 #[.string nS, .int .i64 0, .slice (some ⟨mb, mo, none⟩) 2 mc, .slice (some ⟨ab, ao, none⟩) 1 wc, .slice SA sn scc] ∧ Below w13.heap.size w13 w14)
  · go_region_held3 (fun w' => w'.cell? ⟨gx, 2, none⟩ = some (.slice (some ⟨sb, so, none⟩) 1 q3) ∧ w'.cell? ⟨gx, 3, none⟩ = some (.slice (some ⟨rb, ro, none⟩) 1 q4) ∧ w'.cell? ⟨sb, so + 5, none⟩ = some (.slice (some ⟨db, do_, none⟩) 1 dc) ∧
        w'.cell? ⟨db, do_, none⟩ = some (.slice NA nn nc) ∧ w'.cell? ⟨db, do_ + 1, none⟩ = some (.string nA) ∧ w'.cell? ⟨db, do_ + 2, none⟩ = some (.slice (some ⟨ib, io, none⟩) 1 ic) ∧ w'.cell? ⟨db, do_ + 3, none⟩ = some (.int .i64 1) ∧
        w'.cell? ⟨rb, ro, none⟩ = some (.string nS) ∧ w'.cell? ⟨rb, ro + 1, none⟩ = some (.int .i64 0) ∧ w'.cell? ⟨rb, ro + 2, none⟩ = some (.slice (some ⟨mb, mo, none⟩) 2 mc) ∧ w'.cell? ⟨rb, ro + 3, none⟩ = some (.slice (some ⟨ab, ao, none⟩) 1 wc) ∧ w'.cell? ⟨rb, ro + 4, none⟩ = some (.slice SA sn scc))
      (first | go_keep | skip) (fail)
    · obtain ⟨gd, hgd⟩ : ∃ x, x = w13.heap.size := ⟨_, rfl⟩
      obtain ⟨gr, hgr⟩ : ∃ x, x = w13.heap.size + 1 := ⟨_, rfl⟩
      rw [← hgr, ← hgd]
      refine ⟨gd, gr, rfl, ?_, ?_, ?_⟩
      · rw [hgd]; exact ((Blk.new _ _ _).alloc _).drew
      · rw [hgr]; exact (blk_new' (by simp)).drew
      · rw [hgd]; exact (((Below.refl _ _).alloc (Nat.le_refl _) _).alloc (by simp) _).drew
    · obtain ⟨gd, hgd⟩ : ∃ x, x = w13.heap.size + 1 := ⟨_, rfl⟩
      obtain ⟨gr, hgr⟩ : ∃ x, x = w13.heap.size := ⟨_, rfl⟩
      rw [← hgd, ← hgr]
      refine ⟨gd, gr, rfl, ?_, ?_, ?_⟩
      · rw [hgd]; exact (blk_new' (by simp)).drew
      · rw [hgr]; exact ((Blk.new _ _ _).alloc _).drew
      · rw [hgr]; exact (((Below.refl _ _).alloc (Nat.le_refl _) _).alloc (by simp) _).drew
  rintro gd gr w14 ⟨hkd, hkr, hb14⟩
  have lx := HK13.out.lt
  have x1 := (hb14.cell (p := ⟨gx, 1, none⟩) lx).trans kx1
  have x2 := (hb14.cell (p := ⟨gx, 2, none⟩) lx).trans kx2
  have y1 := (hb14.cell (p := ⟨ub, uo + 13, none⟩) lu).trans u3
  have y2 := (hb14.cell (p := ⟨ub, uo + 14, none⟩) lu).trans u4
  have y3 := (hb14.cell (p := ⟨sb, so + 2, none⟩) ls).trans s2
  have y4 := (hb14.cell (p := ⟨sb, so + 4, none⟩) ls).trans s4
  have y5 := (hb14.cell (p := ⟨fb, fo + 16, none⟩) lf).trans f15
  have y6 := (hb14.cell (p := ⟨fb, fo + 27, none⟩) lf).trans f25
  have y7 := (hb14.cell (p := ⟨ib, io, none⟩) li).trans i0
  have y8 := (hb14.cell (p := ⟨mb, mo + 5, none⟩) lm).trans m05
  have y9 := (hb14.cell (p := ⟨mb, mo + 13, none⟩) lm).trans m15
  have y10 := (hb14.cell (p := ⟨mb, mo + 14, none⟩) lm).trans m16
  have y11 := (hb14.cell (p := ⟨ab, ao + 3, none⟩) la).trans a3
  have y12 := (hb14.cell (p := ⟨ab, ao + 4, none⟩) la).trans a4
  have y13 := (hb14.cell (p := ⟨ab, ao + 8, none⟩) la).trans a8
  have y14 := (hb14.cell (p := ⟨ab, ao + 10, none⟩) la).trans a10
  have e2 := hkd.cell 2
  have e3 := hkd.cell 3
  have g2 := hkr.cell 2
  have g3 := hkr.cell 3
  simp only [List.getElem?_toArray, List.getElem?_cons_zero, List.getElem?_cons_succ] at e2 e3 g2 g3
  have HB14 := Lib.hid (HB13.out.trans (hb14.mono HB13.out.size))
  clear hkd hkr hb14 kx1 kx2 kx3 kx4 kx5 u3 u4 s2 s4 s5 r0 r1 r2 r3 r4 f15 f25 d0 d1 d2 d3 m05 m15 m16 a3 a4 a8 a10 i0 lu ls lf li lm la lx lr ld HK13 HX13 HB13
  go_wp2_with fail
  go_ret
  exact ⟨rfl, HB14.out⟩

end Go.Proofs.Ytkkkephjljiplaa
