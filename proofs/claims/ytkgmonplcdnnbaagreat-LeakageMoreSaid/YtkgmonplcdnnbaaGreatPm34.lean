/- Contracts of versions.person, versions.fits. Written by genty.py. -/
import Derived.Test.YtkgmonplcdnnbaaGreatPm32
import Derived.Test.YtkgmonplcdnnbaaGreatPm33
namespace Go.Proofs.YtkgmonplcdnnbaaGreat
open Go.RowKit
theorem Tryz.infoInt8 : (Tryz.prog.info? 3).map (fun i => (i.zero, i.size, i.bytes)) = some (some (.int .i64 0), 1, 8) := by kernel_rfl
set_option maxHeartbeats 16000000 in
set_option maxRecDepth 100000 in
theorem ruleOK_any (A1 A2 A3 A4 A5 A6 : Option Addr) (n1 c1 n2 c2 n3 c3 n4 c4 n5 c5 n6 c6 : Nat) (F1 F2 F3 : Option Addr) (m1 d1 m2 d2 m3 d3 : Nat) (hd : ByteArray) (sch : Int) (frs : List QFrom) (whs : List QAtom) (sts : List QSet) (us : List QUnit) (ss : List QSchema) (w0 w : World) (hb0 : Below w0.heap.size w0 w) (h2 : SlR 5 qUnitR w0 (.slice A2 n2 c2) us) (h3 : SlR 6 qSchemaR w0 (.slice A3 n3 c3) ss)
 (hf : SlR 8 qFromR w0 (.slice F1 m1 d1) frs) (hwh : SlR 11 qAtomR w0 (.slice F2 m2 d2) whs) (hse : SlB 7 80 qSetR w0 (.slice F3 m3 d3) sts) (hU : ∀ x ∈ ss, ∀ f ∈ x.fields, unitIn n2 f.type) :
 Calls Tryz.prog 68 #[(.agg #[.slice A1 n1 c1, .slice A2 n2 c2, .slice A3 n3 c3, .slice A4 n4 c4, .slice A5 n5 c5, .slice A6 n6 c6, .string hd, .int .i64 sch, .slice F1 m1 d1, .slice F2 m2 d2, .slice F3 m3 d3])] w fun e w' => e = .returned (.bool (ruleOK us ss ⟨hd, sch, frs, whs, sts⟩)) ∧ Below w.heap.size w w' := by
 have hm2 : m2 ≤ 9223372036854775807 := by have := hwh.le; omega
 have hm3 : m3 ≤ 2000000000000 := by have := hse.2; have := hse.1.len; omega
 have hn3 : n3 ≤ 9223372036854775807 := by have := h3.le; omega
 obtain ⟨j0, hj, hjz0, hjz1, hjz2⟩ := info_parts Tryz.infoInt8
 have HJ := Lib.hid (And.intro hj (And.intro hjz0 (And.intro hjz1 hjz2)))
 clear hj hjz0 hjz1 hjz2
 have HLW := Lib.hid hwh.len
 have HLS := Lib.hid hse.1.len
 have HLN := Lib.hid h3.len
 have HBB : Hid (Below w.heap.size w (w.alloc (.cells #[.slice A1 n1 c1, .slice A2 n2 c2, .slice A3 n3 c3, .slice A4 n4 c4, .slice A5 n5 c5, .slice A6 n6 c6, .string hd, .int .i64 sch, .slice F1 m1 d1, .slice F2 m2 d2, .slice F3 m3 d3] 112))) := Lib.hid ((Below.refl _ _).alloc (Nat.le_refl _) _)
 have HA : Hid (Blk (w.alloc (.cells #[.slice A1 n1 c1, .slice A2 n2 c2, .slice A3 n3 c3, .slice A4 n4 c4, .slice A5 n5 c5, .slice A6 n6 c6, .string hd, .int .i64 sch, .slice F1 m1 d1, .slice F2 m2 d2, .slice F3 m3 d3] 112)) w.heap.size 112 #[.slice A1 n1 c1, .slice A2 n2 c2, .slice A3 n3 c3, .slice A4 n4 c4, .slice A5 n5 c5, .slice A6 n6 c6, .string hd, .int .i64 sch, .slice F1 m1 d1, .slice F2 m2 d2, .slice F3 m3 d3]) := Lib.hid (Blk.new _ _ _)
 have HFO : Hid (∀ W, Below w0.heap.size w0 W → Calls Tryz.prog 129 #[(.agg #[.slice A1 n1 c1, .slice A2 n2 c2, .slice A3 n3 c3, .slice A4 n4 c4, .slice A5 n5 c5, .slice A6 n6 c6, .string hd, .int .i64 sch, .slice F1 m1 d1, .slice F2 m2 d2, .slice F3 m3 d3])] W fun e w' => e = .returned (.bool (fromsOK ss frs)) ∧ Below W.heap.size W w') := Lib.hid (fun W hW => fromsOK_any A1 A2 A3 A4 A5 A6 n1 c1 n2 c2 n3 c3 n4 c4 n5 c5 n6 c6 F1 F2 F3 m1 d1 m2 d2 m3 d3 hd sch ss frs w0 W hW h3 hf)
 have HAT : Hid (∀ (a : QAtom) W, Below w0.heap.size w0 W → Calls Tryz.prog 130 #[(.agg #[.slice A1 n1 c1, .slice A2 n2 c2, .slice A3 n3 c3, .slice A4 n4 c4, .slice A5 n5 c5, .slice A6 n6 c6, .string hd, .int .i64 sch, .slice F1 m1 d1, .slice F2 m2 d2, .slice F3 m3 d3]), .agg #[.int .i64 a.op, .string a.a.name, .string a.a.path, .int .i64 a.a.var, .int .i64 a.a.field, .int .i64 a.a.n, .string a.b.name, .string a.b.path, .int .i64 a.b.var, .int .i64 a.b.field, .int .i64 a.b.n]] W fun e w' => e = .returned (.bool (atomOK us ss frs a)) ∧ Below W.heap.size W w') := Lib.hid (fun a W hW => atomOK_any A1 A2 A3 A4 A5 A6 n1 c1 n2 c2 n3 c3 n4 c4 n5 c5 n6 c6 F1 F2 F3 m1 d1 m2 d2 m3 d3 hd sch a us ss frs w0 W hW h2 h3 hf hU)
 have HTY : Hid (∀ (s f : Int) W, Below w0.heap.size w0 W → Calls Tryz.prog 131 #[(.agg #[.slice A1 n1 c1, .slice A2 n2 c2, .slice A3 n3 c3, .slice A4 n4 c4, .slice A5 n5 c5, .slice A6 n6 c6]), .int .i64 s, .int .i64 f] W (RetType (typeAt ss s f) w0 W)) := Lib.hid (fun s f W hW => typeOf_any A1 A2 A3 A4 A5 A6 n1 c1 n2 c2 n3 c3 n4 c4 n5 c5 n6 c6 s f ss w0 W hW h3)
 have HSO : Hid (∀ (f : QType) (t : QTerm) (B : Option Addr) (m d : Nat) W, Below w0.heap.size w0 W → SlB 1 16 strR w0 (.slice B m d) f.names → Calls Tryz.prog 132 #[(.agg #[.slice A1 n1 c1, .slice A2 n2 c2, .slice A3 n3 c3, .slice A4 n4 c4, .slice A5 n5 c5, .slice A6 n6 c6, .string hd, .int .i64 sch, .slice F1 m1 d1, .slice F2 m2 d2, .slice F3 m3 d3]), .agg #[.int .i64 f.kind, .int .i64 f.lo, .int .i64 f.hi, .string f.of_, .int .i64 f.unit, .slice B m d], .agg #[.string t.name, .string t.path, .int .i64 t.var, .int .i64 t.field, .int .i64 t.n]] W fun e w' => e = .returned (.bool (setOK ss frs f t)) ∧ Below W.heap.size W w') := Lib.hid (fun f t B m d W hW hn => setOK_any A1 A2 A3 A4 A5 A6 n1 c1 n2 c2 n3 c3 n4 c4 n5 c5 n6 c6 F1 F2 F3 m1 d1 m2 d2 m3 d3 hd sch f t B m d ss frs w0 W hW h3 hf hn)
 have H3 := Lib.hid h3
 have HWH := Lib.hid hwh
 have HSE := Lib.hid hse.1
 have HB0 := Lib.hid hb0
 clear h2 h3 hf hwh hse hb0 hU
 obtain ⟨R, hR⟩ : ∃ R, ruleOK us ss ⟨hd, sch, frs, whs, sts⟩ = R := ⟨_, rfl⟩
 have HR : Hid (R = (fromsOK ss frs && decide (whs.length ≤ 8) && whs.all (atomOK us ss frs) && decide (0 ≤ sch) && ((ss[sch.toNat]?).any fun h => decide (sts.length + 1 = h.fields.length)) && sts.all (setAtOK ss frs sch) && diffGo [] (sts.map fun s => s.field))) := Lib.hid (by rw [← hR]; rfl)
 rw [hR]
 clear hR
 go_enter Tryz.func68, Tryz.ntmps68
 go_upto_region 1 with fail
 generalize w.alloc (.cells #[.slice A1 n1 c1, .slice A2 n2 c2, .slice A3 n3 c3, .slice A4 n4 c4, .slice A5 n5 c5, .slice A6 n6 c6, .string hd, .int .i64 sch, .slice F1 m1 d1, .slice F2 m2 d2, .slice F3 m3 d3] 112) = wb at *
 obtain ⟨ga, hga⟩ : ∃ g, g = w.heap.size := ⟨_, rfl⟩
 rw [← hga] at HA ⊢
 clear hga
 have lA := HA.out.lt
 obtain ⟨a0, a1, a2, a3, a4, a5, a6, a7, a8, a9, a10⟩ := HA.out.eleven
 obtain ⟨vf, hvf⟩ : ∃ v, fromsOK ss frs = v := ⟨_, rfl⟩
 have HC := Lib.hid (HFO.out wb (HB0.out.trans (HBB.out.mono HB0.out.size)))
 rw [hvf] at HC
 have HVF := Lib.hid hvf
 clear hvf HFO
 go_wp2_with (go_at_call 129; refine HC.out.mono ?_; clear HC)
 rintro e w1 ⟨rfl, hb1⟩
 have HB1 := Lib.hid hb1
 clear hb1 a0 a1 a2 a3 a4 a5 a6 a7 a8 a9 a10
 cases vf with
 |
  false =>
  have HE : Hid (R = false) := Lib.hid (by rw [HR.out, HVF.out]; rfl)
  go_wp2_with fail
  go_ret
  exact ⟨ret_bool HE.out.symm, HBB.out.trans (HB1.out.mono HBB.out.size)⟩
 | true =>
 obtain ⟨a0, a1, a2, a3, a4, a5, a6, a7, a8, a9, a10⟩ := (HA.out.below HB1.out lA).eleven
 have lA1 := Nat.lt_of_lt_of_le lA HB1.out.size
 by_cases h8 : (8 : Int) < (m2 : Int)
 ·
  have HE : Hid (R = false) := Lib.hid (by
   rw [HR.out, ← HLW.out]
   have : decide (m2 ≤ 8) = false := decide_eq_false (by omega)
   rw [this, Bool.and_false]; rfl)
  go_wp2_with fail
  go_ret
  exact ⟨ret_bool HE.out.symm, HBB.out.trans (HB1.out.mono HBB.out.size)⟩
 have HR2 : Hid (R = (whs.all (atomOK us ss frs) && decide (0 ≤ sch) && ((ss[sch.toNat]?).any fun h => decide (sts.length + 1 = h.fields.length)) && sts.all (setAtOK ss frs sch) && diffGo [] (sts.map fun s => s.field))) := Lib.hid (by
  rw [HR.out, HVF.out, decide_eq_true (by have := HLW.out; omega)]; simp only [Bool.true_and])
 clear HR HVF
 go_wp2_with fail
 clear a0 a1 a2 a3 a4 a5 a6 a7 a8 a9 a10
 go_loopg [25] m2 (fun q i wr => ∃ k : Nat, k ≤ m2 ∧ q = m2 - k ∧ i = .int .i64 k ∧ (whs.take k).all (atomOK us ss frs) = true ∧ Below wb.heap.size wb wr)
 case atStart => exact ⟨0, Nat.zero_le _, rfl, rfl, rfl, HB1.out⟩
 case round =>
  clear HB1 lA1
  obtain ⟨k, hk, hq, rfl, hall, hb⟩ := hrel
  have HQ := Lib.hid hq
  have HALL := Lib.hid hall
  have HBR := Lib.hid hb
  have HBW : Hid (Below w.heap.size w wr) := Lib.hid (HBB.out.trans (hb.mono HBB.out.size))
  have HBZ : Hid (Below w0.heap.size w0 wr) := Lib.hid (HB0.out.trans (HBW.out.mono HB0.out.size))
  obtain ⟨a0, a1, a2, a3, a4, a5, a6, a7, a8, a9, a10⟩ := (HA.out.below hb lA).eleven
  have lAr := Nat.lt_of_lt_of_le lA hb.size
  clear hq hall hb
  by_cases hlt : k < m2
  ·
   obtain ⟨b, off, x, hF, hbl, hx, e0, e1, e2, e3, e4, e5, e6, e7, e8, e9, e10⟩ := qAtom_at (HWH.out.mono qAtomR_mono HBZ.out) hlt
   subst hF
   have hk0 : (0 : Int) ≤ (k : Int) := by omega
   have hk1 : (k : Int) < (m2 : Int) := by omega
   have HX := Lib.hid hx
   obtain ⟨v, hv⟩ : ∃ v, atomOK us ss frs x = v := ⟨_, rfl⟩
   have HV := Lib.hid hv
   have HC := Lib.hid (fun o => HAT.out x (wr.alloc o) (HBZ.out.alloc HBZ.out.size o))
   rw [hv] at HC
   clear hv hx
   go_wp2_with (go_at_call 130; refine (HC.out _).mono ?_; clear HC)
   rintro e w2 ⟨rfl, hb2⟩
   have HB2 : Hid (Below wb.heap.size wb w2) := Lib.hid ((HBR.out.alloc HBR.out.size _).trans (hb2.mono (by have := HBR.out.size; simp; omega)))
   clear hb2 a0 a1 a2 a3 a4 a5 a6 a7 a8 a9 a10 e0 e1 e2 e3 e4 e5 e6 e7 e8 e9 e10
   cases v with
   |
    false =>
    have HE : Hid (R = false) := Lib.hid (by rw [HR2.out, all_at HX.out HV.out]; rfl)
    go_wp2_with fail
    go_ret
    exact ⟨ret_bool HE.out.symm, HBB.out.trans (HB2.out.mono HBB.out.size)⟩
   |
    true =>
    go_wp2_with fail
    go_roundg (m2 - (k + 1))
    case measure => have := HQ.out; omega
    case rel => exact ⟨k + 1, by omega, rfl, by go_num, all_take HX.out HV.out HALL.out, HB2.out⟩
  have HT : Hid (whs.all (atomOK us ss frs) = true) := by
   have := HALL.out
   rw [List.take_of_length_le (by have := HLW.out; omega)] at this
   exact Lib.hid this
  have HR3 : Hid (R = (decide (0 ≤ sch) && ((ss[sch.toNat]?).any fun h => decide (sts.length + 1 = h.fields.length)) && sts.all (setAtOK ss frs sch) && diffGo [] (sts.map fun s => s.field))) := Lib.hid (by rw [HR2.out, HT.out, Bool.true_and])
  obtain ⟨wy, rfl⟩ : ∃ x, x = wr := ⟨_, rfl⟩
  clear HR2 HALL HT HQ HAT HWH
  by_cases hs0 : sch < 0
  ·
   have HE : Hid (R = false) := Lib.hid (by rw [HR3.out, decide_eq_false (by omega)]; rfl)
   have hd0 : decide (sch < 0) = true := decide_eq_true hs0
   go_upto_region 10 with fail
   go_quiet (fail)
   go_wp2_with fail
   go_ret
   exact ⟨ret_bool HE.out.symm, below_drewN HBW.out _⟩
  by_cases hs1 : (n3 : Int) ≤ sch
  ·
   have HE : Hid (R = false) := Lib.hid (by
    rw [HR3.out, List.getElem?_eq_none (by have := HLN.out; omega)]
    simp)
   have hd0 : decide (sch < 0) = false := decide_eq_false hs0
   have hd1 : decide ((n3 : Int) ≤ sch) = true := decide_eq_true hs1
   go_upto_region 10 with fail
   go_quiet (fail)
   go_wp2_with fail
   go_ret
   exact ⟨ret_bool HE.out.symm, below_drewN HBW.out _⟩
  obtain ⟨i, rfl⟩ : ∃ i : Nat, sch = i := ⟨sch.toNat, by omega⟩
  obtain ⟨g1, o1, x, FA, fn, fc, DA, dn, dc, hA3, hbl, hx, e0, e1, e2, e3, e4, e5, hF, hD⟩ := qSchema_at (H3.out.mono qSchemaR_mono HBZ.out) (k := i) (by omega)
  subst hA3
  have hfn : fn ≤ 9000000000000 := by have := hF.2; have := hF.1.len; omega
  have HFN := Lib.hid hF.1.len
  have HR4 : Hid (R = (decide (sts.length + 1 = x.fields.length) && sts.all (setAtOK ss frs i) && diffGo [] (sts.map fun s => s.field))) := Lib.hid (by
   rw [HR3.out, decide_eq_true (by omega), Int.toNat_natCast, hx]; rfl)
  have hd0 : decide ((i : Int) < 0) = false := decide_eq_false hs0
  have hd1 : decide (n3 ≤ i) = false := decide_eq_false (by omega)
  have hi0 : (0 : Int) ≤ (i : Int) := by omega
  have hi1 : (i : Int) < (n3 : Int) := by omega
  clear HR3 e0 e1 e2 e3 e5 hF hD hx hs0 hs1
  cases q1 : ((m3 : Int) != (fn : Int) - 1) with
  |
   true =>
   have HE : Hid (R = false) := Lib.hid (by
    simp at q1
    rw [HR4.out, decide_eq_false (by have := HLS.out; have := HFN.out; omega)]; rfl)
   go_upto_region 10 with fail
   go_quiet (fail)
   go_wp2_with fail
   go_ret
   exact ⟨ret_bool HE.out.symm, below_drewN HBW.out _⟩
  | false =>
  have HR5 : Hid (R = (sts.all (setAtOK ss frs i) && diffGo [] (sts.map fun s => s.field))) := Lib.hid (by
   simp at q1
   rw [HR4.out, decide_eq_true (by have := HLS.out; have := HFN.out; omega), Bool.true_and])
  clear HR4
  go_upto_region 10 with fail
  go_quiet (fail)
  have HBQ : Hid (Below wb.heap.size wb (wy.drewN nq)) := Lib.hid (below_drewN HBR.out _)
  generalize wy.drewN nq = wq at *
  have HBX : Hid (Below w.heap.size w wq) := Lib.hid (HBB.out.trans (HBQ.out.mono HBB.out.size))
  clear a0 a1 a2 a3 a4 a5 a6 a7 a8 a9 a10 e4 hbl lAr q1 HBR HBW HBZ
  obtain ⟨a0, a1, a2, a3, a4, a5, a6, a7, a8, a9, a10⟩ := (HA.out.below HBQ.out lA).eleven
  have lAq := Nat.lt_of_lt_of_le lA HBQ.out.size
  go_wp2_with fail
  clear a0 a1 a2 a3 a4 a5 a6 a7 a8 a9 a10 lAq
  go_loopg [6, 69] m3 (fun q v6 i6 wr => ∃ (k : Nat) (tv : Value), k ≤ m3 ∧ q = m3 - k ∧ i6 = .int .i64 k ∧ tv = v6 ∧ (sts.take k).all (setAtOK ss frs i) = true ∧ wr.ownsRow wq.heap.size 3 1 tv k (((sts.take k).map fun s => s.field).map (Value.int .i64)) ∧ Below wq.heap.size wq wr)
  case atStart => exact ⟨0, .slice none 0 0, Nat.zero_le _, rfl, rfl, rfl, rfl, World.ownsRow_nil _ _ _ _, Below.refl _ _⟩
  case round =>
   obtain ⟨k, tv, hk, hq, rfl, rfl, hall, ho, hb⟩ := hrel
   have HQ := Lib.hid hq
   have HALL := Lib.hid hall
   have HO := Lib.hid ho
   have HBR := Lib.hid hb
   have HBS : Hid (Below wb.heap.size wb wr) := Lib.hid (HBQ.out.trans (hb.mono HBQ.out.size))
   have HBW : Hid (Below w.heap.size w wr) := Lib.hid (HBX.out.trans (hb.mono HBX.out.size))
   have HBZ : Hid (Below w0.heap.size w0 wr) := Lib.hid (HB0.out.trans (HBW.out.mono HB0.out.size))
   clear hq hall ho hb
   by_cases hlt : k < m3
   case neg =>
    have HKM : Hid (k = m3) := Lib.hid (by omega)
    have hfull : sts.take k = sts := List.take_of_length_le (by have := HLS.out; omega)
    have HE : Hid (R = diffGo [] (sts.map fun s => s.field)) := Lib.hid (by
     have := HALL.out
     rw [hfull] at this
     rw [HR5.out, this, Bool.true_and])
    have hsl : SlR 1 iR wr tv (sts.map fun s => s.field) := by
     have := HO.out
     rw [hfull] at this
     exact slI_of_own this
    obtain ⟨TA, tc, hform⟩ : ∃ TA tc, tv = .slice TA k tc := by
     obtain ⟨TA, tc, e, _⟩ := hsl
     exact ⟨TA, tc, by rw [e, List.length_map, ← HLS.out, HKM.out]⟩
    subst hform
    obtain ⟨v, hv⟩ : ∃ v, diffGo [] (sts.map fun s => s.field) = v := ⟨_, rfl⟩
    have HD : Hid (Calls Tryz.prog 133 #[.slice TA k tc] wr fun e w' => e = .returned (.bool v) ∧ Below wr.heap.size wr w') := Lib.hid (by
     have := differentInt_any TA k tc (sts.map fun s => s.field) wr hsl
     rw [hv] at this
     exact this)
    have HE2 : Hid (R = v) := Lib.hid (HE.out.trans hv)
    clear hsl hv hfull
    go_wp2_with (go_at_call 133; refine HD.out.mono ?_; clear HD)
    rintro e w2 ⟨rfl, hb2⟩
    have HB2 := Lib.hid (HBW.out.trans (hb2.mono HBW.out.size))
    clear hb2
    go_wp2_with fail
    go_ret
    exact ⟨ret_bool HE2.out.symm, HB2.out⟩
   obtain ⟨b, off, s, hS, hbl, hx, e0, e1, e2, e3, e4, e5, e6⟩ := qSet_at (HSE.out.mono qSetR_mono HBZ.out) hlt
   subst hS
   have hk0 : (0 : Int) ≤ (k : Int) := by omega
   have hk1 : (k : Int) < (m3 : Int) := by omega
   have HX := Lib.hid hx
   clear hx
   obtain ⟨sp, sf, st⟩ := s
   simp only at e0 e1 e2 e3 e4 e5 e6
   obtain ⟨a0, a1, a2, a3, a4, a5, a6, a7, a8, a9, a10⟩ := (HA.out.below HBS.out lA).eleven
   have lAr := Nat.lt_of_lt_of_le lA HBS.out.size
   have HT := Lib.hid (fun o => HTY.out i sf (wr.alloc o) (HBZ.out.alloc HBZ.out.size o))
   obtain ⟨y, hy⟩ : ∃ y, typeAt ss i sf = y := ⟨_, rfl⟩
   have HSA : Hid (setAtOK ss frs i ⟨sp, sf, st⟩ = y.any fun f => decide (sf ≠ 0) && setOK ss frs f st) := Lib.hid (by rw [setAtOK, hy])
   rw [hy] at HT
   have HKS : Hid (∀ W, Below (wr.alloc (.cells #[.string sp, .int .i64 sf, .string st.name, .string st.path, .int .i64 st.var, .int .i64 st.field, .int .i64 st.n] 195)).heap.size (wr.alloc (.cells #[.string sp, .int .i64 sf, .string st.name, .string st.path, .int .i64 st.var, .int .i64 st.field, .int .i64 st.n] 195)) W → Blk W wr.heap.size 195 #[.string sp, .int .i64 sf, .string st.name, .string st.path, .int .i64 st.var, .int .i64 st.field, .int .i64 st.n]) := Lib.hid (fun W h => (Blk.new wr _ _).below h (by simp))
   clear hy
   cases y with
   |
    none =>
    have HE : Hid (R = false) := Lib.hid (by rw [HR5.out, all_at HX.out HSA.out]; rfl)
    go_wp2_with (go_at_call 131; refine (HT.out _).mono ?_; clear HT; rintro e w2 ⟨⟨B, m', d', rfl, hs⟩, hb2⟩; have HB2 : Hid (Below w.heap.size w w2) := Lib.hid ((HBW.out.alloc HBW.out.size _).trans (hb2.mono (by have := HBW.out.size; simp; omega))); clear hs hb2; simp only [Option.isSome_none])
    go_ret
    exact ⟨ret_bool HE.out.symm, HB2.out.alloc HB2.out.size _⟩
   |
    some y =>
    obtain ⟨yk, yl, yh, yf, yu, yn⟩ := y
    go_wp2_with (go_at_call 131; refine (HT.out _).mono ?_; clear HT)
    rintro e w2 ⟨⟨B, m', d', rfl, hs⟩, hb2⟩
    have HS := Lib.hid hs
    have HB2 : Hid (Below wq.heap.size wq w2) := Lib.hid ((HBR.out.alloc HBR.out.size _).trans (hb2.mono (by have := HBR.out.size; simp; omega)))
    have HBS2 : Hid (Below wb.heap.size wb w2) := Lib.hid (HBQ.out.trans (HB2.out.mono HBQ.out.size))
    have HBZ2 : Hid (Below w0.heap.size w0 w2) := Lib.hid (HB0.out.trans ((HBX.out.trans (HB2.out.mono HBX.out.size)).mono HB0.out.size))
    have HO2 := Lib.hid (own_below0 (HO.out.alloc _) hb2)
    have HKS2 := Lib.hid (HKS.out w2 hb2)
    clear hs hb2 HKS a0 a1 a2 a3 a4 a5 a6 a7 a8 a9 a10 lAr e0 e1 e2 e3 e4 e5 e6 hbl HBR HBS HBW HBZ
    simp only [Option.isSome_some, Option.getD_some]
    simp only [Option.getD_some] at HS
    obtain ⟨a0, a1, a2, a3, a4, a5, a6, a7, a8, a9, a10⟩ := (HA.out.below HBS2.out lA).eleven
    have lA2 := Nat.lt_of_lt_of_le lA HBS2.out.size
    have s0 := HKS2.out.cell 0
    have s1 := HKS2.out.cell 1
    have s2 := HKS2.out.cell 2
    have s3 := HKS2.out.cell 3
    have s4 := HKS2.out.cell 4
    have s5 := HKS2.out.cell 5
    have s6 := HKS2.out.cell 6
    simp only [List.getElem?_toArray, List.getElem?_cons_zero, List.getElem?_cons_succ] at s0 s1 s2 s3 s4 s5 s6
    have lS := HKS2.out.lt
    cases q2 : (sf == 0) with
    |
     true =>
     have HE : Hid (R = false) := Lib.hid (by
      have : setAtOK ss frs i ⟨sp, sf, st⟩ = false := by rw [HSA.out]; simp at q2; simp [q2]
      rw [HR5.out, all_at HX.out this]; rfl)
     go_wp2_with fail
     go_ret
     exact ⟨ret_bool HE.out.symm, HBX.out.trans ((HB2.out.alloc HB2.out.size _).mono HBX.out.size)⟩
    | false =>
    obtain ⟨v, hv⟩ : ∃ v, setOK ss frs ⟨yk, yl, yh, yf, yu, yn⟩ st = v := ⟨_, rfl⟩
    have HV : Hid (setAtOK ss frs i ⟨sp, sf, st⟩ = v) := Lib.hid (by rw [HSA.out]; simp at q2; simp [q2, hv])
    have HC := Lib.hid (fun o => HSO.out ⟨yk, yl, yh, yf, yu, yn⟩ st B m' d' (w2.alloc o) (HBZ2.out.alloc HBZ2.out.size o) HS.out)
    rw [hv] at HC
    clear hv
    have HKS3 : Hid (∀ o W, Below (w2.alloc o).heap.size (w2.alloc o) W → W.cell? ⟨wr.heap.size, 1, none⟩ = some (.int .i64 sf) ∧ wr.heap.size < W.heap.size) := Lib.hid (fun o W h => by
     have hk := (HKS2.out.alloc o).below h (by have := HKS2.out.lt; simp; omega)
     exact ⟨hk.cell 1, hk.lt⟩)
    go_wp2_with (go_at_call 132; refine (HC.out _).mono ?_; clear HC)
    rintro e w3 ⟨rfl, hb3⟩
    obtain ⟨s1, lS⟩ := HKS3.out _ _ hb3
    have HB3 : Hid (Below wq.heap.size wq w3) := Lib.hid ((HB2.out.alloc HB2.out.size _).trans (hb3.mono (by have := HB2.out.size; simp; omega)))
    have HO3 := Lib.hid (own_below0 (HO2.out.alloc _) hb3)
    clear hb3 HKS3 a0 a1 a2 a3 a4 a5 a6 a7 a8 a9 a10 lA2
    cases v with
    |
     false =>
     have HE : Hid (R = false) := Lib.hid (by rw [HR5.out, all_at HX.out HV.out]; rfl)
     go_wp2_with fail
     go_ret
     exact ⟨ret_bool HE.out.symm, HBX.out.trans (HB3.out.mono HBX.out.size)⟩
    |
     true =>
     obtain ⟨wt, hwt⟩ : ∃ wt, wt = w3.alloc (.cells #[.int .i64 sf] 3) := ⟨_, rfl⟩
     have HOT : Hid (wt.ownsRow wq.heap.size 3 1 tv k (((sts.take k).map fun s => s.field).map (Value.int .i64))) := Lib.hid (by rw [hwt]; exact HO3.out.alloc _)
     have HLT : Hid (SlR 1 iR wt (.slice (some ⟨w3.heap.size, 0, none⟩) 1 1) [sf]) := Lib.hid (by rw [hwt]; exact slR_lit (cs := [.int .i64 sf]) (t := 3) (Blk.new _ _ _) rfl rfl)
     have HBT : Hid (Below wq.heap.size wq wt) := Lib.hid (by rw [hwt]; exact HB3.out.alloc HB3.out.size _)
     have HWT := Lib.hid hwt
     clear hwt s0 s2 s3 s4 s5 s6
     go_wp2_with (at_builtin; rw [← HWT.out]; refine wpList_append_row wt rfl (.tmp 97) (.tmp 100) 30 3 rfl j0 _ 8 Tryz.underlying30 HJ.out.1 HJ.out.2.1 HJ.out.2.2.1 HJ.out.2.2.2 rfl (by decide) (R := iR) iR_one wq.heap.size tv k _ rfl HOT.out (some ⟨w3.heap.size, 0, none⟩) 1 1 [sf] rfl HLT.out ?hn ?hb HBT.out.size ?_)
     case hn =>
      unfold maxLen
      omega
     case hb => omega
     intro v4 w4 cs4 hc4 ho4 hg4 hat4
     have HB4 : Hid (Below wq.heap.size wq w4) := Lib.hid (HBT.out.grown hg4 HBT.out.size (fun k hk => (HOT.out.lt k hk).1))
     have HO4 := Lib.hid ho4
     have HC4 : Hid (cs4 = [.int .i64 sf]) := Lib.hid (by
      have h1 := hc4.1
      have h2 := hc4.2 0 sf rfl
      simp only [List.length_singleton, Nat.mul_one, List.drop_zero] at h1 h2
      rw [List.take_of_length_le (by omega)] at h2
      exact h2)
     clear hc4 ho4 hg4 hat4
     go_wp2_with fail
     go_roundg (m3 - (k + 1))
     case measure => have := HQ.out; omega
     case rel => exact ⟨k + 1, v4, by omega, rfl, by go_num, rfl, all_take HX.out HV.out HALL.out, by rw [take_snoc HX.out, List.map_append, List.map_append]; have := HO4.out; rw [HC4.out] at this; simpa [List.map_take] using this, HB4.out⟩
set_option maxHeartbeats 4000000 in
set_option maxRecDepth 100000 in
theorem check1_any (A1 A2 A3 A4 A5 A6 : Option Addr) (n1 c1 n2 c2 n3 c3 n4 c4 n5 c5 n6 c6 : Nat) (g : Nat) (F1 F2 F3 : Option Addr) (m1 d1 m2 d2 m3 d3 : Nat) (hd : ByteArray) (sch : Int) (frs : List QFrom) (whs : List QAtom) (sts : List QSet) (us : List QUnit) (ss : List QSchema) (w : World) (hk : Blk w g 110 #[.slice A1 n1 c1, .slice A2 n2 c2, .slice A3 n3 c3, .slice A4 n4 c4, .slice A5 n5 c5, .slice A6 n6 c6]) (h2 : SlR 5 qUnitR w (.slice A2 n2 c2) us) (h3 : SlR 6 qSchemaR w (.slice A3 n3 c3) ss)
 (hf : SlR 8 qFromR w (.slice F1 m1 d1) frs) (hwh : SlR 11 qAtomR w (.slice F2 m2 d2) whs) (hse : SlB 7 80 qSetR w (.slice F3 m3 d3) sts) (hU : ∀ x ∈ ss, ∀ f ∈ x.fields, unitIn n2 f.type) :
 Calls Tryz.prog 67 #[.agg #[.string hd, .int .i64 sch, .slice F1 m1 d1, .slice F2 m2 d2, .slice F3 m3 d3], .pointer (some ⟨g, 0, none⟩)] w fun e w' => e = .returned (.bool (ruleOK us ss ⟨hd, sch, frs, whs, sts⟩)) ∧ Below w.heap.size w w' := by
 have HB : Hid (∀ o, Below w.heap.size w (w.alloc o)) := Lib.hid (fun o => (Below.refl _ _).alloc (Nat.le_refl _) _)
 have HC := Lib.hid (fun o => ruleOK_any A1 A2 A3 A4 A5 A6 n1 c1 n2 c2 n3 c3 n4 c4 n5 c5 n6 c6 F1 F2 F3 m1 d1 m2 d2 m3 d3 hd sch frs whs sts us ss w (w.alloc o) (HB.out o) h2 h3 hf hwh hse hU)
 obtain ⟨v, hv⟩ : ∃ v, ruleOK us ss ⟨hd, sch, frs, whs, sts⟩ = v := ⟨_, rfl⟩
 rw [hv] at HC ⊢
 obtain ⟨a0, a1, a2, a3, a4, a5⟩ := hk.six
 have lk := hk.lt
 clear hk h2 h3 hf hwh hse hU hv
 go_enter Tryz.func67, Tryz.ntmps67
 go_wp2_with (go_at_call 68; refine (HC.out _).mono ?_; clear HC)
 rintro e w2 ⟨rfl, hb2⟩
 have HB2 := Lib.hid ((HB.out _).trans (hb2.mono (by simp)))
 clear hb2
 go_wp2_with fail
 go_ret
 exact ⟨rfl, HB2.out⟩
def valueP (n2 : Nat) (ss : List QSchema) (s f v : Int) : Bool := (typeAt ss s f).any fun t => typeOK n2 t && decide (t.lo ≤ v) && decide (v ≤ t.hi)
set_option maxHeartbeats 4000000 in
set_option maxRecDepth 100000 in
theorem value_any (A1 A2 A3 A4 A5 A6 : Option Addr) (n1 c1 n2 c2 n3 c3 n4 c4 n5 c5 n6 c6 : Nat) (sc f v : Int) (ss : List QSchema) (w0 w : World) (hb0 : Below w0.heap.size w0 w) (hn2 : n2 ≤ 9223372036854775807) (h3 : SlR 6 qSchemaR w0 (.slice A3 n3 c3) ss) :
 Calls Tryz.prog 206 #[(.agg #[.slice A1 n1 c1, .slice A2 n2 c2, .slice A3 n3 c3, .slice A4 n4 c4, .slice A5 n5 c5, .slice A6 n6 c6]), .int .i64 sc, .int .i64 f, .int .i64 v] w fun e w' => e = .returned (.bool (valueP n2 ss sc f v)) ∧ Below w.heap.size w w' := by
 have hbb : ∀ o1 o2, Below w.heap.size w ((w.alloc o1).alloc o2) := fun o1 o2 => (((Below.refl _ _).alloc (Nat.le_refl _) _).alloc (by simp) _)
 have HBB := Lib.hid hbb
 have HT := Lib.hid (fun o1 o2 => typeOf_any A1 A2 A3 A4 A5 A6 n1 c1 n2 c2 n3 c3 n4 c4 n5 c5 n6 c6 sc f ss w0 ((w.alloc o1).alloc o2) (hb0.trans ((hbb o1 o2).mono hb0.size)) h3)
 have HB0 := Lib.hid hb0
 clear hb0 h3 hbb
 obtain ⟨o, ho⟩ : ∃ o, typeAt ss sc f = o := ⟨_, rfl⟩
 have HO : Hid (valueP n2 ss sc f v = o.any fun t => typeOK n2 t && decide (t.lo ≤ v) && decide (v ≤ t.hi)) := Lib.hid (by rw [valueP, ho])
 rw [ho] at HT
 rw [HO.out]
 clear ho HO
 have HK : Hid (∀ o1 W, Below ((w.alloc o1).alloc (.cells #[.slice A1 n1 c1, .slice A2 n2 c2, .slice A3 n3 c3, .slice A4 n4 c4, .slice A5 n5 c5, .slice A6 n6 c6] 110)).heap.size ((w.alloc o1).alloc (.cells #[.slice A1 n1 c1, .slice A2 n2 c2, .slice A3 n3 c3, .slice A4 n4 c4, .slice A5 n5 c5, .slice A6 n6 c6] 110)) W → Blk W (w.heap.size + 1) 110 #[.slice A1 n1 c1, .slice A2 n2 c2, .slice A3 n3 c3, .slice A4 n4 c4, .slice A5 n5 c5, .slice A6 n6 c6]) := Lib.hid (fun o1 W h => Blk.below (blkNew (by simp)) h (by simp))
 cases o with
 |
  none =>
  simp only [Option.any_none]
  go_enter Tryz.func206, Tryz.ntmps206
  go_wp2_with (go_at_call 131; refine (HT.out _ _).mono ?_; clear HT; rintro e w2 ⟨⟨B, m, d, rfl, hs⟩, hb2⟩; have HB2 := Lib.hid ((HBB.out _ _).trans (hb2.mono (HBB.out _ _).size)); clear hs hb2; simp only [Option.isSome_none])
  go_ret
  exact ⟨rfl, HB2.out.alloc HB2.out.size _⟩
 |
  some y =>
  simp only [Option.any_some]
  obtain ⟨yk, yl, yh, yf, yu, yn⟩ := y
  go_enter Tryz.func206, Tryz.ntmps206
  go_wp2_with (go_at_call 131; refine (HT.out _ _).mono ?_; clear HT)
  rintro e w2 ⟨⟨B, m, d, rfl, hs⟩, hb2⟩
  obtain ⟨q0, q1, q2, q3, q4, q5⟩ := (HK.out _ _ hb2).six
  have lq := (HK.out _ _ hb2).lt
  have HB2 := Lib.hid ((HBB.out _ _).trans (hb2.mono (HBB.out _ _).size))
  simp only [Option.getD_some] at hs
  obtain ⟨vt, hvt⟩ : ∃ b, typeOK n2 ⟨yk, yl, yh, yf, yu, yn⟩ = b := ⟨_, rfl⟩
  have HTY : Hid (∀ o, Calls Tryz.prog 138 #[(.agg #[.slice A1 n1 c1, .slice A2 n2 c2, .slice A3 n3 c3, .slice A4 n4 c4, .slice A5 n5 c5, .slice A6 n6 c6]), .agg #[.int .i64 yk, .int .i64 yl, .int .i64 yh, .string yf, .int .i64 yu, .slice B m d]] (w2.alloc o) fun e w' => e = .returned (.bool vt) ∧ Below (w2.alloc o).heap.size (w2.alloc o) w') := Lib.hid (fun o => by
   have := typeOK_any A1 A2 A3 A4 A5 A6 n1 c1 n2 c2 n3 c3 n4 c4 n5 c5 n6 c6 ⟨yk, yl, yh, yf, yu, yn⟩ B m d (w2.alloc o) hn2 (hs.1.mono strR_mono (HB0.out.trans ((HB2.out.alloc HB2.out.size o).mono HB0.out.size)))
   rw [hvt] at this
   exact this)
  have HVT := Lib.hid hvt
  clear hs hb2 hvt HK HBB
  simp only [Option.getD_some, Option.isSome_some]
  go_wp2_with (go_at_call 138; refine (HTY.out _).mono ?_; clear HTY)
  rintro e w3 ⟨rfl, hb3⟩
  have kz := (Blk.new w2 55 #[.int .i64 yk, .int .i64 yl, .int .i64 yh, .string yf, .int .i64 yu, .slice B m d]).below hb3 (by simp)
  obtain ⟨z0, z1, z2, z3, z4, z5⟩ := kz.six
  have lz := kz.lt
  have HB3 : Hid (Below w.heap.size w w3) := Lib.hid ((HB2.out.alloc HB2.out.size _).trans (hb3.mono (by have := HB2.out.size; simp; omega)))
  clear kz hb3 q0 q1 q2 q3 q4 q5
  cases vt <;>
  ·
   go_wp2_with fail
   all_goals
    go_ret
    refine ⟨ret_bool ?_, HB3.out⟩
    have hE := HVT.out
    rw [hE]
    go_light
    first
     | rfl
     | (simp_all; done)
     | (simp_all; omega)
def fieldW (n2 : Nat) (f : QField) : Bool := typeOK n2 f.type && decide (f.type.lo ≤ f.type.lo) && decide (f.type.lo ≤ f.type.hi)
def personP (n2 : Nat) (ss : List QSchema) (s : Int) : Bool := decide (0 ≤ s) && decide (s < ss.length) && (ss[s.toNat]?).any fun x => x.fields.all (fieldW n2) && (x.fields[0]?).any fun f => decide (f.type.kind = 3)
theorem value_at {n2 : Nat} {ss : List QSchema} {k i : Nat} {x : QSchema} {y : QField} (hx : ss[k]? = some x) (hy : x.fields[i]? = some y) : valueP n2 ss k i y.type.lo = fieldW n2 y := by
 rw [valueP, typeAt, if_neg (by omega), Int.toNat_natCast, Int.toNat_natCast, hx, Option.bind_some, hy]; rfl
theorem person_in {n2 : Nat} {ss : List QSchema} {k : Nat} {x : QSchema} (hx : ss[k]? = some x) : personP n2 ss k = (x.fields.all (fieldW n2) && (x.fields[0]?).any fun f => decide (f.type.kind = 3)) := by
 have := (List.getElem?_eq_some_iff.1 hx).1
 rw [personP, decide_eq_true (by omega), decide_eq_true (by omega), Int.toNat_natCast, hx]; rfl
set_option maxHeartbeats 4000000 in
set_option maxRecDepth 100000 in
theorem person_any (A1 A2 A3 A4 A5 A6 : Option Addr) (n1 c1 n2 c2 n3 c3 n4 c4 n5 c5 n6 c6 : Nat) (sc : Int) (ss : List QSchema) (w0 w : World) (hb0 : Below w0.heap.size w0 w) (hn2 : n2 ≤ 9223372036854775807) (h3 : SlR 6 qSchemaR w0 (.slice A3 n3 c3) ss) :
 Calls Tryz.prog 142 #[(.agg #[.slice A1 n1 c1, .slice A2 n2 c2, .slice A3 n3 c3, .slice A4 n4 c4, .slice A5 n5 c5, .slice A6 n6 c6]), .int .i64 sc] w fun e w' => e = .returned (.bool (personP n2 ss sc)) ∧ Below w.heap.size w w' := by
 have hn3 : n3 ≤ 9223372036854775807 := by have := h3.le; omega
 have HLN := Lib.hid h3.len
 have HB0 := Lib.hid hb0
 have H3 := Lib.hid h3
 have HN2 := Lib.hid hn2
 clear hb0 h3 hn2
 by_cases hin : 0 ≤ sc ∧ sc < n3
 case neg =>
  have HE : Hid (personP n2 ss sc = false) := Lib.hid (by
   have : (decide (0 ≤ sc) && decide (sc < ss.length)) = false := by
    simp only [Bool.and_eq_false_iff, decide_eq_false_iff_not]
    have := HLN.out; omega
   rw [personP, this]; rfl)
  rw [HE.out]
  go_enter Tryz.func142, Tryz.ntmps142
  go_wp2_with fail
  all_goals first
   | (exfalso; omega)
   | (go_ret; exact ⟨rfl, ((Below.refl _ _).alloc (Nat.le_refl _) _)⟩)
 obtain ⟨k, rfl⟩ : ∃ k : Nat, sc = k := ⟨sc.toNat, by omega⟩
 have hk0 : (0 : Int) ≤ (k : Int) := by omega
 have hk1 : (k : Int) < (n3 : Int) := by omega
 have hz : decide (n3 ≤ k) = false := decide_eq_false (by omega)
 obtain ⟨b, off, x, FA, fn, fc, DA, dn, dc, hA3, hbl, hx, e0, e1, e2, e3, e4, e5, hF, hD⟩ := qSchema_at H3.out (k := k) (by omega)
 subst hA3
 have mf : fn ≤ 9223372036854775807 := by have := hF.1.le; omega
 have HFN := Lib.hid hF.1.len
 rw [← HB0.out.cell (p := ⟨b, _, none⟩) hbl] at e4
 have hblw : b < w.heap.size := Nat.lt_of_lt_of_le hbl HB0.out.size
 have HX := Lib.hid hx
 have HP : Hid (personP n2 ss k = (x.fields.all (fieldW n2) && (x.fields[0]?).any fun f => decide (f.type.kind = 3))) := Lib.hid (person_in hx)
 have HF := Lib.hid hF.1
 rw [HP.out]
 clear hin e0 e1 e2 e3 e5 hD hF hx HP
 have kA : Blk (w.alloc (.cells #[.slice A1 n1 c1, .slice A2 n2 c2, .slice (some ⟨b, off, none⟩) n3 c3, .slice A4 n4 c4, .slice A5 n5 c5, .slice A6 n6 c6] 29)) w.heap.size 29 #[.slice A1 n1 c1, .slice A2 n2 c2, .slice (some ⟨b, off, none⟩) n3 c3, .slice A4 n4 c4, .slice A5 n5 c5, .slice A6 n6 c6] := Blk.new _ _ _
 have HA := Lib.hid kA
 have HBB : Hid (Below w.heap.size w (w.alloc (.cells #[.slice A1 n1 c1, .slice A2 n2 c2, .slice (some ⟨b, off, none⟩) n3 c3, .slice A4 n4 c4, .slice A5 n5 c5, .slice A6 n6 c6] 29))) := Lib.hid ((Below.refl _ _).alloc (Nat.le_refl _) _)
 clear kA
 go_enter Tryz.func142, Tryz.ntmps142
 go_wp2_with fail
 generalize w.alloc (.cells #[.slice A1 n1 c1, .slice A2 n2 c2, .slice (some ⟨b, off, none⟩) n3 c3, .slice A4 n4 c4, .slice A5 n5 c5, .slice A6 n6 c6] 29) = wb at *
 obtain ⟨ga, hga⟩ : ∃ g, g = w.heap.size := ⟨_, rfl⟩
 rw [← hga] at HA ⊢
 have lA := HA.out.lt
 clear hga
 go_loopg [25] fn (fun q i wr => ∃ j : Nat, j ≤ fn ∧ q = fn - j ∧ i = .int .i64 j ∧ (x.fields.take j).all (fieldW n2) = true ∧ Below wb.heap.size wb wr)
 case atStart => exact ⟨0, Nat.zero_le _, rfl, rfl, rfl, Below.refl _ _⟩
 case round =>
  obtain ⟨j, hj, hq, rfl, hall, hb⟩ := hrel
  have HQ := Lib.hid hq
  have HALL := Lib.hid hall
  have HBR := Lib.hid hb
  have HBW : Hid (Below w.heap.size w wr) := Lib.hid (HBB.out.trans (hb.mono HBB.out.size))
  have HBZ : Hid (Below w0.heap.size w0 wr) := Lib.hid (HB0.out.trans (HBW.out.mono HB0.out.size))
  obtain ⟨a0, a1, a2, a3, a4, a5⟩ := (HA.out.below hb lA).six
  have lAr : ga < wr.heap.size := Nat.lt_of_lt_of_le lA hb.size
  clear hq hall hb
  by_cases hlt : j < fn
  case neg =>
   have HT : Hid (x.fields.all (fieldW n2) = true) := by
    have := HALL.out
    rw [List.take_of_length_le (by have := HFN.out; omega)] at this
    exact this
   clear a0 a1 a2 a3 a4 a5
   by_cases h0 : fn = 0
   ·
    have HE : Hid (x.fields[0]? = none) := Lib.hid (List.getElem?_eq_none (by have := HFN.out; omega))
    subst h0
    go_wp2_with fail
    go_ret
    exact ⟨ret_bool (by rw [HT.out, HE.out]; rfl), HBW.out⟩
   ·
    obtain ⟨b', off', y, C, mc, dc', hB1, hbl', hy, f0, f1, f2, f3, f4, f5, f6, f7, f8, f9, f10, G3⟩ := qField_at (HF.out.mono qFieldR_mono HBZ.out) (k := 0) (by omega)
    subst hB1
    have HY := Lib.hid hy
    simp only [Nat.zero_mul, Nat.add_zero] at f1
    have hfz : (0 : Int) < (fn : Int) := by omega
    have hk : (y.type.kind == 3) = decide (y.type.kind = 3) := by
     by_cases h : y.type.kind = 3 <;> simp [h]
    have HK := Lib.hid hk
    clear hk hy f0 f2 f3 f4 f5 f6 f7 f8 f9 f10 G3 h0
    go_wp2_with fail
    go_ret
    exact ⟨ret_bool (by rw [HT.out, HY.out, Option.any_some, Bool.true_and]; exact HK.out), HBW.out⟩
  obtain ⟨b', off', y, C, mc, dc', hB1, hbl', hy, f0, f1, f2, f3, f4, f5, f6, f7, f8, f9, f10, G3⟩ := qField_at (HF.out.mono qFieldR_mono HBZ.out) hlt
  subst hB1
  have hj0 : (0 : Int) ≤ (j : Int) := by omega
  have hj1 : (j : Int) < (fn : Int) := by omega
  have HY := Lib.hid hy
  obtain ⟨vv, hvv⟩ : ∃ v, fieldW n2 y = v := ⟨_, rfl⟩
  have HVV := Lib.hid hvv
  have HV := Lib.hid (fun o => value_any A1 A2 (some ⟨b, off, none⟩) A4 A5 A6 n1 c1 n2 c2 n3 c3 n4 c4 n5 c5 n6 c6 k j y.type.lo ss w0 (wr.alloc o) (HBZ.out.alloc HBZ.out.size o) HN2.out H3.out)
  rw [value_at HX.out hy, hvv] at HV
  clear hy G3 hvv
  go_wp2_with (go_at_call 206; refine (HV.out _).mono ?_; clear HV)
  rintro e w2 ⟨rfl, hb2⟩
  have HB2 := Lib.hid ((HBR.out.alloc HBR.out.size _).trans (hb2.mono (by have := HBR.out.size; simp; omega)))
  clear hb2 a0 a1 a2 a3 a4 a5 f0 f1 f2 f3 f4 f5 f6 f7 f8 f9 f10
  cases vv with
  |
   false =>
   have HE : Hid (x.fields.all (fieldW n2) = false) := Lib.hid (all_at HY.out HVV.out)
   go_wp2_with fail
   go_ret
   exact ⟨ret_bool (by rw [HE.out]; rfl), HBB.out.trans (HB2.out.mono HBB.out.size)⟩
  |
   true =>
   go_wp2_with fail
   go_roundg (fn - (j + 1))
   case measure => have := HQ.out; omega
   case rel => exact ⟨j + 1, by omega, rfl, by go_num, all_take HY.out HVV.out HALL.out, HB2.out⟩
def fitsV (a b : QType) (sh : Int) (an bn : Nat) : Bool :=
 if a.kind ≠ b.kind then false
 else if a.kind = 1 ∨ a.kind = 2 then (b.lo == wrap64 (a.lo + sh)) && (b.hi == wrap64 (a.hi + sh)) && (a.unit == b.unit)
 else (sh == 0) && (a.lo == b.lo) && (a.hi == b.hi) && ((an : Int) == (bn : Int))
set_option maxHeartbeats 4000000 in
set_option maxRecDepth 100000 in
theorem fitsT_any (a b : QType) (sh : Int) (B C : Option Addr) (m d k e : Nat) (w : World) :
 Calls Tryz.prog 143 #[.agg #[.int .i64 a.kind, .int .i64 a.lo, .int .i64 a.hi, .string a.of_, .int .i64 a.unit, .slice B m d], .agg #[.int .i64 b.kind, .int .i64 b.lo, .int .i64 b.hi, .string b.of_, .int .i64 b.unit, .slice C k e], .int .i64 sh] w fun e w' => e = .returned (.bool (fitsV a b sh m k)) ∧ Below w.heap.size w w' := by
 have HW : Hid (∀ o1 o2, Below w.heap.size w ((w.alloc o1).alloc o2)) := Lib.hid fun o1 o2 => (((Below.refl _ _).alloc (Nat.le_refl _) _).alloc (by simp) _)
 by_cases hkd : a.kind = b.kind
 case neg =>
  have hkn : (a.kind != b.kind) = true := by simpa using hkd
  have HE : Hid (fitsV a b sh m k = false) := Lib.hid (by rw [fitsV, if_pos hkd])
  rw [HE.out]
  clear hkd
  go_enter Tryz.func143, Tryz.ntmps143
  go_wp2_with fail
  go_ret
  exact ⟨rfl, HW.out _ _⟩
 have hkn : (a.kind != b.kind) = false := by simpa using hkd
 by_cases h12 : a.kind = 1 ∨ a.kind = 2
 ·
  have HE : Hid (fitsV a b sh m k = ((b.lo == wrap64 (a.lo + sh)) && (b.hi == wrap64 (a.hi + sh)) && (a.unit == b.unit))) := Lib.hid (by rw [fitsV, if_neg (by simpa using hkd), if_pos h12])
  rw [HE.out]
  have h1 : (a.kind == 1) = true ∨ ((a.kind == 1) = false ∧ (a.kind == 2) = true) := by
   rcases h12 with h | h
   · exact .inl (by simpa using h)
   · exact .inr ⟨by simp [h], by simpa using h⟩
  clear hkd h12
  go_enter Tryz.func143, Tryz.ntmps143
  rcases h1 with h1 | ⟨h1, h2⟩ <;>
  ·
   go_wp2_with fail
   all_goals
    go_ret
    refine ⟨ret_bool ?_, HW.out _ _⟩
    go_light
    first
     | rfl
     | (simp_all; done)
 ·
  have HE : Hid (fitsV a b sh m k = ((sh == 0) && (a.lo == b.lo) && (a.hi == b.hi) && ((m : Int) == (k : Int)))) := Lib.hid (by rw [fitsV, if_neg (by simpa using hkd), if_neg h12])
  rw [HE.out]
  have h1 : (a.kind == 1) = false := by simpa using fun h => h12 (.inl h)
  have h2 : (a.kind == 2) = false := by simpa using fun h => h12 (.inr h)
  clear hkd h12
  go_enter Tryz.func143, Tryz.ntmps143
  go_wp2_with fail
  all_goals
   go_ret
   refine ⟨ret_bool ?_, HW.out _ _⟩
   go_light
   first
    | rfl
    | (simp_all; done)
end Go.Proofs.YtkgmonplcdnnbaaGreat
