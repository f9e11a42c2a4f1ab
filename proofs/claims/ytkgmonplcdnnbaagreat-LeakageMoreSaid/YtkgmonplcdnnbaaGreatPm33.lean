/- Contract of package types: atomOK. Written by genatom.py and genty.py. -/
import Derived.Test.YtkgmonplcdnnbaaGreatPm32
import Derived.Test.YtkgmonplcdnnbaaGreatPm22
import Derived.Deep.RegionHeld3
import Derived.BigQuiet
namespace Go.Proofs.YtkgmonplcdnnbaaGreat
open Go.RowKit
def ttP (ss : List QSchema) (fs : List QFrom) (t : QTerm) : Option QType := termAt ss fs t fs.length
def pkT (ss : List QSchema) (fs : List QFrom) (t : QTerm) : Bool := (ttP ss fs t).isSome || isNum t
def alikeL (us : List QUnit) : List QType → Bool
 | [s, t] => alikeB us s t
 | _ => true
def ordY (op : Int) (y : QType) : Bool := !(decide (op = 2) || decide (op = 3)) || orderedT y
theorem atomOK_eq (us : List QUnit) (ss : List QSchema) (fs : List QFrom) (a : QAtom) : atomOK us ss fs a = (decide (1 ≤ a.op) && decide (a.op ≤ 4) && (pkT ss fs a.a && pkT ss fs a.b) && !([a.a, a.b].filterMap (ttP ss fs)).isEmpty && alikeL us ([a.a, a.b].filterMap (ttP ss fs)) && ([a.a, a.b].filterMap (ttP ss fs)).all (ordY a.op)) := by
 have ea : ttP ss fs a.a = termAt ss fs a.a fs.length := rfl
 have eb : ttP ss fs a.b = termAt ss fs a.b fs.length := rfl
 unfold atomOK pkT
 simp only [List.filterMap_cons, List.filterMap_nil, ea, eb]
 cases termAt ss fs a.a fs.length <;> cases termAt ss fs a.b fs.length
 · simp
 ·
  rename_i y
  simp only [Option.all_none, Option.all_some, List.all_cons, List.all_nil, alikeL, Option.isSome_none, Option.isSome_some, ordY, List.isEmpty_cons]
  generalize decide (1 ≤ a.op) = p1
  generalize decide (a.op ≤ 4) = p2
  generalize decide (a.op = 2) = p3
  generalize decide (a.op = 3) = p4
  generalize isNum a.a = p5
  generalize isNum a.b = p6
  generalize orderedT y = p7
  revert p1 p2 p3 p4 p5 p6 p7; decide
 ·
  rename_i y
  simp only [Option.all_none, Option.all_some, List.all_cons, List.all_nil, alikeL, Option.isSome_none, Option.isSome_some, ordY, List.isEmpty_cons]
  generalize decide (1 ≤ a.op) = p1
  generalize decide (a.op ≤ 4) = p2
  generalize decide (a.op = 2) = p3
  generalize decide (a.op = 3) = p4
  generalize isNum a.a = p5
  generalize isNum a.b = p6
  generalize orderedT y = p7
  revert p1 p2 p3 p4 p5 p6 p7; decide
 ·
  rename_i x y
  simp only [Option.all_some, List.all_cons, List.all_nil, alikeL, Option.isSome_some, ordY, List.isEmpty_cons]
  generalize decide (1 ≤ a.op) = p1
  generalize decide (a.op ≤ 4) = p2
  generalize decide (a.op = 2) = p3
  generalize decide (a.op = 3) = p4
  generalize isNum a.a = p5
  generalize isNum a.b = p6
  generalize orderedT y = p7
  generalize orderedT x = p8
  generalize alikeB us x y = p9
  revert p1 p2 p3 p4 p5 p6 p7 p8 p9; decide
theorem termAt_in {ss : List QSchema} {fs : List QFrom} {t : QTerm} {n : Nat} {y : QType} (h : termAt ss fs t n = some y) : ∃ x ∈ ss, ∃ f ∈ x.fields, f.type = y := by
 unfold termAt at h
 split at h
 · cases h
 ·
  obtain ⟨f, hf, h2⟩ := Option.bind_eq_some_iff.1 h
  unfold typeAt at h2
  split at h2
  · cases h2
  ·
   obtain ⟨x, hx, h3⟩ := Option.bind_eq_some_iff.1 h2
   obtain ⟨g, hg, h4⟩ := Option.map_eq_some_iff.1 h3
   exact ⟨x, List.mem_of_getElem? hx, g, List.mem_of_getElem? hg, h4⟩
theorem Tryz.infoType2 : (Tryz.prog.info? 55).map (fun i => (i.zero, i.size, i.bytes)) = some (some (.agg #[.int .i64 0, .int .i64 0, .int .i64 0, .string ⟨#[]⟩, .int .i64 0, .slice none 0 0]), 6, 72) := by kernel_rfl
theorem slR_lit {α : Type} {sz : Nat} {R : World → List Value → α → Prop} {W : World} {g : Nat} {t : TypeId} {cs : List Value} {x : α} (h : Blk W g t cs.toArray) (hl : cs.length = sz) (hR : R W cs x) : SlR sz R W (.slice (some ⟨g, 0, none⟩) 1 1) [x] := by
 refine ⟨some ⟨g, 0, none⟩, 1, rfl, Nat.le_refl _, by decide, fun i y hi => ?_⟩
 rcases i with _ | i
 ·
  simp only [List.getElem?_cons_zero, Option.some.injEq] at hi
  subst hi
  refine ⟨g, 0, cs, rfl, h.lt, hl, fun j u hu => ?_, hR⟩
  rw [h.cell]
  simpa using hu
 · simp at hi
set_option maxHeartbeats 16000000 in
set_option maxRecDepth 100000 in
theorem atomOK_any (
 A1 A2 A3 A4 A5 A6 : Option Addr) (n1 c1 n2 c2 n3 c3 n4 c4 n5 c5 n6 c6 : Nat) (F1 F2 F3 : Option Addr) (m1 d1 m2 d2 m3 d3 : Nat) (hd : ByteArray) (sch : Int) (a : QAtom) (us : List QUnit) (ss : List QSchema) (fs : List QFrom) (w0 w : World) (hb0 : Below w0.heap.size w0 w) (h2 : SlR 5 qUnitR w0 (.slice A2 n2 c2) us) (h3 : SlR 6 qSchemaR w0 (.slice A3 n3 c3) ss) (hf : SlR 8 qFromR w0 (.slice F1 m1 d1) fs) (hU : ∀ x ∈ ss, ∀ f ∈ x.fields, unitIn n2 f.type) :
 Calls Tryz.prog 130 #[(.agg #[.slice A1 n1 c1, .slice A2 n2 c2, .slice A3 n3 c3, .slice A4 n4 c4, .slice A5 n5 c5, .slice A6 n6 c6, .string hd, .int .i64 sch, .slice F1 m1 d1, .slice F2 m2 d2, .slice F3 m3 d3]), .agg #[.int .i64 a.op, .string a.a.name, .string a.a.path, .int .i64 a.a.var, .int .i64 a.a.field, .int .i64 a.a.n, .string a.b.name, .string a.b.path, .int .i64 a.b.var, .int .i64 a.b.field, .int .i64 a.b.n]] w fun e w' =>
  e = .returned (.bool (atomOK us ss fs a)) ∧ Below w.heap.size w w' := by
 have hm1 : m1 ≤ 9223372036854775807 := by have := hf.le; omega
 obtain ⟨j0, hj, hjz0, hjz1, hjz2⟩ := info_parts Tryz.infoType2
 have HJ := Lib.hid (And.intro hj (And.intro hjz0 (And.intro hjz1 hjz2)))
 clear hj hjz0 hjz1 hjz2
 obtain ⟨wb, hwb⟩ : ∃ wb, wb = (w.alloc (.cells #[.slice A1 n1 c1, .slice A2 n2 c2, .slice A3 n3 c3, .slice A4 n4 c4, .slice A5 n5 c5, .slice A6 n6 c6, .string hd, .int .i64 sch, .slice F1 m1 d1, .slice F2 m2 d2, .slice F3 m3 d3] 112)).alloc (.cells #[.int .i64 a.op, .string a.a.name, .string a.a.path, .int .i64 a.a.var, .int .i64 a.a.field, .int .i64 a.a.n, .string a.b.name, .string a.b.path, .int .i64 a.b.var, .int .i64 a.b.field, .int .i64 a.b.n] 192) := ⟨_, rfl⟩
 have hbb : Below w.heap.size w wb := by rw [hwb]; exact (((Below.refl _ _).alloc (Nat.le_refl _) _).alloc (by simp) _)
 have kA : Blk wb w.heap.size 112 #[.slice A1 n1 c1, .slice A2 n2 c2, .slice A3 n3 c3, .slice A4 n4 c4, .slice A5 n5 c5, .slice A6 n6 c6, .string hd, .int .i64 sch, .slice F1 m1 d1, .slice F2 m2 d2, .slice F3 m3 d3] := by rw [hwb]; exact (Blk.new _ _ _).alloc _
 have kB : Blk wb (w.heap.size + 1) 192 #[.int .i64 a.op, .string a.a.name, .string a.a.path, .int .i64 a.a.var, .int .i64 a.a.field, .int .i64 a.a.n, .string a.b.name, .string a.b.path, .int .i64 a.b.var, .int .i64 a.b.field, .int .i64 a.b.n] := by rw [hwb]; exact blkNew (by simp)
 have HTT : Hid (∀ (t : QTerm) (W : World), Below w0.heap.size w0 W → Calls Tryz.prog 199 #[(.agg #[.slice A1 n1 c1, .slice A2 n2 c2, .slice A3 n3 c3, .slice A4 n4 c4, .slice A5 n5 c5, .slice A6 n6 c6, .string hd, .int .i64 sch, .slice F1 m1 d1, .slice F2 m2 d2, .slice F3 m3 d3]), .agg #[.string t.name, .string t.path, .int .i64 t.var, .int .i64 t.field, .int .i64 t.n], .int .i64 m1] W (RetType (ttP ss fs t) w0 W)) := Lib.hid (fun t W hW => by
  have := termType_any A1 A2 A3 A4 A5 A6 n1 c1 n2 c2 n3 c3 n4 c4 n5 c5 n6 c6 F1 F2 F3 m1 d1 m2 d2 m3 d3 hd sch t m1 ss fs w0 W hW h3 hf (by omega) (by omega)
  rw [Int.toNat_natCast] at this
  rw [ttP, ← hf.len]
  exact this)
 have HUN : Hid (∀ (t : QTerm) (y : QType), ttP ss fs t = some y → unitIn n2 y) := Lib.hid (fun t y h => by
  obtain ⟨x, hx, f, hf', rfl⟩ := termAt_in h
  exact hU x hx f hf')
 have H2 := Lib.hid h2
 have HB0 := Lib.hid hb0
 have HBB := Lib.hid hbb
 have HWB := Lib.hid hwb
 have HA := Lib.hid kA
 have HB := Lib.hid kB
 have lA := kA.lt
 have lB := kB.lt
 obtain ⟨b0, b1, b2, b3, b4, b5, b6, b7, b8, b9, b10⟩ := kB.eleven
 obtain ⟨ga, hga⟩ : ∃ g, g = w.heap.size := ⟨_, rfl⟩
 obtain ⟨gb, hgb⟩ : ∃ g, g = w.heap.size + 1 := ⟨_, rfl⟩
 clear hf h2 h3 hb0 hbb hwb kA kB hU
 obtain ⟨R, hR⟩ : ∃ R, atomOK us ss fs a = R := ⟨_, rfl⟩
 have HR : Hid (R = (decide (1 ≤ a.op) && decide (a.op ≤ 4) && (pkT ss fs a.a && pkT ss fs a.b) && !([a.a, a.b].filterMap (ttP ss fs)).isEmpty && alikeL us ([a.a, a.b].filterMap (ttP ss fs)) && ([a.a, a.b].filterMap (ttP ss fs)).all (ordY a.op))) := Lib.hid (by rw [← hR, atomOK_eq])
 rw [hR]
 clear hR
 obtain ⟨op, ta, tb⟩ := a
 simp only at HR HB HWB b0 b1 b2 b3 b4 b5 b6 b7 b8 b9 b10 ⊢
 go_enter Tryz.func130, Tryz.ntmps130
 go_upto_region 1 with fail
 rw [← HWB.out, ← hgb, ← hga]
 rw [← hgb] at HB lB b0 b1 b2 b3 b4 b5 b6 b7 b8 b9 b10
 rw [← hga] at HA lA
 clear HWB hga hgb
 by_cases hop : 1 ≤ op ∧ op ≤ 4
 case neg =>
  have HE : Hid (R = false) := Lib.hid (by
   rw [HR.out]
   have : (decide (1 ≤ op) && decide (op ≤ 4)) = false := by
    simp only [Bool.and_eq_false_iff, decide_eq_false_iff_not]; omega
   rw [this]; rfl)
  go_wp2_with fail
  all_goals first
   | (exfalso; omega)
   | (go_ret; exact ⟨ret_bool HE.out.symm, HBB.out⟩)
 obtain ⟨hop1, hop2⟩ := hop
 have hz1 : decide (op < 1) = false := decide_eq_false (by omega)
 have hz2 : decide (4 < op) = false := decide_eq_false (by omega)
 have HR2 : Hid (R = ((pkT ss fs ta && pkT ss fs tb) && !([ta, tb].filterMap (ttP ss fs)).isEmpty && alikeL us ([ta, tb].filterMap (ttP ss fs)) && ([ta, tb].filterMap (ttP ss fs)).all (ordY op))) := Lib.hid (by
  rw [HR.out, decide_eq_true hop1, decide_eq_true hop2]; simp only [Bool.true_and])
 clear HR
 obtain ⟨wl, hwl⟩ : ∃ wl, wl = wb.alloc (.cells #[.string ta.name, .string ta.path, .int .i64 ta.var, .int .i64 ta.field, .int .i64 ta.n, .string tb.name, .string tb.path, .int .i64 tb.var, .int .i64 tb.field, .int .i64 tb.n] 190) := ⟨_, rfl⟩
 have HBL : Hid (Below wb.heap.size wb wl) := Lib.hid (by rw [hwl]; exact (Below.refl _ _).alloc (Nat.le_refl _) _)
 have HKL : Hid (Blk wl wb.heap.size 190 #[.string ta.name, .string ta.path, .int .i64 ta.var, .int .i64 ta.field, .int .i64 ta.n, .string tb.name, .string tb.path, .int .i64 tb.var, .int .i64 tb.field, .int .i64 tb.n]) := Lib.hid (by rw [hwl]; exact Blk.new _ _ _)
 have HWL := Lib.hid hwl
 clear hwl
 go_wp2_with fail
 rw [← HWL.out]
 clear HWL b0 b1 b2 b3 b4 b5 b6 b7 b8 b9 b10
 have HKA : Hid (∀ W, Below wl.heap.size wl W → Blk W ga 112 #[.slice A1 n1 c1, .slice A2 n2 c2, .slice A3 n3 c3, .slice A4 n4 c4, .slice A5 n5 c5, .slice A6 n6 c6, .string hd, .int .i64 sch, .slice F1 m1 d1, .slice F2 m2 d2, .slice F3 m3 d3] ∧ Blk W gb 192 #[.int .i64 op, .string ta.name, .string ta.path, .int .i64 ta.var, .int .i64 ta.field, .int .i64 ta.n, .string tb.name, .string tb.path, .int .i64 tb.var, .int .i64 tb.field, .int .i64 tb.n] ∧ Blk W wb.heap.size 190 #[.string ta.name, .string ta.path, .int .i64 ta.var, .int .i64 ta.field, .int .i64 ta.n, .string tb.name, .string tb.path, .int .i64 tb.var, .int .i64 tb.field, .int .i64 tb.n]) := Lib.hid (fun W hW =>
  have hw : Below wb.heap.size wb W := HBL.out.trans (hW.mono HBL.out.size)
  ⟨HA.out.below hw lA, HB.out.below hw lB, HKL.out.below hW HKL.out.lt⟩)
 have HBWL : Hid (Below w.heap.size w wl) := Lib.hid (HBB.out.trans (HBL.out.mono HBB.out.size))
 clear HA HB HKL HBL HBB lA lB
 go_loopg [5, 27] 2 (fun q v i wr => ∃ (k : Nat) (cs : List Value) (tv : Value), k ≤ 2 ∧ q = 2 - k ∧ i = .int .i64 k ∧ tv = v ∧ ([ta, tb].take k).all (pkT ss fs) = true ∧ wr.ownsRow wl.heap.size 55 6 tv (([ta, tb].take k).filterMap (ttP ss fs)).length cs ∧ CellsR 6 (fun _ => qTypeR w0) wr cs (([ta, tb].take k).filterMap (ttP ss fs)) ∧ Below wl.heap.size wl wr)
 case atStart => exact ⟨0, [], .slice none 0 0, Nat.zero_le _, rfl, rfl, rfl, rfl, World.ownsRow_nil _ _ _ _, CellsR.nil, Below.refl _ _⟩
 case round =>
  obtain ⟨k, cs, tv, hk, hq, rfl, rfl, hall, ho, hc, hb⟩ := hrel
  have HQ := Lib.hid hq
  have HALL := Lib.hid hall
  have HO := Lib.hid ho
  have HC := Lib.hid hc
  have HBR := Lib.hid hb
  have HBW : Hid (Below w.heap.size w wr) := Lib.hid (HBWL.out.trans (hb.mono HBWL.out.size))
  have HBZ : Hid (Below w0.heap.size w0 wr) := Lib.hid (HB0.out.trans (HBW.out.mono HB0.out.size))
  clear hq hall ho hc hb
  obtain h0 | h0 | h0 : k = 0 ∨ k = 1 ∨ k = 2 := by omega
  ·
   subst h0
   obtain ⟨kA, kB, kL⟩ := HKA.out wr HBR.out
   obtain ⟨a0, a1, a2, a3, a4, a5, a6, a7, a8, a9, a10⟩ := kA.eleven
   have t0 := kL.cell 0
   have t1 := kL.cell 1
   have t2 := kL.cell 2
   have t3 := kL.cell 3
   have t4 := kL.cell 4
   simp only [List.getElem?_toArray, List.getElem?_cons_zero, List.getElem?_cons_succ] at t0 t1 t2 t3 t4
   have lA := kA.lt
   have lL := kL.lt
   clear kA kB kL
   have HX : Hid ([ta, tb][0]? = some ta) := Lib.hid rfl
   have HT := Lib.hid (fun o => HTT.out ta (wr.alloc o) (HBZ.out.alloc HBZ.out.size o))
   obtain ⟨x, hx⟩ : ∃ x, ttP ss fs ta = x := ⟨_, rfl⟩
   have HXT := Lib.hid hx
   rw [hx] at HT
   have HKT : Hid (∀ W, Below (wr.alloc (.cells #[.string ta.name, .string ta.path, .int .i64 ta.var, .int .i64 ta.field, .int .i64 ta.n] 190)).heap.size (wr.alloc (.cells #[.string ta.name, .string ta.path, .int .i64 ta.var, .int .i64 ta.field, .int .i64 ta.n] 190)) W → Blk W wr.heap.size 190 #[.string ta.name, .string ta.path, .int .i64 ta.var, .int .i64 ta.field, .int .i64 ta.n]) := Lib.hid (fun W h => (Blk.new wr _ _).below h (by simp))
   clear hx
   cases x with
   |
    none =>
    go_wp2_with (go_at_call 199; refine (HT.out _).mono ?_; clear HT)
    rintro e w2 ⟨⟨B, m', d', rfl, hs⟩, hb2⟩
    obtain ⟨t0, t1, t2, t3, t4⟩ := (HKT.out w2 hb2).five
    have lT : wr.heap.size < w2.heap.size := Nat.lt_of_lt_of_le (by simp) hb2.size
    have HB2 : Hid (Below wl.heap.size wl w2) := Lib.hid ((HBR.out.alloc HBR.out.size _).trans (hb2.mono (by have := HBR.out.size; simp; omega)))
    have HO2 := Lib.hid (own_below0 (HO.out.alloc _) hb2)
    have HC2 : Hid (CellsR 6 (fun _ => qTypeR w0) w2 cs (([ta, tb].take 0).filterMap (ttP ss fs))) := Lib.hid HC.out
    clear hs hb2 HKT a0 a1 a2 a3 a4 a5 a6 a7 a8 a9 a10 lA lL
    simp only [Option.isSome_none]
    obtain ⟨v, hv⟩ : ∃ v, isNum ta = v := ⟨_, rfl⟩
    have HV := Lib.hid hv
    have HN : Hid (∀ o, Calls Tryz.prog 200 #[.agg #[.string ta.name, .string ta.path, .int .i64 ta.var, .int .i64 ta.field, .int .i64 ta.n]] (w2.alloc o) fun e w' => e = .returned (.bool v) ∧ Below (w2.alloc o).heap.size (w2.alloc o) w') := Lib.hid (fun o => by
     have := isNumber_any ta (w2.alloc o)
     rw [hv] at this
     exact this)
    clear hv
    go_wp2_with (go_at_call 200; refine (HN.out _).mono ?_; clear HN)
    rintro e w3 ⟨rfl, hb3⟩
    have HB3 : Hid (Below wl.heap.size wl w3) := Lib.hid ((HB2.out.alloc HB2.out.size _).trans (hb3.mono (by have := HB2.out.size; simp; omega)))
    have HO3 := Lib.hid (own_below0 (HO2.out.alloc _) hb3)
    clear hb3 t0 t1 t2 t3 t4 lT
    have HPK : Hid (pkT ss fs ta = v) := Lib.hid (by rw [pkT, HXT.out, HV.out]; rfl)
    cases v with
    |
     false =>
     have HE : Hid (R = false) := Lib.hid (by rw [HR2.out, HPK.out]; simp)
     go_wp2_with fail
     go_ret
     exact ⟨ret_bool HE.out.symm, HBWL.out.trans (HB3.out.mono HBWL.out.size)⟩
    |
     true =>
     go_wp2_with fail
     go_roundg (2 - (0 + 1))
     case measure => have := HQ.out; omega
     case rel => exact ⟨0 + 1, cs, tv, by omega, rfl, by go_num, rfl, all_take HX.out HPK.out HALL.out, by rw [take_snoc HX.out, List.filterMap_append]; simp only [List.filterMap_cons, HXT.out, List.filterMap_nil, List.append_nil]; exact HO3.out, by rw [take_snoc HX.out, List.filterMap_append]; simp only [List.filterMap_cons, HXT.out, List.filterMap_nil, List.append_nil]; exact HC2.out, HB3.out⟩
   |
    some y =>
    obtain ⟨yk, yl, yh, yf, yu, yn⟩ := y
    go_wp2_with (go_at_call 199; refine (HT.out _).mono ?_; clear HT)
    rintro e w2 ⟨⟨B, m', d', rfl, hs⟩, hb2⟩
    have HS := Lib.hid hs
    have HB2 : Hid (Below wl.heap.size wl w2) := Lib.hid ((HBR.out.alloc HBR.out.size _).trans (hb2.mono (by have := HBR.out.size; simp; omega)))
    have HO2 := Lib.hid (own_below0 (HO.out.alloc _) hb2)
    clear hs hb2 HKT a0 a1 a2 a3 a4 a5 a6 a7 a8 a9 a10 lA lL t0 t1 t2 t3 t4
    simp only [Option.isSome_some, Option.getD_some]
    simp only [Option.getD_some] at HS
    have HPK : Hid (pkT ss fs ta = true) := Lib.hid (by rw [pkT, HXT.out]; rfl)
    obtain ⟨wt, hwt⟩ : ∃ wt, wt = (w2.alloc (.cells #[.int .i64 yk, .int .i64 yl, .int .i64 yh, .string yf, .int .i64 yu, .slice B m' d'] 55)).alloc (.cells #[.int .i64 yk, .int .i64 yl, .int .i64 yh, .string yf, .int .i64 yu, .slice B m' d'] 55) := ⟨_, rfl⟩
    have HOT : Hid (wt.ownsRow wl.heap.size 55 6 _ _ cs) := Lib.hid (by rw [hwt]; exact (HO2.out.alloc _).alloc _)
    have HLT : Hid (SlR 6 (fun _ => qTypeR w0) wt (.slice (some ⟨w2.heap.size + 1, 0, none⟩) 1 1) [⟨yk, yl, yh, yf, yu, yn⟩]) := Lib.hid (by rw [hwt]; exact slR_lit (cs := [.int .i64 yk, .int .i64 yl, .int .i64 yh, .string yf, .int .i64 yu, .slice B m' d']) (t := 55) (blkNew (by simp)) rfl ⟨B, m', d', rfl, HS.out⟩)
    have HBT : Hid (Below wl.heap.size wl wt) := Lib.hid (by rw [hwt]; exact (HB2.out.alloc HB2.out.size _).alloc (by have := HB2.out.size; simp; omega) _)
    have HWT := Lib.hid hwt
    clear hwt
    go_wp2_with (at_builtin; rw [← HWT.out]; refine wpList_append_row wt rfl (.tmp 49) (.tmp 51) 270 55 rfl j0 _ 72 Tryz.underlying270 HJ.out.1 HJ.out.2.1 HJ.out.2.2.1 HJ.out.2.2.2 rfl (by decide) (R := fun _ => qTypeR w0) (fun _ => qTypeR_one w0) wl.heap.size _ (([ta, tb].take 0).filterMap (ttP ss fs)).length cs rfl HOT.out (some ⟨w2.heap.size + 1, 0, none⟩) 1 1 [⟨yk, yl, yh, yf, yu, yn⟩] rfl HLT.out ?hn ?hb HBT.out.size ?_)
    case hn =>
     have := List.length_filterMap_le (ttP ss fs) ([ta, tb].take 0)
     simp at this
     unfold maxLen
     simp <;> omega
    case hb =>
     have := List.length_filterMap_le (ttP ss fs) ([ta, tb].take 0)
     simp at this
     simp <;> omega
    intro v3 w3 cs3 hc3 ho3 hg3 hat3
    have HB3 : Hid (Below wl.heap.size wl w3) := Lib.hid (HBT.out.grown hg3 HBT.out.size (fun k hk => (HOT.out.lt k hk).1))
    have HO3 := Lib.hid ho3
    have HC3 := Lib.hid hc3
    clear hc3 ho3 hg3 hat3
    go_wp2_with fail
    go_roundg (2 - (0 + 1))
    case measure => have := HQ.out; omega
    case rel => exact ⟨0 + 1, cs ++ cs3, v3, by omega, rfl, by go_num, rfl, all_take HX.out HPK.out HALL.out, by rw [take_snoc HX.out, List.filterMap_append, List.length_append]; simp only [List.filterMap_cons, HXT.out, List.filterMap_nil, List.length_singleton]; exact HO3.out, by rw [take_snoc HX.out, List.filterMap_append]; simp only [List.filterMap_cons, HXT.out, List.filterMap_nil]; exact CellsR.append HC.out HC3.out, HB3.out⟩
  ·
   subst h0
   obtain ⟨kA, kB, kL⟩ := HKA.out wr HBR.out
   obtain ⟨a0, a1, a2, a3, a4, a5, a6, a7, a8, a9, a10⟩ := kA.eleven
   have t0 := kL.cell 5
   have t1 := kL.cell 6
   have t2 := kL.cell 7
   have t3 := kL.cell 8
   have t4 := kL.cell 9
   simp only [List.getElem?_toArray, List.getElem?_cons_zero, List.getElem?_cons_succ] at t0 t1 t2 t3 t4
   have lA := kA.lt
   have lL := kL.lt
   clear kA kB kL
   have HX : Hid ([ta, tb][1]? = some tb) := Lib.hid rfl
   have HT := Lib.hid (fun o => HTT.out tb (wr.alloc o) (HBZ.out.alloc HBZ.out.size o))
   obtain ⟨x, hx⟩ : ∃ x, ttP ss fs tb = x := ⟨_, rfl⟩
   have HXT := Lib.hid hx
   rw [hx] at HT
   have HKT : Hid (∀ W, Below (wr.alloc (.cells #[.string tb.name, .string tb.path, .int .i64 tb.var, .int .i64 tb.field, .int .i64 tb.n] 190)).heap.size (wr.alloc (.cells #[.string tb.name, .string tb.path, .int .i64 tb.var, .int .i64 tb.field, .int .i64 tb.n] 190)) W → Blk W wr.heap.size 190 #[.string tb.name, .string tb.path, .int .i64 tb.var, .int .i64 tb.field, .int .i64 tb.n]) := Lib.hid (fun W h => (Blk.new wr _ _).below h (by simp))
   clear hx
   cases x with
   |
    none =>
    go_wp2_with (go_at_call 199; refine (HT.out _).mono ?_; clear HT)
    rintro e w2 ⟨⟨B, m', d', rfl, hs⟩, hb2⟩
    obtain ⟨t0, t1, t2, t3, t4⟩ := (HKT.out w2 hb2).five
    have lT : wr.heap.size < w2.heap.size := Nat.lt_of_lt_of_le (by simp) hb2.size
    have HB2 : Hid (Below wl.heap.size wl w2) := Lib.hid ((HBR.out.alloc HBR.out.size _).trans (hb2.mono (by have := HBR.out.size; simp; omega)))
    have HO2 := Lib.hid (own_below0 (HO.out.alloc _) hb2)
    have HC2 : Hid (CellsR 6 (fun _ => qTypeR w0) w2 cs (([ta, tb].take 1).filterMap (ttP ss fs))) := Lib.hid HC.out
    clear hs hb2 HKT a0 a1 a2 a3 a4 a5 a6 a7 a8 a9 a10 lA lL
    simp only [Option.isSome_none]
    obtain ⟨v, hv⟩ : ∃ v, isNum tb = v := ⟨_, rfl⟩
    have HV := Lib.hid hv
    have HN : Hid (∀ o, Calls Tryz.prog 200 #[.agg #[.string tb.name, .string tb.path, .int .i64 tb.var, .int .i64 tb.field, .int .i64 tb.n]] (w2.alloc o) fun e w' => e = .returned (.bool v) ∧ Below (w2.alloc o).heap.size (w2.alloc o) w') := Lib.hid (fun o => by
     have := isNumber_any tb (w2.alloc o)
     rw [hv] at this
     exact this)
    clear hv
    go_wp2_with (go_at_call 200; refine (HN.out _).mono ?_; clear HN)
    rintro e w3 ⟨rfl, hb3⟩
    have HB3 : Hid (Below wl.heap.size wl w3) := Lib.hid ((HB2.out.alloc HB2.out.size _).trans (hb3.mono (by have := HB2.out.size; simp; omega)))
    have HO3 := Lib.hid (own_below0 (HO2.out.alloc _) hb3)
    clear hb3 t0 t1 t2 t3 t4 lT
    have HPK : Hid (pkT ss fs tb = v) := Lib.hid (by rw [pkT, HXT.out, HV.out]; rfl)
    cases v with
    |
     false =>
     have HE : Hid (R = false) := Lib.hid (by rw [HR2.out, HPK.out]; simp)
     go_wp2_with fail
     go_ret
     exact ⟨ret_bool HE.out.symm, HBWL.out.trans (HB3.out.mono HBWL.out.size)⟩
    |
     true =>
     go_wp2_with fail
     go_roundg (2 - (1 + 1))
     case measure => have := HQ.out; omega
     case rel => exact ⟨1 + 1, cs, tv, by omega, rfl, by go_num, rfl, all_take HX.out HPK.out HALL.out, by rw [take_snoc HX.out, List.filterMap_append]; simp only [List.filterMap_cons, HXT.out, List.filterMap_nil, List.append_nil]; exact HO3.out, by rw [take_snoc HX.out, List.filterMap_append]; simp only [List.filterMap_cons, HXT.out, List.filterMap_nil, List.append_nil]; exact HC2.out, HB3.out⟩
   |
    some y =>
    obtain ⟨yk, yl, yh, yf, yu, yn⟩ := y
    go_wp2_with (go_at_call 199; refine (HT.out _).mono ?_; clear HT)
    rintro e w2 ⟨⟨B, m', d', rfl, hs⟩, hb2⟩
    have HS := Lib.hid hs
    have HB2 : Hid (Below wl.heap.size wl w2) := Lib.hid ((HBR.out.alloc HBR.out.size _).trans (hb2.mono (by have := HBR.out.size; simp; omega)))
    have HO2 := Lib.hid (own_below0 (HO.out.alloc _) hb2)
    clear hs hb2 HKT a0 a1 a2 a3 a4 a5 a6 a7 a8 a9 a10 lA lL t0 t1 t2 t3 t4
    simp only [Option.isSome_some, Option.getD_some]
    simp only [Option.getD_some] at HS
    have HPK : Hid (pkT ss fs tb = true) := Lib.hid (by rw [pkT, HXT.out]; rfl)
    obtain ⟨wt, hwt⟩ : ∃ wt, wt = (w2.alloc (.cells #[.int .i64 yk, .int .i64 yl, .int .i64 yh, .string yf, .int .i64 yu, .slice B m' d'] 55)).alloc (.cells #[.int .i64 yk, .int .i64 yl, .int .i64 yh, .string yf, .int .i64 yu, .slice B m' d'] 55) := ⟨_, rfl⟩
    have HOT : Hid (wt.ownsRow wl.heap.size 55 6 _ _ cs) := Lib.hid (by rw [hwt]; exact (HO2.out.alloc _).alloc _)
    have HLT : Hid (SlR 6 (fun _ => qTypeR w0) wt (.slice (some ⟨w2.heap.size + 1, 0, none⟩) 1 1) [⟨yk, yl, yh, yf, yu, yn⟩]) := Lib.hid (by rw [hwt]; exact slR_lit (cs := [.int .i64 yk, .int .i64 yl, .int .i64 yh, .string yf, .int .i64 yu, .slice B m' d']) (t := 55) (blkNew (by simp)) rfl ⟨B, m', d', rfl, HS.out⟩)
    have HBT : Hid (Below wl.heap.size wl wt) := Lib.hid (by rw [hwt]; exact (HB2.out.alloc HB2.out.size _).alloc (by have := HB2.out.size; simp; omega) _)
    have HWT := Lib.hid hwt
    clear hwt
    go_wp2_with (at_builtin; rw [← HWT.out]; refine wpList_append_row wt rfl (.tmp 49) (.tmp 51) 270 55 rfl j0 _ 72 Tryz.underlying270 HJ.out.1 HJ.out.2.1 HJ.out.2.2.1 HJ.out.2.2.2 rfl (by decide) (R := fun _ => qTypeR w0) (fun _ => qTypeR_one w0) wl.heap.size _ (([ta, tb].take 1).filterMap (ttP ss fs)).length cs rfl HOT.out (some ⟨w2.heap.size + 1, 0, none⟩) 1 1 [⟨yk, yl, yh, yf, yu, yn⟩] rfl HLT.out ?hn ?hb HBT.out.size ?_)
    case hn =>
     have := List.length_filterMap_le (ttP ss fs) ([ta, tb].take 1)
     simp at this
     unfold maxLen
     simp <;> omega
    case hb =>
     have := List.length_filterMap_le (ttP ss fs) ([ta, tb].take 1)
     simp at this
     simp <;> omega
    intro v3 w3 cs3 hc3 ho3 hg3 hat3
    have HB3 : Hid (Below wl.heap.size wl w3) := Lib.hid (HBT.out.grown hg3 HBT.out.size (fun k hk => (HOT.out.lt k hk).1))
    have HO3 := Lib.hid ho3
    have HC3 := Lib.hid hc3
    clear hc3 ho3 hg3 hat3
    go_wp2_with fail
    go_roundg (2 - (1 + 1))
    case measure => have := HQ.out; omega
    case rel => exact ⟨1 + 1, cs ++ cs3, v3, by omega, rfl, by go_num, rfl, all_take HX.out HPK.out HALL.out, by rw [take_snoc HX.out, List.filterMap_append, List.length_append]; simp only [List.filterMap_cons, HXT.out, List.filterMap_nil, List.length_singleton]; exact HO3.out, by rw [take_snoc HX.out, List.filterMap_append]; simp only [List.filterMap_cons, HXT.out, List.filterMap_nil]; exact CellsR.append HC.out HC3.out, HB3.out⟩
  ·
   subst h0
   obtain ⟨T, hT⟩ : ∃ T, [ta, tb].filterMap (ttP ss fs) = T := ⟨_, rfl⟩
   have HTL : Hid (T.length ≤ 2) := Lib.hid (by rw [← hT]; exact List.length_filterMap_le _ _)
   have HTU : Hid (∀ y ∈ T, unitIn n2 y) := Lib.hid (fun y hy => by
    rw [← hT] at hy
    obtain ⟨t, _, ht⟩ := List.mem_filterMap.1 hy
    exact HUN.out t y ht)
   have hsl : SlR 6 (fun _ => qTypeR w0) wr tv T := slR_of_row (by have := HO.out; rwa [show [ta, tb].take 2 = [ta, tb] from rfl, hT] at this) (by have := HC.out; rwa [show [ta, tb].take 2 = [ta, tb] from rfl, hT] at this) rfl
   have HSL := Lib.hid hsl
   obtain ⟨TA, tc, rfl, hl1, hl2, hl3⟩ := hsl
   have HR3 : Hid (R = (!T.isEmpty && alikeL us T && T.all (ordY op))) := Lib.hid (by
    have := HALL.out
    simp only [List.take, List.all_cons, List.all_nil, Bool.and_true] at this
    rw [HR2.out, hT, this, Bool.true_and])
   obtain ⟨kA, kB, kL⟩ := HKA.out wr HBR.out
   obtain ⟨a0, a1, a2, a3, a4, a5, a6, a7, a8, a9, a10⟩ := kA.eleven
   have lA := kA.lt
   clear HR2 hT HO HC HALL HTT HQ HUN hl1 hl2 hl3 kA kB kL
   obtain ⟨wy, rfl⟩ : ∃ x, x = wr := ⟨_, rfl⟩
   obtain ⟨bv, hbv⟩ : ∃ bv, (T.isEmpty || !alikeL us T) = bv := ⟨_, rfl⟩
   have HBV := Lib.hid hbv
   clear hbv
   go_upto_region 13 with fail
   go_cut [73] from 54 (fun v73 wx => v73 = .bool bv ∧ Below wy.heap.size wy wx)
   case first =>
    have HB00 : Hid (Below wy.heap.size wy wy) := Lib.hid (Below.refl _ _)
    match T, HTL, HTU, HSL, HBV with
    |
     [], _, _, _, HBV =>
     simp only [List.length_nil]
     clear a0 a1 a2 a3 a4 a5 a6 a7 a8 a9 a10
     go_quiet (fail)
     go_wp2_with fail
     go_meet
     exact ⟨by rw [← HBV.out]; rfl, below_drewN HB00.out _⟩
    |
     [y], _, _, _, HBV =>
     simp only [List.length_singleton]
     clear a0 a1 a2 a3 a4 a5 a6 a7 a8 a9 a10
     go_quiet (fail)
     go_wp2_with fail
     go_meet
     exact ⟨by rw [← HBV.out]; rfl, below_drewN HB00.out _⟩
    |
     [y, z], _, HTU, HSL, HBV =>
     obtain ⟨g1, o1, y', ys, e, hgl, hy, hyl, hyc, hyR⟩ := HSL.out.at_ (k := 0) (by simp)
     obtain ⟨g2, o2, z', zs, e', _, hz, hzl, hzc, hzR⟩ := HSL.out.at_ (k := 1) (by simp)
     simp only [List.getElem?_cons_zero, List.getElem?_cons_succ, Option.some.injEq] at hy hz
     subst hy hz e
     injection e' with e'
     injection e' with e1 e2
     subst e1 e2
     obtain ⟨yB, ym, yd, rfl, hyn⟩ := hyR
     obtain ⟨zB, zm, zd, rfl, hzn⟩ := hzR
     have y0 := hyc 0 _ rfl
     have y1 := hyc 1 _ rfl
     have y2 := hyc 2 _ rfl
     have y3 := hyc 3 _ rfl
     have y4 := hyc 4 _ rfl
     have y5 := hyc 5 _ rfl
     have z0 := hzc 0 _ rfl
     have z1 := hzc 1 _ rfl
     have z2 := hzc 2 _ rfl
     have z3 := hzc 3 _ rfl
     have z4 := hzc 4 _ rfl
     have z5 := hzc 5 _ rfl
     simp only [Nat.zero_mul, Nat.one_mul, Nat.add_zero, Nat.zero_add, Nat.reduceAdd] at y0 y1 y2 y3 y4 y5 z0 z1 z2 z3 z4 z5
     clear hyc hzc hyl hzl
     have HS : Hid (∀ W, Below wy.heap.size wy W → W.cell? ⟨ga, 0, none⟩ = some (.slice A1 n1 c1) ∧ W.cell? ⟨ga, 1, none⟩ = some (.slice A2 n2 c2) ∧ W.cell? ⟨ga, 2, none⟩ = some (.slice A3 n3 c3) ∧ W.cell? ⟨ga, 3, none⟩ = some (.slice A4 n4 c4) ∧ W.cell? ⟨ga, 4, none⟩ = some (.slice A5 n5 c5) ∧ W.cell? ⟨ga, 5, none⟩ = some (.slice A6 n6 c6) ∧
      W.cell? ⟨g1, o1, none⟩ = some (.int .i64 y.kind) ∧ W.cell? ⟨g1, o1 + 1, none⟩ = some (.int .i64 y.lo) ∧ W.cell? ⟨g1, o1 + 2, none⟩ = some (.int .i64 y.hi) ∧ W.cell? ⟨g1, o1 + 3, none⟩ = some (.string y.of_) ∧ W.cell? ⟨g1, o1 + 4, none⟩ = some (.int .i64 y.unit) ∧ W.cell? ⟨g1, o1 + 5, none⟩ = some (.slice yB ym yd) ∧
      W.cell? ⟨g1, o1 + 6, none⟩ = some (.int .i64 z.kind) ∧ W.cell? ⟨g1, o1 + 7, none⟩ = some (.int .i64 z.lo) ∧ W.cell? ⟨g1, o1 + 8, none⟩ = some (.int .i64 z.hi) ∧ W.cell? ⟨g1, o1 + 9, none⟩ = some (.string z.of_) ∧ W.cell? ⟨g1, o1 + 10, none⟩ = some (.int .i64 z.unit) ∧ W.cell? ⟨g1, o1 + 11, none⟩ = some (.slice zB zm zd)) := Lib.hid (fun W hW =>
      ⟨(
       hW.cell (p := ⟨_, _, none⟩) lA).trans a0, (hW.cell (p := ⟨_, _, none⟩) lA).trans a1, (hW.cell (p := ⟨_, _, none⟩) lA).trans a2, (hW.cell (p := ⟨_, _, none⟩) lA).trans a3, (hW.cell (p := ⟨_, _, none⟩) lA).trans a4, (hW.cell (p := ⟨_, _, none⟩) lA).trans a5,
       (hW.cell (p := ⟨_, _, none⟩) hgl).trans y0, (hW.cell (p := ⟨_, _, none⟩) hgl).trans y1, (hW.cell (p := ⟨_, _, none⟩) hgl).trans y2, (hW.cell (p := ⟨_, _, none⟩) hgl).trans y3, (hW.cell (p := ⟨_, _, none⟩) hgl).trans y4, (hW.cell (p := ⟨_, _, none⟩) hgl).trans y5,
       (hW.cell (p := ⟨_, _, none⟩) hgl).trans z0, (hW.cell (p := ⟨_, _, none⟩) hgl).trans z1, (hW.cell (p := ⟨_, _, none⟩) hgl).trans z2, (hW.cell (p := ⟨_, _, none⟩) hgl).trans z3, (hW.cell (p := ⟨_, _, none⟩) hgl).trans z4, (hW.cell (p := ⟨_, _, none⟩) hgl).trans z5⟩)
     obtain ⟨vc, hvc⟩ : ∃ v, alikeB us y z = v := ⟨_, rfl⟩
     have HVC : Hid (alikeL us [y, z] = vc) := Lib.hid hvc
     have HCM : Hid (Calls Tryz.prog 201 #[(.agg #[.slice A1 n1 c1, .slice A2 n2 c2, .slice A3 n3 c3, .slice A4 n4 c4, .slice A5 n5 c5, .slice A6 n6 c6]), .agg #[.int .i64 y.kind, .int .i64 y.lo, .int .i64 y.hi, .string y.of_, .int .i64 y.unit, .slice yB ym yd], .agg #[.int .i64 z.kind, .int .i64 z.lo, .int .i64 z.hi, .string z.of_, .int .i64 z.unit, .slice zB zm zd]] wy.drew fun e w' => e = .returned (.bool vc) ∧ Below wy.heap.size wy w') := Lib.hid (by
      have := comparable_any A1 A2 A3 A4 A5 A6 n1 c1 n2 c2 n3 c3 n4 c4 n5 c5 n6 c6 y z yB zB ym yd zm zd us wy.drew (H2.out.mono qUnitR_mono HBZ.out.drew) (hyn.1.mono strR_mono HBZ.out.drew) (hzn.1.mono strR_mono HBZ.out.drew) (HTU.out y (by simp)) (HTU.out z (by simp))
      rw [hvc] at this
      exact this.mono fun _ _ h => ⟨h.1, (Below.refl wy.heap.size wy).drew.trans h.2⟩)
     clear hvc hyn hzn y0 y1 y2 y3 y4 y5 z0 z1 z2 z3 z4 z5 a0 a1 a2 a3 a4 a5 a6 a7 a8 a9 a10
     simp only [List.length_cons, List.length_nil, Nat.zero_add, Nat.reduceAdd]
     go_region_held3 (fun W => W.cell? ⟨ga, 0, none⟩ = some (.slice A1 n1 c1) ∧ W.cell? ⟨ga, 1, none⟩ = some (.slice A2 n2 c2) ∧ W.cell? ⟨ga, 2, none⟩ = some (.slice A3 n3 c3) ∧ W.cell? ⟨ga, 3, none⟩ = some (.slice A4 n4 c4) ∧ W.cell? ⟨ga, 4, none⟩ = some (.slice A5 n5 c5) ∧ W.cell? ⟨ga, 5, none⟩ = some (.slice A6 n6 c6) ∧
      W.cell? ⟨g1, o1, none⟩ = some (.int .i64 y.kind) ∧ W.cell? ⟨g1, o1 + 1, none⟩ = some (.int .i64 y.lo) ∧ W.cell? ⟨g1, o1 + 2, none⟩ = some (.int .i64 y.hi) ∧ W.cell? ⟨g1, o1 + 3, none⟩ = some (.string y.of_) ∧ W.cell? ⟨g1, o1 + 4, none⟩ = some (.int .i64 y.unit) ∧ W.cell? ⟨g1, o1 + 5, none⟩ = some (.slice yB ym yd) ∧
      W.cell? ⟨g1, o1 + 6, none⟩ = some (.int .i64 z.kind) ∧ W.cell? ⟨g1, o1 + 7, none⟩ = some (.int .i64 z.lo) ∧ W.cell? ⟨g1, o1 + 8, none⟩ = some (.int .i64 z.hi) ∧ W.cell? ⟨g1, o1 + 9, none⟩ = some (.string z.of_) ∧ W.cell? ⟨g1, o1 + 10, none⟩ = some (.int .i64 z.unit) ∧ W.cell? ⟨g1, o1 + 11, none⟩ = some (.slice zB zm zd))
      (first | with_reducible exact HS.out _ HB00.out | with_reducible exact HS.out _ HB00.out.drew | with_reducible exact HS.out _ hb3)
      (first
       | (go_at_call 201; refine HCM.out.mono ?_; rintro e w3 ⟨rfl, hb3⟩))
     have HB3 := Lib.hid hb3
     clear hb3
     go_wp2_with fail
     go_meet
     exact ⟨by rw [← HBV.out, HVC.out]; cases vc <;> rfl, HB3.out⟩
    | _ :: _ :: _ :: _, HTL, _, _, _ => exact absurd HTL.out (by simp)
   case rest =>
    obtain ⟨rfl, hbx⟩ := hcut
    have HBX := Lib.hid hbx
    clear hbx a0 a1 a2 a3 a4 a5 a6 a7 a8 a9 a10 lA
    have HBW2 : Hid (Below wl.heap.size wl wc) := Lib.hid (HBR.out.trans (HBX.out.mono HBR.out.size))
    cases bv with
    |
     true =>
     have HE : Hid (R = false) := Lib.hid (by
      rw [HR3.out]
      have := HBV.out
      cases h1 : T.isEmpty <;> cases h2 : alikeL us T <;> simp [h1, h2] at this ⊢)
     go_wp2_with fail
     go_ret
     exact ⟨ret_bool HE.out.symm, HBWL.out.trans (HBW2.out.mono HBWL.out.size)⟩
    |
     false =>
     have HE : Hid (R = T.all (ordY op)) := Lib.hid (by
      rw [HR3.out]
      have := HBV.out
      cases h1 : T.isEmpty <;> cases h2 : alikeL us T <;> simp [h1, h2] at this ⊢)
     have hTn : T.length ≤ 9223372036854775807 := by have := HTL.out; omega
     go_wp2_with fail
     go_loopg [76] T.length (fun q i wr => ∃ k : Nat, k ≤ T.length ∧ q = T.length - k ∧ i = .int .i64 k ∧ (T.take k).all (ordY op) = true ∧ Below wc.heap.size wc wr)
     case atStart => exact ⟨0, Nat.zero_le _, rfl, rfl, rfl, Below.refl _ _⟩
     case round =>
      obtain ⟨k, hk, hq, rfl, hall, hb⟩ := hrel
      have HQ := Lib.hid hq
      have HALL := Lib.hid hall
      have HB2 := Lib.hid hb
      have HBW3 : Hid (Below wl.heap.size wl wr) := Lib.hid (HBW2.out.trans (hb.mono HBW2.out.size))
      clear hq hall hb
      by_cases hlt : k < T.length
      case neg =>
       have HT : Hid (R = true) := by
        have := HALL.out
        rw [List.take_of_length_le (by omega)] at this
        exact Lib.hid (by rw [HE.out, this])
       go_wp2_with fail
       go_ret
       exact ⟨ret_bool HT.out.symm, HBWL.out.trans (HBW3.out.mono HBWL.out.size)⟩
      obtain ⟨g1, o1, y, ys, e, hgl, hy, hyl, hyc, hyR⟩ := (HSL.out.mono (fun _ _ _ _ _ h => h) (HBX.out.trans (HB2.out.mono HBX.out.size))).at_ hlt
      subst e
      obtain ⟨yB, ym, yd, rfl, hyn⟩ := hyR
      have y0 := hyc 0 _ rfl
      have y1 := hyc 1 _ rfl
      have y2 := hyc 2 _ rfl
      have y3 := hyc 3 _ rfl
      have y4 := hyc 4 _ rfl
      have y5 := hyc 5 _ rfl
      simp only [Nat.add_zero, ← Nat.add_assoc] at y0 y1 y2 y3 y4 y5
      have hk0 : (0 : Int) ≤ (k : Int) := by omega
      have hk1 : (k : Int) < (T.length : Int) := by omega
      have HY := Lib.hid hy
      have HOY : Hid (ordY op y = (!((op == 2) || (op == 3)) || ((y.kind == 1) || (y.kind == 2)))) := Lib.hid rfl
      clear hy hyc hyl hyn
      cases u1 : (y.kind == 1) <;> cases u2 : (y.kind == 2) <;> cases u3 : (op == 2) <;> cases u4 : (op == 3) <;>
       (
        have hoy := HOY.out
        rw [u1, u2, u3, u4] at hoy
        have HOY2 := Lib.hid hoy
        clear hoy
        obtain ⟨kA, kB, kL⟩ := HKA.out wr HBW3.out
        have p0 := kB.cell 0
        have lB := kB.lt
        simp only [List.getElem?_toArray, List.getElem?_cons_zero] at p0
        clear kA kB kL
        go_wp2_with fail
        first
         | (go_ret; exact ⟨ret_bool (by rw [HE.out, all_at HY.out HOY2.out]), HBWL.out.trans ((HBW3.out.alloc HBW3.out.size _).mono HBWL.out.size)⟩)
         | (
          go_roundg (T.length - (k + 1))
          case measure => have := HQ.out; omega
          case rel => exact ⟨k + 1, by omega, rfl, by go_num, all_take HY.out HOY2.out HALL.out, HB2.out.alloc HB2.out.size _⟩))
end Go.Proofs.YtkgmonplcdnnbaaGreat
