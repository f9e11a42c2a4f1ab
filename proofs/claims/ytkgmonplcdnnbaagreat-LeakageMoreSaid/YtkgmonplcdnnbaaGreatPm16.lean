/- Contracts of slices.Equal at lists of structs. Written by geneq.py. -/
import Derived.Test.YtkgmonplcdnnbaaGreatPm15
import Derived.Test.YtkgmonplcdnnbaaGreatPm01
import Derived.Test.YtkgmonplcdnnbaaGreatPm03
import Derived.Test.YtkgmonplcdnnbaaGreatPm14
import Derived.Test.YtkgmonplcdnnbaaGreatPm05
namespace Go.Proofs.YtkgmonplcdnnbaaGreat
open Go.RowKit
theorem all4 {a b c d : Int} : ([a, b, c, d] : List Int).all weightOK = (weightOK a && (weightOK b && (weightOK c && weightOK d))) := by
 simp
set_option maxHeartbeats 8000000 in
set_option maxRecDepth 100000 in
theorem schemaOK_any (
 A1 A2 A3 A4 A5 A6 : Option Addr) (n1 c1 n2 c2 n3 c3 n4 c4 n5 c5 n6 c6 : Nat) (s : QSchema) (fA dA : Option Addr) (nf cf nd cd : Nat) (w : World) (_hn1 : n1 ≤ 9223372036854775807) (hn2 : n2 ≤ 9223372036854775807) (hf : SlR 11 qFieldR w (.slice fA nf cf) s.fields) :
 Calls Tryz.prog 72 #[(.agg #[.slice A1 n1 c1, .slice A2 n2 c2, .slice A3 n3 c3, .slice A4 n4 c4, .slice A5 n5 c5, .slice A6 n6 c6]), .agg #[.string s.name, .string s.by_, .int .i64 s.issuer, .int .i64 s.version, .slice fA nf cf, .slice dA nd cd]] w fun e w' =>
  e = .returned (.bool (schemaOK n1 n2 s)) ∧ Below w.heap.size w w' := by
 have hnf : nf ≤ 9223372036854775807 := by have := hf.le; omega
 have hlen := hf.len
 have HF := Lib.hid hf
 clear hf
 by_cases hG : 0 ≤ s.issuer ∧ s.issuer < n1 ∧ 1 ≤ s.version ∧ s.version ≤ 255 ∧ 1 ≤ nf ∧ nf ≤ 12
 case neg =>
  have hfl : schemaOK n1 n2 s = false := by
   cases h : schemaOK n1 n2 s with
   | false => rfl
   |
    true =>
    simp only [schemaOK, Bool.and_eq_true, decide_eq_true_eq] at h
    omega
  rw [hfl]
  have HLEN := Lib.hid hlen
  clear hfl hlen
  by_cases hnz : 1 ≤ nf
  ·
   obtain ⟨b, off, x, B1, m1, d1, rfl, hbl, hx, e0, e1, e2, e3, e4, e5, e6, e7, e8, e9, e10, g1⟩ := qField_at HF.out (k := 0) (by omega)
   clear hx g1
   go_enter Tryz.func72, Tryz.ntmps72
   go_wp2_with fail
   all_goals first
    | (exfalso; omega)
    | (go_ret; exact ⟨rfl, (((Below.refl _ _).alloc (Nat.le_refl _) _).alloc (by simp) _)⟩)
  ·
   obtain rfl : nf = 0 := by omega
   go_enter Tryz.func72, Tryz.ntmps72
   go_wp2_with fail
   all_goals first
    | (exfalso; omega)
    | (go_ret; exact ⟨rfl, (((Below.refl _ _).alloc (Nat.le_refl _) _).alloc (by simp) _)⟩)
 obtain ⟨i0, i1, v0, v1, l0, l1⟩ := hG
 obtain ⟨b0, o0, x0, C1, p1, q1, rfl, hbl0, hx0, z0, z1, z2, z3, z4, z5, z6, z7, z8, z9, z10, y1⟩ := qField_at HF.out (k := 0) (by omega)
 by_cases hk3 : x0.type.kind = 3
 case neg =>
  have hfl : schemaOK n1 n2 s = false := by
   simp [schemaOK, hx0, hk3]
  rw [hfl]
  have hkb : (x0.type.kind != 3) = true := by simp [hk3]
  clear hfl hx0 y1 hlen
  go_enter Tryz.func72, Tryz.ntmps72
  go_wp2_with fail
  all_goals first
   | (exfalso; omega)
   | (go_ret; exact ⟨rfl, (((Below.refl _ _).alloc (Nat.le_refl _) _).alloc (by simp) _)⟩)
 have hfl : schemaOK n1 n2 s = s.fields.all (fieldOK n2) := by
  simp [schemaOK, hx0, hk3, i0, i1, v0, v1, ← hlen, l0, l1]
 rw [hfl]
 clear hfl hx0 y1
 have HLEN := Lib.hid hlen
 clear hlen
 go_enter Tryz.func72, Tryz.ntmps72
 go_wp2_with fail
 clear z0 z1 z2 z3 z4 z5 z6 z7 z8 z9 z10
 obtain ⟨wb, hwb⟩ : ∃ wq, wq = (w.alloc (.cells #[.slice A1 n1 c1, .slice A2 n2 c2, .slice A3 n3 c3, .slice A4 n4 c4, .slice A5 n5 c5, .slice A6 n6 c6] 110)).alloc (.cells #[.string s.name, .string s.by_, .int .i64 s.issuer, .int .i64 s.version, .slice (some ⟨b0, o0, none⟩) nf cf, .slice dA nd cd] 52) := ⟨_, rfl⟩
 rw [← hwb]
 have hbb : Below w.heap.size w wb := by rw [hwb]; exact (((Below.refl _ _).alloc (Nat.le_refl _) _).alloc (by simp) _)
 have kA : Blk wb w.heap.size 110 #[.slice A1 n1 c1, .slice A2 n2 c2, .slice A3 n3 c3, .slice A4 n4 c4, .slice A5 n5 c5, .slice A6 n6 c6] := by rw [hwb]; exact (Blk.new _ _ _).alloc _
 obtain ⟨ga, hga⟩ : ∃ g, g = w.heap.size := ⟨_, rfl⟩
 rw [← hga] at kA ⊢
 have la := kA.lt
 have HA := Lib.hid kA
 have HBB := Lib.hid hbb
 clear kA hbb hwb hga
 go_loopg [55] nf (fun q i wr => ∃ k : Nat, k ≤ nf ∧ q = nf - k ∧ i = .int .i64 k ∧ (s.fields.take k).all (fieldOK n2) = true ∧ Below wb.heap.size wb wr)
 case atStart => exact ⟨0, Nat.zero_le _, rfl, rfl, rfl, Below.refl _ _⟩
 case round =>
  obtain ⟨k, hk, hq, rfl, hv, hb⟩ := hrel
  have HQ := Lib.hid hq
  have HBR := Lib.hid hb
  have HV := Lib.hid hv
  have kA := HA.out.below hb la
  have lar := kA.lt
  have a0 := kA.cell 0
  have a1 := kA.cell 1
  have a2 := kA.cell 2
  have a3 := kA.cell 3
  have a4 := kA.cell 4
  have a5 := kA.cell 5
  simp only [List.getElem?_toArray, List.getElem?_cons_zero, List.getElem?_cons_succ] at a0 a1 a2 a3 a4 a5
  clear kA hq hb hv
  by_cases hlt : k < nf
  ·
   obtain ⟨b, off, x, B1, m1, d1, hbo, hbl, hx, e0, e1, e2, e3, e4, e5, e6, e7, e8, e9, e10, g1⟩ := qField_at (HF.out.mono qFieldR_mono (HBB.out.trans (HBR.out.mono HBB.out.size))) hlt
   obtain ⟨rfl, rfl⟩ : b0 = b ∧ o0 = off := by simpa using hbo
   have HX := Lib.hid hx
   have G1 := Lib.hid g1
   have hkn : (k : Int) < (nf : Int) := by omega
   have hk0 : (0 : Int) ≤ (k : Int) := by omega
   clear hx g1 hbo
   go_wp2_with (go_at_call 138; refine (typeOK_any A1 A2 A3 A4 A5 A6 n1 c1 n2 c2 n3 c3 n4 c4 n5 c5 n6 c6 x.type B1 m1 d1 _ hn2 (G1.out.1.mono strR_mono ((Below.refl _ _).alloc (Nat.le_refl _) _))).mono ?_)
   rintro e w1 ⟨rfl, hb1⟩
   have HB1 := Lib.hid (HBR.out.trans ((((Below.refl _ _).alloc (Nat.le_refl _) _).trans (hb1.mono (by simp))).mono HBR.out.size))
   obtain ⟨tv, htv⟩ : ∃ v, typeOK n2 x.type = v := ⟨_, rfl⟩
   have HTV := Lib.hid htv
   rw [htv]
   have f0 := (hb1.cell (p := ⟨wr.heap.size, 7, none⟩) (by simp))
   have f1 := (hb1.cell (p := ⟨wr.heap.size, 8, none⟩) (by simp))
   have f2 := (hb1.cell (p := ⟨wr.heap.size, 9, none⟩) (by simp))
   have f3 := (hb1.cell (p := ⟨wr.heap.size, 10, none⟩) (by simp))
   simp only [World.cell?_alloc_at, List.getElem?_toArray, List.getElem?_cons_zero, List.getElem?_cons_succ] at f0 f1 f2 f3
   have hz : wr.heap.size < w1.heap.size := by have := hb1.size; simp at this; omega
   clear htv hb1 e0 e1 e2 e3 e4 e5 e6 e7 e8 e9 e10 a0 a1 a2 a3 a4 a5
   cases tv with
   |
    false =>
    go_wp2_with fail
    go_ret
    exact ⟨ret_bool (all_at HX.out (by simp [fieldOK, HTV.out])).symm, HBB.out.trans (HB1.out.mono HBB.out.size)⟩
   |
    true =>
    have hi0 : ∀ w : World, (Instr.index 56 (.agg #[.int .i64 x.w0, .int .i64 x.w1, .int .i64 x.w2, .int .i64 x.w3]) (.int .i64 0)).run Tryz.prog w = .ok (.int .i64 x.w0) w := fun _ => by kernel_rfl
    have hi1 : ∀ w : World, (Instr.index 56 (.agg #[.int .i64 x.w0, .int .i64 x.w1, .int .i64 x.w2, .int .i64 x.w3]) (.int .i64 1)).run Tryz.prog w = .ok (.int .i64 x.w1) w := fun _ => by kernel_rfl
    have hi2 : ∀ w : World, (Instr.index 56 (.agg #[.int .i64 x.w0, .int .i64 x.w1, .int .i64 x.w2, .int .i64 x.w3]) (.int .i64 2)).run Tryz.prog w = .ok (.int .i64 x.w2) w := fun _ => by kernel_rfl
    have hi3 : ∀ w : World, (Instr.index 56 (.agg #[.int .i64 x.w0, .int .i64 x.w1, .int .i64 x.w2, .int .i64 x.w3]) (.int .i64 3)).run Tryz.prog w = .ok (.int .i64 x.w3) w := fun _ => by kernel_rfl
    go_wp2_with fail
    go_loopg [66] 4 (fun q i wq => ∃ j : Nat, j ≤ 4 ∧ q = 4 - j ∧ i = .int .i64 j ∧ (([x.w0, x.w1, x.w2, x.w3] : List Int).take j).all weightOK = true ∧ wq = w1)
    case atStart => exact ⟨0, Nat.zero_le _, rfl, rfl, rfl, rfl⟩
    case round =>
     obtain ⟨j, hj, hq, rfl, hv, rfl⟩ := hrel
     have HQ2 := Lib.hid hq
     have HV2 := Lib.hid hv
     clear hq hv
     by_cases hj4 : j < 4
     ·
      obtain h0 | h0 | h0 | h0 : j = 0 ∨ j = 1 ∨ j = 2 ∨ j = 3 := by omega
      ·
       subst h0
       by_cases hwk : 0 ≤ x.w0 ∧ x.w0 ≤ 9
       ·
        obtain ⟨hwa, hwb⟩ := hwk
        go_wp2_with fail
        go_roundg (4 - (0 + 1))
        case measure => have := HQ2.out; omega
        case rel => exact ⟨0 + 1, by omega, rfl, by go_num, by have := HV2.out; simp [weightOK] at this ⊢; simp [*], rfl⟩
       ·
        go_wp2_with fail
        all_goals
         go_ret
         exact ⟨ret_bool (all_at HX.out (by
          have hw0 : weightOK x.w0 = false := by
           simp only [weightOK, Bool.and_eq_false_iff, decide_eq_false_iff_not]
           omega
          simp [fieldOK, hw0])).symm, HBB.out.trans (HB1.out.mono HBB.out.size)⟩
      ·
       subst h0
       by_cases hwk : 0 ≤ x.w1 ∧ x.w1 ≤ 9
       ·
        obtain ⟨hwa, hwb⟩ := hwk
        go_wp2_with fail
        go_roundg (4 - (1 + 1))
        case measure => have := HQ2.out; omega
        case rel => exact ⟨1 + 1, by omega, rfl, by go_num, by have := HV2.out; simp [weightOK] at this ⊢; simp [*], rfl⟩
       ·
        go_wp2_with fail
        all_goals
         go_ret
         exact ⟨ret_bool (all_at HX.out (by
          have hw0 : weightOK x.w1 = false := by
           simp only [weightOK, Bool.and_eq_false_iff, decide_eq_false_iff_not]
           omega
          simp [fieldOK, hw0])).symm, HBB.out.trans (HB1.out.mono HBB.out.size)⟩
      ·
       subst h0
       by_cases hwk : 0 ≤ x.w2 ∧ x.w2 ≤ 9
       ·
        obtain ⟨hwa, hwb⟩ := hwk
        go_wp2_with fail
        go_roundg (4 - (2 + 1))
        case measure => have := HQ2.out; omega
        case rel => exact ⟨2 + 1, by omega, rfl, by go_num, by have := HV2.out; simp [weightOK] at this ⊢; simp [*], rfl⟩
       ·
        go_wp2_with fail
        all_goals
         go_ret
         exact ⟨ret_bool (all_at HX.out (by
          have hw0 : weightOK x.w2 = false := by
           simp only [weightOK, Bool.and_eq_false_iff, decide_eq_false_iff_not]
           omega
          simp [fieldOK, hw0])).symm, HBB.out.trans (HB1.out.mono HBB.out.size)⟩
      ·
       subst h0
       by_cases hwk : 0 ≤ x.w3 ∧ x.w3 ≤ 9
       ·
        obtain ⟨hwa, hwb⟩ := hwk
        go_wp2_with fail
        go_roundg (4 - (3 + 1))
        case measure => have := HQ2.out; omega
        case rel => exact ⟨3 + 1, by omega, rfl, by go_num, by have := HV2.out; simp [weightOK] at this ⊢; simp [*], rfl⟩
       ·
        go_wp2_with fail
        all_goals
         go_ret
         exact ⟨ret_bool (all_at HX.out (by
          have hw0 : weightOK x.w3 = false := by
           simp only [weightOK, Bool.and_eq_false_iff, decide_eq_false_iff_not]
           omega
          simp [fieldOK, hw0])).symm, HBB.out.trans (HB1.out.mono HBB.out.size)⟩
     ·
      obtain rfl : j = 4 := by omega
      have HFO : Hid (fieldOK n2 x = true) := Lib.hid (by
       have := HV2.out
       rw [List.take_of_length_le (by simp), all4] at this
       simp [fieldOK, HTV.out, this])
      go_wp2_with fail
      go_roundg (nf - (k + 1))
      case measure => have := HQ.out; omega
      case rel => exact ⟨k + 1, by omega, rfl, by go_num, all_take HX.out HFO.out HV.out, HB1.out⟩
  ·
   have HT : Hid (s.fields.all (fieldOK n2) = true) := by
    have := HV.out
    rw [List.take_of_length_le (by have := HLEN.out; omega)] at this
    exact this
   go_wp2_with fail
   go_ret
   exact ⟨ret_bool HT.out.symm, HBB.out.trans (HBR.out.mono HBB.out.size)⟩
def typeAt (ss : List QSchema) (s f : Int) : Option QType :=
 if s < 0 ∨ f < 0 then none else (ss[s.toNat]?).bind fun x => (x.fields[f.toNat]?).map fun y => y.type
def purposeOK (ss : List QSchema) (p : QPurpose) : Bool := p.may.all (fun r => (typeAt ss r.schema r.field).isSome) && decide (0 ≤ p.most) && decide (p.most ≤ 64)
def isNum (t : QTerm) : Bool := decide (t.var = -1) && decide (0 ≤ t.n) && decide (t.n ≤ 1048576)
def termAt (ss : List QSchema) (froms : List QFrom) (t : QTerm) (vars : Nat) : Option QType :=
 if t.var < 0 ∨ (vars : Int) ≤ t.var then none else (froms[t.var.toNat]?).bind fun f => typeAt ss f.schema t.field
def baseAt (us : List QUnit) (u : Int) : Int := ((us[u.toNat]?).map fun x => x.base).getD 0
def alikeB (us : List QUnit) (a b : QType) : Bool :=
 if a.kind ≠ b.kind then false
 else if a.kind = 4 then decide (a.names = b.names)
 else if a.kind ≠ 1 ∨ a.unit = -1 ∨ b.unit = -1 then decide (a.unit = b.unit)
 else decide (baseAt us a.unit = baseAt us b.unit)
def fromOK (ss : List QSchema) (froms : List QFrom) (i : Nat) (f : QFrom) : Bool :=
 decide (0 ≤ f.schema) && decide (f.schema < ss.length) && (decide (f.of_.var = -1) || (termAt ss froms f.of_ i).any fun t => decide (t.kind = 3))
def fromsOK (ss : List QSchema) (froms : List QFrom) : Bool :=
 decide (1 ≤ froms.length) && decide (froms.length ≤ 3) && (List.range froms.length).all fun i => (froms[i]?).any fun f => fromOK ss froms i f
def orderedT (t : QType) : Bool := decide (t.kind = 1) || decide (t.kind = 2)
def atomOK (us : List QUnit) (ss : List QSchema) (froms : List QFrom) (a : QAtom) : Bool :=
 let x := termAt ss froms a.a froms.length
 let y := termAt ss froms a.b froms.length
 decide (1 ≤ a.op) && decide (a.op ≤ 4) && (x.isSome || isNum a.a) && (y.isSome || isNum a.b) && (x.isSome || y.isSome) &&
  (match x, y with | some s, some t => alikeB us s t | _, _ => true) &&
  (!(decide (a.op = 2) || decide (a.op = 3)) || ((x.all orderedT) && y.all orderedT))
def setOK (ss : List QSchema) (froms : List QFrom) (f : QType) (t : QTerm) : Bool :=
 if isNum t then decide (f.lo ≤ t.n) && decide (t.n ≤ f.hi)
 else (termAt ss froms t froms.length).any fun y => decide (y.kind = f.kind) && decide (y.unit = f.unit) && decide (y.names = f.names) && decide (f.lo ≤ y.lo) && decide (y.lo ≤ f.hi) && decide (f.lo ≤ y.hi) && decide (y.hi ≤ f.hi)
def setAtOK (ss : List QSchema) (froms : List QFrom) (head : Int) (s : QSet) : Bool :=
 (typeAt ss head s.field).any fun f => decide (s.field ≠ 0) && setOK ss froms f s.term
def ruleOK (us : List QUnit) (ss : List QSchema) (r : QRule) : Bool :=
 fromsOK ss r.froms && decide (r.where_.length ≤ 8) && r.where_.all (atomOK us ss r.froms) && decide (0 ≤ r.schema) && ((ss[r.schema.toNat]?).any fun h => decide (r.sets.length + 1 = h.fields.length)) &&
  r.sets.all (setAtOK ss r.froms r.schema) && diffGo [] (r.sets.map fun s => s.field)
def typesP (s : QSource) : Int :=
 if !limitedB s then 2
 else if s.units.all (unitOK s.units) && s.schemas.all (schemaOK s.issuers.length s.units.length) && s.rules.all (ruleOK s.units s.schemas) && s.purposes.all (purposeOK s.schemas) then 0
 else 120
set_option maxHeartbeats 2000000 in
theorem indexLim_any (A : Option Addr) (n c : Nat) (l : List QPurpose) (p : QPurpose → Bool) (w : World) (hl : SlR 3 qPurposeR w (.slice A n c) l) (hf : Says 128 #[] #[] qPurposeR (fun x => !p x) l w) :
 Calls Tryz.prog 198 #[.slice A n c, .func (.func 128) #[] #[]] w fun e w' => (∃ i : Int, e = .returned (.int .i64 i) ∧ decide (0 ≤ i) = !l.all p) ∧ Below w.heap.size w w' := by
 have hn2 : n ≤ 9223372036854775807 := by have := hl.le; omega
 have HN := Lib.hid hl.len
 have HL := Lib.hid hl
 have HF := Lib.hid hf
 clear hl hf
 go_enter Tryz.func198, Tryz.ntmps198
 go_wp2_with fail
 go_loopg [8] n (fun q i wr => ∃ k : Nat, k ≤ n ∧ q = n - k ∧ i = .int .i64 k ∧ (l.take k).all p = true ∧ Below w.heap.size w wr)
 case atStart => exact ⟨0, Nat.zero_le _, rfl, rfl, rfl, Below.refl _ _⟩
 case round =>
  obtain ⟨k, hk, hq, rfl, hv, hb⟩ := hrel
  have HQ := Lib.hid hq
  have HB := Lib.hid hb
  have HV := Lib.hid hv
  clear hq hb hv
  by_cases hlt : k < n
  ·
   obtain ⟨b, off, x, A1, n1, c1, rfl, hbl, hx, e0, e1, e2, g1⟩ := qPurpose_at (HL.out.mono qPurposeR_mono HB.out) hlt
   have HX := Lib.hid hx
   have hkn : (k : Int) < (n : Int) := by omega
   have hk0 : (0 : Int) ≤ (k : Int) := by omega
   have HC := Lib.hid (HF.out wr [.string x.name, .slice A1 n1 c1, .int .i64 x.most] x HB.out (List.mem_of_getElem? hx) ⟨A1, n1, c1, rfl, g1⟩)
   clear hx g1
   go_wp2_with (go_at_call 128; refine HC.out.mono ?_; clear HC)
   rintro e w1 rfl hb1
   have HB1 := Lib.hid (HB.out.trans (hb1.mono HB.out.size))
   obtain ⟨v, hv⟩ : ∃ v, p x = v := ⟨_, rfl⟩
   have HP := Lib.hid hv
   rw [hv]
   clear hv hb1
   cases v with
   |
    true =>
    go_wp2_with fail
    go_roundg (n - (k + 1))
    case measure => have := HQ.out; omega
    case rel => exact ⟨k + 1, by omega, rfl, by go_num, all_take HX.out HP.out HV.out, HB1.out⟩
   |
    false =>
    go_wp2_with fail
    go_ret
    exact ⟨⟨_, rfl, by rw [all_at HX.out HP.out]; simp⟩, HB1.out⟩
  ·
   have HT : Hid (l.all p = true) := by
    have := HV.out
    rw [List.take_of_length_le (by have := HN.out; omega)] at this
    exact this
   go_wp2_with fail
   go_ret
   exact ⟨⟨_, rfl, by rw [HT.out]; rfl⟩, HB.out⟩
theorem containsLim_any (A : Option Addr) (n c : Nat) (l : List QPurpose) (p : QPurpose → Bool) (w : World) (hl : SlR 3 qPurposeR w (.slice A n c) l) (hf : Says 128 #[] #[] qPurposeR (fun x => !p x) l w) :
 Calls Tryz.prog 127 #[.slice A n c, .func (.func 128) #[] #[]] w fun e w' => e = .returned (.bool (!l.all p)) ∧ Below w.heap.size w w' := by
 go_enter Tryz.func127, Tryz.ntmps127
 go_wp2_with fail
 refine (indexLim_any A n c l p w hl hf).mono ?_
 rintro e w1 ⟨⟨i, rfl, hi⟩, hb1⟩
 have HB1 := Lib.hid hb1
 have HI := Lib.hid hi
 clear hb1 hi
 go_wp2_with fail
 go_ret
 exact ⟨by rw [← HI.out]; rfl, HB1.out⟩
theorem lim1_any (cs : List Value) (x : QPurpose) (w : World) (hR : qPurposeR w cs x) :
 Calls Tryz.prog 128 #[.agg cs.toArray] w fun e w' => e = .returned (.bool (!decide (x.may.length ≤ 64))) ∧ Below w.heap.size w w' := by
 obtain ⟨A1, n1, c1, rfl, g1⟩ := hR
 have hl := Lib.hid g1.1.len
 clear g1
 go_enter Tryz.func128, Tryz.ntmps128
 go_wp2_with fail
 go_ret
 refine ⟨ret_bool ?_, ((Below.refl _ _).alloc (Nat.le_refl _) _)⟩
 have := hl.out
 by_cases h : x.may.length ≤ 64
 · rw [decide_eq_true h]; simp; omega
 · rw [decide_eq_false h]; simp; omega
set_option maxHeartbeats 2000000 in
set_option maxRecDepth 100000 in
theorem limited_any (A1 A2 A3 A4 A5 A6 : Option Addr) (n1 c1 n2 c2 n3 c3 n4 c4 n5 c5 n6 c6 : Nat) (s : QSource) (w : World) (h1 : n1 = s.issuers.length) (h2 : n2 = s.units.length) (h3 : n3 = s.schemas.length) (h4 : n4 = s.rules.length) (h5 : n5 = s.converts.length) (h6 : SlR 3 qPurposeR w (.slice A6 n6 c6) s.purposes) :
 Calls Tryz.prog 66 #[(.agg #[.slice A1 n1 c1, .slice A2 n2 c2, .slice A3 n3 c3, .slice A4 n4 c4, .slice A5 n5 c5, .slice A6 n6 c6])] w fun e w' => e = .returned (.bool (limitedB s)) ∧ Below w.heap.size w w' := by
 have H6 := Lib.hid h6
 have hn6 := h6.len
 clear h6
 by_cases hG : n1 ≤ 8 ∧ n2 ≤ 64 ∧ n3 ≤ 16 ∧ n4 ≤ 16 ∧ n5 ≤ 16 ∧ n6 ≤ 8
 ·
  have hf : limitedB s = s.purposes.all fun p => decide (p.may.length ≤ 64) := by
   obtain ⟨q1, q2, q3, q4, q5, q6⟩ := hG
   simp [limitedB, ← h1, ← h2, ← h3, ← h4, ← h5, ← hn6, q1, q2, q3, q4, q5, q6]
  rw [hf]
  obtain ⟨q1, q2, q3, q4, q5, q6⟩ := hG
  clear hf h1 h2 h3 h4 h5 hn6
  go_enter Tryz.func66, Tryz.ntmps66
  go_wp2_with (go_at_call 127; refine (containsLim_any A6 n6 c6 s.purposes (fun p => decide (p.may.length ≤ 64)) _ (H6.out.mono qPurposeR_mono ((Below.refl _ _).alloc (Nat.le_refl _) _)) (fun W cs x hW hx hR => lim1_any cs x W hR)).mono ?_)
  rintro e w1 ⟨rfl, hb1⟩
  have HB1 := Lib.hid (((Below.refl _ _).alloc (Nat.le_refl _) _).trans (hb1.mono (by simp)))
  clear hb1
  go_wp2_with fail
  go_ret
  exact ⟨ret_bool (by simp), HB1.out⟩
 ·
  have hf : limitedB s = false := by
   cases h : limitedB s with
   | false => rfl
   |
    true =>
    simp only [limitedB, Bool.and_eq_true, decide_eq_true_eq] at h
    omega
  rw [hf]
  clear hf h1 h2 h3 h4 h5 hn6
  go_enter Tryz.func66, Tryz.ntmps66
  go_wp2_with (go_at_call 127; refine (containsLim_any A6 n6 c6 s.purposes (fun p => decide (p.may.length ≤ 64)) _ (H6.out.mono qPurposeR_mono ((Below.refl _ _).alloc (Nat.le_refl _) _)) (fun W cs x hW hx hR => lim1_any cs x W hR)).mono ?_)
  all_goals first
   | (exfalso; omega)
   | (go_ret; exact ⟨rfl, ((Below.refl _ _).alloc (Nat.le_refl _) _)⟩)
theorem typesP_lim {s : QSource} (h : limitedB s = false) : typesP s = 2 := by simp [typesP, h]
theorem typesP_u {s : QSource} (h : limitedB s = true) (e : s.units.all (unitOK s.units) = false) : typesP s = 120 := by simp only [typesP, h, e]; rfl
theorem typesP_s {s : QSource} (h : limitedB s = true) (e1 : s.units.all (unitOK s.units) = true) (e : s.schemas.all (schemaOK s.issuers.length s.units.length) = false) : typesP s = 120 := by simp only [typesP, h, e1, e]; rfl
theorem typesP_r {s : QSource} (h : limitedB s = true) (e1 : s.units.all (unitOK s.units) = true) (e2 : s.schemas.all (schemaOK s.issuers.length s.units.length) = true) (e : s.rules.all (ruleOK s.units s.schemas) = false) : typesP s = 120 := by simp only [typesP, h, e1, e2, e]; rfl
theorem typesP_p {s : QSource} (h : limitedB s = true) (e1 : s.units.all (unitOK s.units) = true) (e2 : s.schemas.all (schemaOK s.issuers.length s.units.length) = true) (e3 : s.rules.all (ruleOK s.units s.schemas) = true) (e : s.purposes.all (purposeOK s.schemas) = false) : typesP s = 120 := by simp only [typesP, h, e1, e2, e3, e]; rfl
theorem typesP_ok {s : QSource} (h : limitedB s = true) (e1 : s.units.all (unitOK s.units) = true) (e2 : s.schemas.all (schemaOK s.issuers.length s.units.length) = true) (e3 : s.rules.all (ruleOK s.units s.schemas) = true) (e4 : s.purposes.all (purposeOK s.schemas) = true) : typesP s = 0 := by simp only [typesP, h, e1, e2, e3, e4]; rfl
set_option maxHeartbeats 8000000 in
set_option maxRecDepth 100000 in
theorem typesCheck_of (A1 A2 A3 A4 A5 A6 : Option Addr) (n1 c1 n2 c2 n3 c3 n4 c4 n5 c5 n6 c6 : Nat) (s : QSource) (w : World) (h1 : SlR 1 strR w (.slice A1 n1 c1) s.issuers) (h2 : SlR 5 qUnitR w (.slice A2 n2 c2) s.units) (h3 : SlR 6 qSchemaR w (.slice A3 n3 c3) s.schemas) (h4 : SlR 5 qRuleR w (.slice A4 n4 c4) s.rules) (h5 : n5 = s.converts.length) (h6 : SlR 3 qPurposeR w (.slice A6 n6 c6) s.purposes)
 (hr : s.schemas.all (schemaOK s.issuers.length s.units.length) = true → ∀ (W : World) (g : Nat), Below w.heap.size w W → Blk W g 110 #[.slice A1 n1 c1, .slice A2 n2 c2, .slice A3 n3 c3, .slice A4 n4 c4, .slice A5 n5 c5, .slice A6 n6 c6] → Says 67 #[] #[.pointer (some ⟨g, 0, none⟩)] qRuleR (ruleOK s.units s.schemas) s.rules W)
 (hp : ∀ (W : World), Below w.heap.size w W → Says 75 #[(.agg #[.slice A1 n1 c1, .slice A2 n2 c2, .slice A3 n3 c3, .slice A4 n4 c4, .slice A5 n5 c5, .slice A6 n6 c6])] #[] qPurposeR (purposeOK s.schemas) s.purposes W) :
 Calls Tryz.prog 45 #[(.agg #[.slice A1 n1 c1, .slice A2 n2 c2, .slice A3 n3 c3, .slice A4 n4 c4, .slice A5 n5 c5, .slice A6 n6 c6])] w fun e w' => e = .returned (.int .i64 (typesP s)) ∧ Below w.heap.size w w' := by
 have HMF : Hid (∀ (fn : Fn) (first cap : Array Value) (w : World), (Instr.makeFunc fn first cap).run Tryz.prog w = .ok (.func fn first cap) w) := Lib.hid (fun _ _ _ _ => rfl)
 have o1 : n1 ≤ 9223372036854775807 := by have := h1.le; omega
 have o2 : n2 ≤ 9223372036854775807 := by have := h2.le; omega
 have HN1 := Lib.hid h1.len
 have HN2 := Lib.hid h2.len
 have HN3 := Lib.hid h3.len
 have HN4 := Lib.hid h4.len
 have HN5 := Lib.hid h5
 have H2 := Lib.hid h2
 have H3 := Lib.hid h3
 have H4 := Lib.hid h4
 have H6 := Lib.hid h6
 have HR := Lib.hid hr
 have HP := Lib.hid hp
 clear h1 h2 h3 h4 h5 h6 hr hp
 obtain ⟨vl, hvl⟩ : ∃ v, limitedB s = v := ⟨_, rfl⟩
 have HVL := Lib.hid hvl
 clear hvl
 go_enter Tryz.func45, Tryz.ntmps45
 go_upto_region 2 with fail
 obtain ⟨wb, hwb⟩ : ∃ wq, wq = (w.alloc (.cells #[.slice A1 n1 c1, .slice A2 n2 c2, .slice A3 n3 c3, .slice A4 n4 c4, .slice A5 n5 c5, .slice A6 n6 c6] 29)).alloc (.cells #[.slice A1 n1 c1, .slice A2 n2 c2, .slice A3 n3 c3, .slice A4 n4 c4, .slice A5 n5 c5, .slice A6 n6 c6] 110) := ⟨_, rfl⟩
 rw [← hwb]
 have hbb : Below w.heap.size w wb := by rw [hwb]; exact (((Below.refl _ _).alloc (Nat.le_refl _) _).alloc (by simp) _)
 have kA : Blk wb w.heap.size 29 #[.slice A1 n1 c1, .slice A2 n2 c2, .slice A3 n3 c3, .slice A4 n4 c4, .slice A5 n5 c5, .slice A6 n6 c6] := by rw [hwb]; exact (Blk.new _ _ _).alloc _
 have kB : Blk wb (w.heap.size + 1) 110 #[.slice A1 n1 c1, .slice A2 n2 c2, .slice A3 n3 c3, .slice A4 n4 c4, .slice A5 n5 c5, .slice A6 n6 c6] := by rw [hwb]; exact blkNew (by simp)
 obtain ⟨ga, hga⟩ : ∃ g, g = w.heap.size := ⟨_, rfl⟩
 obtain ⟨gb, hgb⟩ : ∃ g, g = w.heap.size + 1 := ⟨_, rfl⟩
 rw [← hgb] at kB ⊢
 rw [← hga] at kA ⊢
 have la := kA.lt
 have lb := kB.lt
 have HA := Lib.hid kA
 have HB := Lib.hid kB
 have HBB := Lib.hid hbb
 have HB0 : Hid (Below wb.heap.size wb wb) := Lib.hid (Below.refl _ _)
 clear kA kB hbb hwb hga hgb
 have a0 := (HA.out.below HB0.out la).cell 0
 have b0 := (HB.out.below HB0.out lb).cell 0
 have a1 := (HA.out.below HB0.out la).cell 1
 have b1 := (HB.out.below HB0.out lb).cell 1
 have a2 := (HA.out.below HB0.out la).cell 2
 have b2 := (HB.out.below HB0.out lb).cell 2
 have a3 := (HA.out.below HB0.out la).cell 3
 have b3 := (HB.out.below HB0.out lb).cell 3
 have a4 := (HA.out.below HB0.out la).cell 4
 have b4 := (HB.out.below HB0.out lb).cell 4
 have a5 := (HA.out.below HB0.out la).cell 5
 have b5 := (HB.out.below HB0.out lb).cell 5
 simp only [List.getElem?_toArray, List.getElem?_cons_zero, List.getElem?_cons_succ] at a0 b0 a1 b1 a2 b2 a3 b3 a4 b4 a5 b5
 have HC : Hid (Calls Tryz.prog 66 #[(.agg #[.slice A1 n1 c1, .slice A2 n2 c2, .slice A3 n3 c3, .slice A4 n4 c4, .slice A5 n5 c5, .slice A6 n6 c6])] wb fun e w' => e = .returned (.bool vl) ∧ Below wb.heap.size wb w') := Lib.hid (by
  have := limited_any A1 A2 A3 A4 A5 A6 n1 c1 n2 c2 n3 c3 n4 c4 n5 c5 n6 c6 s wb HN1.out HN2.out HN3.out HN4.out HN5.out (H6.out.mono qPurposeR_mono HBB.out)
  rw [HVL.out] at this
  exact this)
 go_wp2_with (go_at_call 66; refine HC.out.mono ?_; clear HC)
 rintro e w1 ⟨rfl, hb1⟩
 have HB1 := Lib.hid hb1
 clear hb1 a0 b0 a1 b1 a2 b2 a3 b3 a4 b4 a5 b5
 cases vl with
 |
  false =>
  go_wp2_with fail
  go_ret
  exact ⟨ret_int (typesP_lim HVL.out).symm, (HBB.out.trans (HB1.out.mono HBB.out.size))⟩
 |
  true =>
  have a0 := (HA.out.below HB1.out la).cell 0
  have b0 := (HB.out.below HB1.out lb).cell 0
  have a1 := (HA.out.below HB1.out la).cell 1
  have b1 := (HB.out.below HB1.out lb).cell 1
  have a2 := (HA.out.below HB1.out la).cell 2
  have b2 := (HB.out.below HB1.out lb).cell 2
  have a3 := (HA.out.below HB1.out la).cell 3
  have b3 := (HB.out.below HB1.out lb).cell 3
  have a4 := (HA.out.below HB1.out la).cell 4
  have b4 := (HB.out.below HB1.out lb).cell 4
  have a5 := (HA.out.below HB1.out la).cell 5
  have b5 := (HB.out.below HB1.out lb).cell 5
  simp only [List.getElem?_toArray, List.getElem?_cons_zero, List.getElem?_cons_succ] at a0 b0 a1 b1 a2 b2 a3 b3 a4 b4 a5 b5
  have hmf := HMF.out
  obtain ⟨v1, hv1⟩ : ∃ v, s.units.all (unitOK s.units) = v := ⟨_, rfl⟩
  have HE0 := Lib.hid hv1
  have HC : Hid (Calls Tryz.prog 69 #[.slice A2 n2 c2, .func (.func 70) #[(.agg #[.slice A1 n1 c1, .slice A2 n2 c2, .slice A3 n3 c3, .slice A4 n4 c4, .slice A5 n5 c5, .slice A6 n6 c6])] #[]] w1 fun e w' => e = .returned (.bool v1) ∧ Below w1.heap.size w1 w') := Lib.hid (by
   have := allUnit_any A2 n2 c2 s.units (unitOK s.units) w1 (.agg #[.slice A1 n1 c1, .slice A2 n2 c2, .slice A3 n3 c3, .slice A4 n4 c4, .slice A5 n5 c5, .slice A6 n6 c6]) (H2.out.mono qUnitR_mono (HBB.out.trans (HB1.out.mono HBB.out.size))) (fun W cs x hW hx hR => by
    obtain rfl := hR
    exact unitOK_any A1 A2 A3 A4 A5 A6 n1 c1 n2 c2 n3 c3 n4 c4 n5 c5 n6 c6 x s.units W (H2.out.mono qUnitR_mono ((HBB.out.trans (HB1.out.mono HBB.out.size)).trans (hW.mono (HBB.out.trans (HB1.out.mono HBB.out.size)).size))))
   rw [hv1] at this
   exact this)
  clear hv1
  go_wp2_with (go_at_call 69; refine HC.out.mono ?_; clear HC)
  rintro e w2 ⟨rfl, hb2⟩
  have HB2 := Lib.hid (HB1.out.trans (hb2.mono HB1.out.size))
  clear hb2 a0 b0 a1 b1 a2 b2 a3 b3 a4 b4 a5 b5
  cases v1 with
  |
   false =>
   go_wp2_with fail
   go_ret
   exact ⟨ret_int (typesP_u HVL.out HE0.out).symm, (HBB.out.trans (HB2.out.mono HBB.out.size))⟩
  |
   true =>
   have a0 := (HA.out.below HB2.out la).cell 0
   have b0 := (HB.out.below HB2.out lb).cell 0
   have a1 := (HA.out.below HB2.out la).cell 1
   have b1 := (HB.out.below HB2.out lb).cell 1
   have a2 := (HA.out.below HB2.out la).cell 2
   have b2 := (HB.out.below HB2.out lb).cell 2
   have a3 := (HA.out.below HB2.out la).cell 3
   have b3 := (HB.out.below HB2.out lb).cell 3
   have a4 := (HA.out.below HB2.out la).cell 4
   have b4 := (HB.out.below HB2.out lb).cell 4
   have a5 := (HA.out.below HB2.out la).cell 5
   have b5 := (HB.out.below HB2.out lb).cell 5
   simp only [List.getElem?_toArray, List.getElem?_cons_zero, List.getElem?_cons_succ] at a0 b0 a1 b1 a2 b2 a3 b3 a4 b4 a5 b5
   obtain ⟨v2, hv2⟩ : ∃ v, s.schemas.all (schemaOK s.issuers.length s.units.length) = v := ⟨_, rfl⟩
   have HE1 := Lib.hid hv2
   have HC : Hid (Calls Tryz.prog 71 #[.slice A3 n3 c3, .func (.func 72) #[(.agg #[.slice A1 n1 c1, .slice A2 n2 c2, .slice A3 n3 c3, .slice A4 n4 c4, .slice A5 n5 c5, .slice A6 n6 c6])] #[]] w2 fun e w' => e = .returned (.bool v2) ∧ Below w2.heap.size w2 w') := Lib.hid (by
    have := allSchema_any A3 n3 c3 s.schemas (schemaOK s.issuers.length s.units.length) w2 (.agg #[.slice A1 n1 c1, .slice A2 n2 c2, .slice A3 n3 c3, .slice A4 n4 c4, .slice A5 n5 c5, .slice A6 n6 c6]) (H3.out.mono qSchemaR_mono (HBB.out.trans (HB2.out.mono HBB.out.size))) (fun W cs x hW hx hR => by
     obtain ⟨fA, nf, cf, dA, nd, cd, rfl, g1, g2⟩ := hR
     rw [← HN1.out, ← HN2.out]
     exact schemaOK_any A1 A2 A3 A4 A5 A6 n1 c1 n2 c2 n3 c3 n4 c4 n5 c5 n6 c6 x fA dA nf cf nd cd W o1 o2 g1.1)
    rw [hv2] at this
    exact this)
   clear hv2
   go_wp2_with (go_at_call 71; refine HC.out.mono ?_; clear HC)
   rintro e w3 ⟨rfl, hb3⟩
   have HB3 := Lib.hid (HB2.out.trans (hb3.mono HB2.out.size))
   clear hb3 a0 b0 a1 b1 a2 b2 a3 b3 a4 b4 a5 b5
   cases v2 with
   |
    false =>
    go_wp2_with fail
    go_ret
    exact ⟨ret_int (typesP_s HVL.out HE0.out HE1.out).symm, (HBB.out.trans (HB3.out.mono HBB.out.size))⟩
   |
    true =>
    have a0 := (HA.out.below HB3.out la).cell 0
    have b0 := (HB.out.below HB3.out lb).cell 0
    have a1 := (HA.out.below HB3.out la).cell 1
    have b1 := (HB.out.below HB3.out lb).cell 1
    have a2 := (HA.out.below HB3.out la).cell 2
    have b2 := (HB.out.below HB3.out lb).cell 2
    have a3 := (HA.out.below HB3.out la).cell 3
    have b3 := (HB.out.below HB3.out lb).cell 3
    have a4 := (HA.out.below HB3.out la).cell 4
    have b4 := (HB.out.below HB3.out lb).cell 4
    have a5 := (HA.out.below HB3.out la).cell 5
    have b5 := (HB.out.below HB3.out lb).cell 5
    simp only [List.getElem?_toArray, List.getElem?_cons_zero, List.getElem?_cons_succ] at a0 b0 a1 b1 a2 b2 a3 b3 a4 b4 a5 b5
    obtain ⟨v3, hv3⟩ : ∃ v, s.rules.all (ruleOK s.units s.schemas) = v := ⟨_, rfl⟩
    have HE2 := Lib.hid hv3
    have HC : Hid (Calls Tryz.prog 73 #[.slice A4 n4 c4, .func (.func 67) #[] #[.pointer (some ⟨gb, 0, none⟩)]] w3 fun e w' => e = .returned (.bool v3) ∧ Below w3.heap.size w3 w') := Lib.hid (by
     have := allRule_any A4 n4 c4 s.rules (ruleOK s.units s.schemas) w3 ⟨gb, 0, none⟩ (H4.out.mono qRuleR_mono (HBB.out.trans (HB3.out.mono HBB.out.size))) (HR.out HE1.out w3 gb (HBB.out.trans (HB3.out.mono HBB.out.size)) (HB.out.below HB3.out lb))
     rw [hv3] at this
     exact this)
    clear hv3
    go_wp2_with (go_at_call 73; refine HC.out.mono ?_; clear HC)
    rintro e w4 ⟨rfl, hb4⟩
    have HB4 := Lib.hid (HB3.out.trans (hb4.mono HB3.out.size))
    clear hb4 a0 b0 a1 b1 a2 b2 a3 b3 a4 b4 a5 b5
    cases v3 with
    |
     false =>
     go_wp2_with fail
     go_ret
     exact ⟨ret_int (typesP_r HVL.out HE0.out HE1.out HE2.out).symm, (HBB.out.trans (HB4.out.mono HBB.out.size))⟩
    |
     true =>
     have a0 := (HA.out.below HB4.out la).cell 0
     have b0 := (HB.out.below HB4.out lb).cell 0
     have a1 := (HA.out.below HB4.out la).cell 1
     have b1 := (HB.out.below HB4.out lb).cell 1
     have a2 := (HA.out.below HB4.out la).cell 2
     have b2 := (HB.out.below HB4.out lb).cell 2
     have a3 := (HA.out.below HB4.out la).cell 3
     have b3 := (HB.out.below HB4.out lb).cell 3
     have a4 := (HA.out.below HB4.out la).cell 4
     have b4 := (HB.out.below HB4.out lb).cell 4
     have a5 := (HA.out.below HB4.out la).cell 5
     have b5 := (HB.out.below HB4.out lb).cell 5
     simp only [List.getElem?_toArray, List.getElem?_cons_zero, List.getElem?_cons_succ] at a0 b0 a1 b1 a2 b2 a3 b3 a4 b4 a5 b5
     obtain ⟨v4, hv4⟩ : ∃ v, s.purposes.all (purposeOK s.schemas) = v := ⟨_, rfl⟩
     have HE3 := Lib.hid hv4
     have HC : Hid (Calls Tryz.prog 74 #[.slice A6 n6 c6, .func (.func 75) #[(.agg #[.slice A1 n1 c1, .slice A2 n2 c2, .slice A3 n3 c3, .slice A4 n4 c4, .slice A5 n5 c5, .slice A6 n6 c6])] #[]] w4 fun e w' => e = .returned (.bool v4) ∧ Below w4.heap.size w4 w') := Lib.hid (by
      have := allPurpose_any A6 n6 c6 s.purposes (purposeOK s.schemas) w4 (.agg #[.slice A1 n1 c1, .slice A2 n2 c2, .slice A3 n3 c3, .slice A4 n4 c4, .slice A5 n5 c5, .slice A6 n6 c6]) (H6.out.mono qPurposeR_mono (HBB.out.trans (HB4.out.mono HBB.out.size))) (HP.out w4 (HBB.out.trans (HB4.out.mono HBB.out.size)))
      rw [hv4] at this
      exact this)
     clear hv4
     go_wp2_with (go_at_call 74; refine HC.out.mono ?_; clear HC)
     rintro e w5 ⟨rfl, hb5⟩
     have HB5 := Lib.hid (HB4.out.trans (hb5.mono HB4.out.size))
     clear hb5 a0 b0 a1 b1 a2 b2 a3 b3 a4 b4 a5 b5
     cases v4 with
     |
      false =>
      go_wp2_with fail
      go_ret
      exact ⟨ret_int (typesP_p HVL.out HE0.out HE1.out HE2.out HE3.out).symm, (HBB.out.trans (HB5.out.mono HBB.out.size))⟩
     |
      true =>
      go_wp2_with fail
      go_ret
      exact ⟨ret_int (typesP_ok HVL.out HE0.out HE1.out HE2.out HE3.out).symm, (HBB.out.trans (HB5.out.mono HBB.out.size))⟩
theorem addable_any (n : Nat) (m : Value) (w : World) :
 Calls Tryz.prog 81 #[.agg #[.int .i64 n, m]] w fun e w' => e = .returned (.func (.func 146) #[] #[.pointer (some ⟨w.heap.size, 0, none⟩)]) ∧ w' = w.alloc (.cells #[.int .i64 n, m] 128) := by
 have hmf : ∀ (fn : Fn) (first cap : Array Value) (w : World), (Instr.makeFunc fn first cap).run Tryz.prog w = .ok (.func fn first cap) w := fun _ _ _ _ => rfl
 go_enter Tryz.func81, Tryz.ntmps81
 go_wp2_with fail
 go_ret
 exact ⟨rfl, rfl⟩
theorem foldAdd_mem {y : Int} : ∀ (xs l : List Int), y ∈ xs.foldl addNew l → y ∈ l ∨ y ∈ xs
 | [], _, h => .inl h
 |
  x :: xs, l, h => by
  rcases foldAdd_mem xs _ h with h | h
  ·
   unfold addNew at h
   split at h
   · exact .inl h
   ·
    rcases List.mem_append.1 h with h | h
    · exact .inl h
    ·
     simp only [List.mem_singleton] at h
     exact .inr (by rw [h]; exact List.mem_cons_self)
  · exact .inr (List.mem_cons_of_mem _ h)
theorem needOf_range {n : Nat} {x y : Int} : ∀ {rs : List QRule}, (∀ r ∈ rs, ∀ f ∈ r.froms, 0 ≤ f.schema ∧ f.schema < n) → y ∈ needOf rs x → 0 ≤ y ∧ y < n := by
 intro rs hr
 have gen : ∀ (ps : List QRule) (l : List Int), (∀ r ∈ ps, ∀ f ∈ r.froms, 0 ≤ f.schema ∧ f.schema < n) → (∀ z ∈ l, 0 ≤ z ∧ z < n) → ∀ z ∈ ps.foldl (fun l r => if r.schema = x then needR l r else l) l, 0 ≤ z ∧ z < n := by
  intro ps
  induction ps with
  | nil => intro l _ hl z hz; exact hl z hz
  |
   cons r ps ih =>
   intro l hp hl
   simp only [List.foldl_cons]
   refine ih _ (fun r' hr' => hp r' (List.mem_cons_of_mem _ hr')) ?_
   split
   ·
    intro z hz
    rcases foldAdd_mem _ _ hz with hz | hz
    · exact hl z hz
    ·
     obtain ⟨f, hf, rfl⟩ := List.mem_map.1 hz
     exact hp r List.mem_cons_self f hf
   · exact hl
 exact gen rs [] hr (fun z hz => by simp at hz) y
theorem order_any (A1 A2 A3 A4 A5 A6 : Option Addr) (n1 c1 n2 c2 n3 c3 n4 c4 n5 c5 n6 c6 : Nat) (rs : List QRule) (w : World) (h4 : SlR 5 qRuleR w (.slice A4 n4 c4) rs) (hn3 : n3 ≤ 1000) (hnum : ∀ r ∈ rs, (0 ≤ r.schema ∧ r.schema < n3) ∧ ∀ f ∈ r.froms, 0 ≤ f.schema ∧ f.schema < n3) :
 Calls Tryz.prog 49 #[(.agg #[.slice A1 n1 c1, .slice A2 n2 c2, .slice A3 n3 c3, .slice A4 n4 c4, .slice A5 n5 c5, .slice A6 n6 c6])] w fun e w' => ∃ v ok, e = .returned (.tuple #[v, .bool ok, .int .i64 0]) ∧ ok = decide (n3 ≤ (orderL rs n3).length) ∧ w'.ownsRow w.heap.size 3 1 v (if ok then orderL rs n3 else []).length ((if ok then orderL rs n3 else []).map (Value.int .i64)) ∧ Below w.heap.size w w' := by
 have H4 := Lib.hid h4
 have HNUM := Lib.hid hnum
 clear h4 hnum
 have hb0 : Below w.heap.size w (w.alloc (.cells #[.slice A1 n1 c1, .slice A2 n2 c2, .slice A3 n3 c3, .slice A4 n4 c4, .slice A5 n5 c5, .slice A6 n6 c6] 29)) := ((Below.refl _ _).alloc (Nat.le_refl _) _)
 have HB0 := Lib.hid hb0
 clear hb0
 go_enter Tryz.func49, Tryz.ntmps49
 go_wp2_with (go_at_call 79; refine (read_any A1 A2 A3 A4 A5 A6 n1 c1 n2 c2 n3 c3 n4 c4 n5 c5 n6 c6 rs _ (H4.out.mono qRuleR_mono HB0.out) HNUM.out).mono ?_)
 first | rintro e w1 M hs rfl hG hb1 | rintro e w1 ⟨M, hs, rfl, hG, hb1⟩
 have HG := Lib.hid hG
 have HB1 : Hid (Below w.heap.size w w1) := Lib.hid (HB0.out.trans (hb1.mono HB0.out.size))
 clear hG hb1
 have hba : Below w1.heap.size w1 (w1.alloc (.cells #[.int .i64 n3, .map (some M)] 128)) := (Below.refl _ _).alloc (Nat.le_refl _) _
 have HBA := Lib.hid hba
 clear hba
 go_wp2_with (first
  | (go_at_call 81; refine (addable_any n3 (.map (some M)) _).mono ?_; rintro e w2 ⟨rfl, rfl⟩)
  | (go_at_call 80; refine (collect_any (w1.heap.size + 1) M n3 _ hs rs _ (by have := Blk.new (w1.alloc (.cells #[.int .i64 n3, .map (some M)] 128)) 128 #[.int .i64 n3, .map (some M)]; simpa using this) ((HG.out.below HBA.out).below ((Below.refl _ _).alloc (Nat.le_refl _) _)) (fun h y hy => needOf_range (fun r hr => (HNUM.out r hr).2) hy) hn3).mono ?_))
 first | rintro e w2 v rfl hv hb2 | rintro e w2 ⟨v, rfl, hv, hb2⟩
 have hbx : Below w1.heap.size w1 w2 := (HBA.out.alloc HBA.out.size (.cells #[.int .i64 n3, .map (some M)] 128)).trans (hb2.mono (by simp; omega))
 have kb := (((Blk.new w1 128 #[.int .i64 n3, .map (some M)]).alloc (.cells #[.int .i64 n3, .map (some M)] 128)).below hb2 (by simp; omega))
 have c0 := kb.cell 0
 have l0 := kb.lt
 simp only [List.getElem?_toArray, List.getElem?_cons_zero] at c0
 have HV := Lib.hid hv
 obtain ⟨A, c, rfl⟩ := (slI_of_own hv).form
 have HBF : Hid (Below w.heap.size w w2) := Lib.hid (HB1.out.trans (hbx.mono HB1.out.size))
 clear hv kb hb2 hbx
 by_cases hlt : (orderL rs n3).length < n3
 ·
  have hlt2 : ((orderL rs n3).length : Int) < (n3 : Int) := by omega
  go_wp2_with fail
  go_ret3
  exact ⟨_, false, rfl, by rw [decide_eq_false (by omega)], World.ownsRow_nil _ _ _ _, HBF.out⟩
 ·
  have hlt2 : (n3 : Int) ≤ ((orderL rs n3).length : Int) := by omega
  go_wp2_with fail
  go_ret3
  exact ⟨_, true, rfl, by rw [decide_eq_true (by omega)], Joins.ownsRow_le HV.out (by have := HB1.out.size; simp; omega), HBF.out⟩
theorem ruleOK_num {us : List QUnit} {ss : List QSchema} {r : QRule} (h : ruleOK us ss r = true) : (0 ≤ r.schema ∧ r.schema < ss.length) ∧ ∀ f ∈ r.froms, 0 ≤ f.schema ∧ f.schema < ss.length := by
 simp only [ruleOK, Bool.and_eq_true, decide_eq_true_eq, Option.any_eq_true] at h
 obtain ⟨⟨⟨⟨⟨⟨h1, h2⟩, h3⟩, h4⟩, hd, h5, h6⟩, h7⟩, h8⟩ := h
 refine ⟨⟨h4, ?_⟩, ?_⟩
 ·
  have := (List.getElem?_eq_some_iff.1 h5).1
  omega
 ·
  intro f hf
  simp only [fromsOK, Bool.and_eq_true, decide_eq_true_eq, List.all_eq_true] at h1
  obtain ⟨i, hi, rfl⟩ := List.mem_iff_getElem.1 hf
  have := h1.2 i (List.mem_range.2 hi)
  rw [List.getElem?_eq_getElem hi] at this
  simp only [Option.any_some, fromOK, Bool.and_eq_true, decide_eq_true_eq] at this
  exact this.1
theorem typesP_zero {s : QSource} (h : typesP s = 0) : limitedB s = true ∧ s.units.all (unitOK s.units) = true ∧ s.schemas.all (schemaOK s.issuers.length s.units.length) = true ∧ s.rules.all (ruleOK s.units s.schemas) = true ∧ s.purposes.all (purposeOK s.schemas) = true := by
 unfold typesP at h
 split at h
 · cases h
 ·
  next h1 =>
  split at h
  ·
   next h2 =>
   simp only [Bool.and_eq_true] at h2
   exact ⟨by simpa using h1, h2.1.1.1, h2.1.1.2, h2.1.2, h2.2⟩
  · cases h
theorem limited_schemas {s : QSource} (h : limitedB s = true) : s.schemas.length ≤ 16 := by
 simp only [limitedB, Bool.and_eq_true, decide_eq_true_eq] at h
 omega
def orderOK (s : QSource) : Bool := decide (s.schemas.length ≤ (orderL s.rules s.schemas.length).length)
def rulesCheckP (s : QSource) : Int := if typesP s = 0 then (if orderOK s then 0 else 141) else typesP s
set_option maxHeartbeats 4000000 in
set_option maxRecDepth 100000 in
theorem rulesCheck_of (A1 A2 A3 A4 A5 A6 : Option Addr) (n1 c1 n2 c2 n3 c3 n4 c4 n5 c5 n6 c6 : Nat) (s : QSource) (w : World) (h1 : SlR 1 strR w (.slice A1 n1 c1) s.issuers) (h2 : SlR 5 qUnitR w (.slice A2 n2 c2) s.units) (h3 : SlR 6 qSchemaR w (.slice A3 n3 c3) s.schemas) (h4 : SlR 5 qRuleR w (.slice A4 n4 c4) s.rules) (h5 : n5 = s.converts.length) (h6 : SlR 3 qPurposeR w (.slice A6 n6 c6) s.purposes)
 (hr : s.schemas.all (schemaOK s.issuers.length s.units.length) = true → ∀ (W : World) (g : Nat), Below w.heap.size w W → Blk W g 110 #[.slice A1 n1 c1, .slice A2 n2 c2, .slice A3 n3 c3, .slice A4 n4 c4, .slice A5 n5 c5, .slice A6 n6 c6] → Says 67 #[] #[.pointer (some ⟨g, 0, none⟩)] qRuleR (ruleOK s.units s.schemas) s.rules W)
 (hp : ∀ (W : World), Below w.heap.size w W → Says 75 #[(.agg #[.slice A1 n1 c1, .slice A2 n2 c2, .slice A3 n3 c3, .slice A4 n4 c4, .slice A5 n5 c5, .slice A6 n6 c6])] #[] qPurposeR (purposeOK s.schemas) s.purposes W) :
 Calls Tryz.prog 76 #[(.agg #[.slice A1 n1 c1, .slice A2 n2 c2, .slice A3 n3 c3, .slice A4 n4 c4, .slice A5 n5 c5, .slice A6 n6 c6])] w fun e w' => e = .returned (.int .i64 (rulesCheckP s)) ∧ Below w.heap.size w w' := by
 have hb0 : Below w.heap.size w (w.alloc (.cells #[.slice A1 n1 c1, .slice A2 n2 c2, .slice A3 n3 c3, .slice A4 n4 c4, .slice A5 n5 c5, .slice A6 n6 c6] 29)) := ((Below.refl _ _).alloc (Nat.le_refl _) _)
 obtain ⟨t, ht⟩ : ∃ t, typesP s = t := ⟨_, rfl⟩
 have HC : Hid (Calls Tryz.prog 45 #[(.agg #[.slice A1 n1 c1, .slice A2 n2 c2, .slice A3 n3 c3, .slice A4 n4 c4, .slice A5 n5 c5, .slice A6 n6 c6])] (w.alloc (.cells #[.slice A1 n1 c1, .slice A2 n2 c2, .slice A3 n3 c3, .slice A4 n4 c4, .slice A5 n5 c5, .slice A6 n6 c6] 29)) fun e w' => e = .returned (.int .i64 t) ∧ Below (w.alloc (.cells #[.slice A1 n1 c1, .slice A2 n2 c2, .slice A3 n3 c3, .slice A4 n4 c4, .slice A5 n5 c5, .slice A6 n6 c6] 29)).heap.size (w.alloc (.cells #[.slice A1 n1 c1, .slice A2 n2 c2, .slice A3 n3 c3, .slice A4 n4 c4, .slice A5 n5 c5, .slice A6 n6 c6] 29)) w') := Lib.hid (by
  rw [← ht]
  exact typesCheck_of A1 A2 A3 A4 A5 A6 n1 c1 n2 c2 n3 c3 n4 c4 n5 c5 n6 c6 s _ (h1.mono strR_mono hb0) (h2.mono qUnitR_mono hb0) (h3.mono qSchemaR_mono hb0) (h4.mono qRuleR_mono hb0) h5 (h6.mono qPurposeR_mono hb0) (fun h W g hW => hr h W g (hb0.trans (hW.mono hb0.size))) (fun W hW => hp W (hb0.trans (hW.mono hb0.size))))
 have HT := Lib.hid ht
 have HB0 := Lib.hid hb0
 have HN3 := Lib.hid h3.len
 have H4 := Lib.hid h4
 clear ht hb0 h1 h2 h3 h4 h5 h6 hr hp
 go_enter Tryz.func76, Tryz.ntmps76
 go_wp2_with (go_at_call 45; refine HC.out.mono ?_)
 first | rintro e w1 rfl hb1 | rintro e w1 ⟨rfl, hb1⟩
 have HB1 : Hid (Below w.heap.size w w1) := Lib.hid (HB0.out.trans (hb1.mono HB0.out.size))
 have kb := (Blk.new w 29 #[.slice A1 n1 c1, .slice A2 n2 c2, .slice A3 n3 c3, .slice A4 n4 c4, .slice A5 n5 c5, .slice A6 n6 c6]).below hb1 (by simp)
 have q0 := kb.cell 0
 have q1 := kb.cell 1
 have q2 := kb.cell 2
 have q3 := kb.cell 3
 have q4 := kb.cell 4
 have q5 := kb.cell 5
 have lq := kb.lt
 simp only [List.getElem?_toArray, List.getElem?_cons_zero, List.getElem?_cons_succ] at q0 q1 q2 q3 q4 q5
 clear hb1 kb HC
 by_cases ht0 : t = 0
 ·
  subst ht0
  have HNUM : Hid (n3 ≤ 1000 ∧ ∀ r ∈ s.rules, (0 ≤ r.schema ∧ r.schema < n3) ∧ ∀ f ∈ r.froms, 0 ≤ f.schema ∧ f.schema < n3) := Lib.hid (by
   obtain ⟨h1, h2, h3, h4, h5⟩ := typesP_zero HT.out
   refine ⟨by have := limited_schemas h1; have := HN3.out; omega, fun r hr => ?_⟩
   rw [HN3.out]
   exact ruleOK_num (List.all_eq_true.1 h4 r hr))
  go_wp2_with (go_at_call 49; refine (order_any A1 A2 A3 A4 A5 A6 n1 c1 n2 c2 n3 c3 n4 c4 n5 c5 n6 c6 s.rules w1 (H4.out.mono qRuleR_mono HB1.out) HNUM.out.1 HNUM.out.2).mono ?_)
  first | rintro e w2 v ok rfl hok hv hb2 | rintro e w2 ⟨v, ok, rfl, hok, hv, hb2⟩
  have HOK := Lib.hid hok
  have HB2 : Hid (Below w.heap.size w w2) := Lib.hid (HB1.out.trans (hb2.mono HB1.out.size))
  clear hok hv hb2
  cases ok with
  |
   true =>
   go_wp2_with fail
   go_ret
   exact ⟨ret_int (by
    rw [rulesCheckP, if_pos HT.out, orderOK, ← HN3.out, ← HOK.out]; rfl), HB2.out⟩
  |
   false =>
   go_wp2_with fail
   go_ret
   exact ⟨ret_int (by
    rw [rulesCheckP, if_pos HT.out, orderOK, ← HN3.out, ← HOK.out]; rfl), HB2.out⟩
 ·
  have htn : (t != 0) = true := by simpa using ht0
  go_wp2_with fail
  go_ret
  exact ⟨ret_int (by rw [rulesCheckP, HT.out, if_neg ht0]), HB1.out⟩
set_option maxHeartbeats 2000000 in
theorem equalUnit_any (A B : Option Addr) (n c m d : Nat) (l r : List QUnit) (w : World) (hl : SlR 5 qUnitR w (.slice A n c) l) (hr : SlR 5 qUnitR w (.slice B m d) r) :
 Calls Tryz.prog 83 #[.slice A n c, .slice B m d] w fun e w' => e = .returned (.bool (sameL l r)) ∧ Below w.heap.size w w' := by
 have hn2 : n ≤ 9223372036854775807 := by have := hl.le; omega
 have hln := hl.len
 have hrn := hr.len
 have HL := Lib.hid hl
 have HR := Lib.hid hr
 clear hl hr
 by_cases e : n = m
 ·
  subst e
  have el : l.length = r.length := by omega
  have HN := Lib.hid hln
  have HE := Lib.hid el
  clear hln hrn el
  obtain ⟨v, hv⟩ : ∃ v, sameL l r = v := ⟨_, rfl⟩
  rw [hv]
  have HV : Hid (sameL (l.drop 0) (r.drop 0) = v) := Lib.hid hv
  clear hv
  go_enter Tryz.func83, Tryz.ntmps83
  go_wp2_with fail
  go_loopg [13] n (fun q i wr => ∃ k : Nat, k ≤ n ∧ q = n - k ∧ i = .int .i64 k ∧ sameL (l.drop k) (r.drop k) = v ∧ Below w.heap.size w wr)
  case atStart => exact ⟨0, Nat.zero_le _, rfl, rfl, HV.out, Below.refl _ _⟩
  case round =>
   obtain ⟨k, hk, hq, rfl, hv, hb⟩ := hrel
   have HQ := Lib.hid hq
   have HB := Lib.hid hb
   have HV2 := Lib.hid hv
   clear hq hb hv HV
   by_cases hlt : k < n
   ·
    obtain ⟨a, ao, x, rfl, hal, hx, e0, e1, e2, e3, e4⟩ := qUnit_at (HL.out.mono qUnitR_mono HB.out) hlt
    obtain ⟨b, bo, y, rfl, hbl, hy, d0, d1, d2, d3, d4⟩ := qUnit_at (HR.out.mono qUnitR_mono HB.out) hlt
    have HX := Lib.hid hx
    have HY := Lib.hid hy
    have hkn : (k : Int) < (n : Int) := by omega
    have hk0 : (0 : Int) ≤ (k : Int) := by omega
    clear hx hy
    have hne := neqUnit x y
    by_cases exy : x = y
    ·
     have hd : decide (x = y) = true := decide_eq_true exy
     simp only [hd, Bool.not_true] at hne
     clear hd
     have HXE := Lib.hid exy
     clear exy
     go_wp2_with fail
     go_quiet (fail)
     go_wp2_with fail
     go_roundg (n - (k + 1))
     case measure => have := HQ.out; omega
     case rel => exact ⟨k + 1, by omega, rfl, by go_num, sameL_go HX.out HY.out HV2.out HXE.out, below_drewN HB.out _⟩
    ·
     obtain rfl := sameL_stop HX.out HY.out HV2.out exy
     have hd : decide (x = y) = false := decide_eq_false exy
     simp only [hd, Bool.not_false] at hne
     clear hd exy
     go_wp2_with fail
     go_quiet (fail)
     go_wp2_with fail
     go_ret
     exact ⟨rfl, below_drewN HB.out _⟩
   ·
    obtain rfl := sameL_end HV2.out HE.out (by have := HN.out; omega)
    go_wp2_with fail
    go_ret
    exact ⟨rfl, HB.out⟩
 ·
  have el : ¬ l.length = r.length := by omega
  rw [sameL_len el]
  go_enter Tryz.func83, Tryz.ntmps83
  go_wp2_with fail
  go_ret
  exact ⟨rfl, Below.refl _ _⟩
set_option maxHeartbeats 2000000 in
theorem equalFrom_any (A B : Option Addr) (n c m d : Nat) (l r : List QFrom) (w : World) (hl : SlR 8 qFromR w (.slice A n c) l) (hr : SlR 8 qFromR w (.slice B m d) r) :
 Calls Tryz.prog 155 #[.slice A n c, .slice B m d] w fun e w' => e = .returned (.bool (sameL l r)) ∧ Below w.heap.size w w' := by
 have hn2 : n ≤ 9223372036854775807 := by have := hl.le; omega
 have hln := hl.len
 have hrn := hr.len
 have HL := Lib.hid hl
 have HR := Lib.hid hr
 clear hl hr
 by_cases e : n = m
 ·
  subst e
  have el : l.length = r.length := by omega
  have HN := Lib.hid hln
  have HE := Lib.hid el
  clear hln hrn el
  obtain ⟨v, hv⟩ : ∃ v, sameL l r = v := ⟨_, rfl⟩
  rw [hv]
  have HV : Hid (sameL (l.drop 0) (r.drop 0) = v) := Lib.hid hv
  clear hv
  go_enter Tryz.func155, Tryz.ntmps155
  go_wp2_with fail
  go_loopg [13] n (fun q i wr => ∃ k : Nat, k ≤ n ∧ q = n - k ∧ i = .int .i64 k ∧ sameL (l.drop k) (r.drop k) = v ∧ Below w.heap.size w wr)
  case atStart => exact ⟨0, Nat.zero_le _, rfl, rfl, HV.out, Below.refl _ _⟩
  case round =>
   obtain ⟨k, hk, hq, rfl, hv, hb⟩ := hrel
   have HQ := Lib.hid hq
   have HB := Lib.hid hb
   have HV2 := Lib.hid hv
   clear hq hb hv HV
   by_cases hlt : k < n
   ·
    obtain ⟨a, ao, x, rfl, hal, hx, e0, e1, e2, e3, e4, e5, e6, e7⟩ := qFrom_at (HL.out.mono qFromR_mono HB.out) hlt
    obtain ⟨b, bo, y, rfl, hbl, hy, d0, d1, d2, d3, d4, d5, d6, d7⟩ := qFrom_at (HR.out.mono qFromR_mono HB.out) hlt
    have HX := Lib.hid hx
    have HY := Lib.hid hy
    have hkn : (k : Int) < (n : Int) := by omega
    have hk0 : (0 : Int) ≤ (k : Int) := by omega
    clear hx hy
    have hne := neqFrom x y
    by_cases exy : x = y
    ·
     have hd : decide (x = y) = true := decide_eq_true exy
     simp only [hd, Bool.not_true] at hne
     clear hd
     have HXE := Lib.hid exy
     clear exy
     go_wp2_with fail
     go_quiet (fail)
     go_wp2_with fail
     go_roundg (n - (k + 1))
     case measure => have := HQ.out; omega
     case rel => exact ⟨k + 1, by omega, rfl, by go_num, sameL_go HX.out HY.out HV2.out HXE.out, below_drewN HB.out _⟩
    ·
     obtain rfl := sameL_stop HX.out HY.out HV2.out exy
     have hd : decide (x = y) = false := decide_eq_false exy
     simp only [hd, Bool.not_false] at hne
     clear hd exy
     go_wp2_with fail
     go_quiet (fail)
     go_wp2_with fail
     go_ret
     exact ⟨rfl, below_drewN HB.out _⟩
   ·
    obtain rfl := sameL_end HV2.out HE.out (by have := HN.out; omega)
    go_wp2_with fail
    go_ret
    exact ⟨rfl, HB.out⟩
 ·
  have el : ¬ l.length = r.length := by omega
  rw [sameL_len el]
  go_enter Tryz.func155, Tryz.ntmps155
  go_wp2_with fail
  go_ret
  exact ⟨rfl, Below.refl _ _⟩
set_option maxHeartbeats 2000000 in
theorem equalAtom_any (A B : Option Addr) (n c m d : Nat) (l r : List QAtom) (w : World) (hl : SlR 11 qAtomR w (.slice A n c) l) (hr : SlR 11 qAtomR w (.slice B m d) r) :
 Calls Tryz.prog 156 #[.slice A n c, .slice B m d] w fun e w' => e = .returned (.bool (sameL l r)) ∧ Below w.heap.size w w' := by
 have hn2 : n ≤ 9223372036854775807 := by have := hl.le; omega
 have hln := hl.len
 have hrn := hr.len
 have HL := Lib.hid hl
 have HR := Lib.hid hr
 clear hl hr
 by_cases e : n = m
 ·
  subst e
  have el : l.length = r.length := by omega
  have HN := Lib.hid hln
  have HE := Lib.hid el
  clear hln hrn el
  obtain ⟨v, hv⟩ : ∃ v, sameL l r = v := ⟨_, rfl⟩
  rw [hv]
  have HV : Hid (sameL (l.drop 0) (r.drop 0) = v) := Lib.hid hv
  clear hv
  go_enter Tryz.func156, Tryz.ntmps156
  go_wp2_with fail
  go_loopg [13] n (fun q i wr => ∃ k : Nat, k ≤ n ∧ q = n - k ∧ i = .int .i64 k ∧ sameL (l.drop k) (r.drop k) = v ∧ Below w.heap.size w wr)
  case atStart => exact ⟨0, Nat.zero_le _, rfl, rfl, HV.out, Below.refl _ _⟩
  case round =>
   obtain ⟨k, hk, hq, rfl, hv, hb⟩ := hrel
   have HQ := Lib.hid hq
   have HB := Lib.hid hb
   have HV2 := Lib.hid hv
   clear hq hb hv HV
   by_cases hlt : k < n
   ·
    obtain ⟨a, ao, x, rfl, hal, hx, e0, e1, e2, e3, e4, e5, e6, e7, e8, e9, e10⟩ := qAtom_at (HL.out.mono qAtomR_mono HB.out) hlt
    obtain ⟨b, bo, y, rfl, hbl, hy, d0, d1, d2, d3, d4, d5, d6, d7, d8, d9, d10⟩ := qAtom_at (HR.out.mono qAtomR_mono HB.out) hlt
    have HX := Lib.hid hx
    have HY := Lib.hid hy
    have hkn : (k : Int) < (n : Int) := by omega
    have hk0 : (0 : Int) ≤ (k : Int) := by omega
    clear hx hy
    have hne := neqAtom x y
    by_cases exy : x = y
    ·
     have hd : decide (x = y) = true := decide_eq_true exy
     simp only [hd, Bool.not_true] at hne
     clear hd
     have HXE := Lib.hid exy
     clear exy
     go_wp2_with fail
     go_quiet (fail)
     go_wp2_with fail
     go_roundg (n - (k + 1))
     case measure => have := HQ.out; omega
     case rel => exact ⟨k + 1, by omega, rfl, by go_num, sameL_go HX.out HY.out HV2.out HXE.out, below_drewN HB.out _⟩
    ·
     obtain rfl := sameL_stop HX.out HY.out HV2.out exy
     have hd : decide (x = y) = false := decide_eq_false exy
     simp only [hd, Bool.not_false] at hne
     clear hd exy
     go_wp2_with fail
     go_quiet (fail)
     go_wp2_with fail
     go_ret
     exact ⟨rfl, below_drewN HB.out _⟩
   ·
    obtain rfl := sameL_end HV2.out HE.out (by have := HN.out; omega)
    go_wp2_with fail
    go_ret
    exact ⟨rfl, HB.out⟩
 ·
  have el : ¬ l.length = r.length := by omega
  rw [sameL_len el]
  go_enter Tryz.func156, Tryz.ntmps156
  go_wp2_with fail
  go_ret
  exact ⟨rfl, Below.refl _ _⟩
set_option maxHeartbeats 2000000 in
theorem equalSet_any (A B : Option Addr) (n c m d : Nat) (l r : List QSet) (w : World) (hl : SlR 7 qSetR w (.slice A n c) l) (hr : SlR 7 qSetR w (.slice B m d) r) :
 Calls Tryz.prog 157 #[.slice A n c, .slice B m d] w fun e w' => e = .returned (.bool (sameL l r)) ∧ Below w.heap.size w w' := by
 have hn2 : n ≤ 9223372036854775807 := by have := hl.le; omega
 have hln := hl.len
 have hrn := hr.len
 have HL := Lib.hid hl
 have HR := Lib.hid hr
 clear hl hr
 by_cases e : n = m
 ·
  subst e
  have el : l.length = r.length := by omega
  have HN := Lib.hid hln
  have HE := Lib.hid el
  clear hln hrn el
  obtain ⟨v, hv⟩ : ∃ v, sameL l r = v := ⟨_, rfl⟩
  rw [hv]
  have HV : Hid (sameL (l.drop 0) (r.drop 0) = v) := Lib.hid hv
  clear hv
  go_enter Tryz.func157, Tryz.ntmps157
  go_wp2_with fail
  go_loopg [13] n (fun q i wr => ∃ k : Nat, k ≤ n ∧ q = n - k ∧ i = .int .i64 k ∧ sameL (l.drop k) (r.drop k) = v ∧ Below w.heap.size w wr)
  case atStart => exact ⟨0, Nat.zero_le _, rfl, rfl, HV.out, Below.refl _ _⟩
  case round =>
   obtain ⟨k, hk, hq, rfl, hv, hb⟩ := hrel
   have HQ := Lib.hid hq
   have HB := Lib.hid hb
   have HV2 := Lib.hid hv
   clear hq hb hv HV
   by_cases hlt : k < n
   ·
    obtain ⟨a, ao, x, rfl, hal, hx, e0, e1, e2, e3, e4, e5, e6⟩ := qSet_at (HL.out.mono qSetR_mono HB.out) hlt
    obtain ⟨b, bo, y, rfl, hbl, hy, d0, d1, d2, d3, d4, d5, d6⟩ := qSet_at (HR.out.mono qSetR_mono HB.out) hlt
    have HX := Lib.hid hx
    have HY := Lib.hid hy
    have hkn : (k : Int) < (n : Int) := by omega
    have hk0 : (0 : Int) ≤ (k : Int) := by omega
    clear hx hy
    have hne := neqSet x y
    by_cases exy : x = y
    ·
     have hd : decide (x = y) = true := decide_eq_true exy
     simp only [hd, Bool.not_true] at hne
     clear hd
     have HXE := Lib.hid exy
     clear exy
     go_wp2_with fail
     go_quiet (fail)
     go_wp2_with fail
     go_roundg (n - (k + 1))
     case measure => have := HQ.out; omega
     case rel => exact ⟨k + 1, by omega, rfl, by go_num, sameL_go HX.out HY.out HV2.out HXE.out, below_drewN HB.out _⟩
    ·
     obtain rfl := sameL_stop HX.out HY.out HV2.out exy
     have hd : decide (x = y) = false := decide_eq_false exy
     simp only [hd, Bool.not_false] at hne
     clear hd exy
     go_wp2_with fail
     go_quiet (fail)
     go_wp2_with fail
     go_ret
     exact ⟨rfl, below_drewN HB.out _⟩
   ·
    obtain rfl := sameL_end HV2.out HE.out (by have := HN.out; omega)
    go_wp2_with fail
    go_ret
    exact ⟨rfl, HB.out⟩
 ·
  have el : ¬ l.length = r.length := by omega
  rw [sameL_len el]
  go_enter Tryz.func157, Tryz.ntmps157
  go_wp2_with fail
  go_ret
  exact ⟨rfl, Below.refl _ _⟩
set_option maxHeartbeats 2000000 in
theorem equalMove_any (A B : Option Addr) (n c m d : Nat) (l r : List QMove) (w : World) (hl : SlR 5 qMoveR w (.slice A n c) l) (hr : SlR 5 qMoveR w (.slice B m d) r) :
 Calls Tryz.prog 158 #[.slice A n c, .slice B m d] w fun e w' => e = .returned (.bool (sameL l r)) ∧ Below w.heap.size w w' := by
 have hn2 : n ≤ 9223372036854775807 := by have := hl.le; omega
 have hln := hl.len
 have hrn := hr.len
 have HL := Lib.hid hl
 have HR := Lib.hid hr
 clear hl hr
 by_cases e : n = m
 ·
  subst e
  have el : l.length = r.length := by omega
  have HN := Lib.hid hln
  have HE := Lib.hid el
  clear hln hrn el
  obtain ⟨v, hv⟩ : ∃ v, sameL l r = v := ⟨_, rfl⟩
  rw [hv]
  have HV : Hid (sameL (l.drop 0) (r.drop 0) = v) := Lib.hid hv
  clear hv
  go_enter Tryz.func158, Tryz.ntmps158
  go_wp2_with fail
  go_loopg [13] n (fun q i wr => ∃ k : Nat, k ≤ n ∧ q = n - k ∧ i = .int .i64 k ∧ sameL (l.drop k) (r.drop k) = v ∧ Below w.heap.size w wr)
  case atStart => exact ⟨0, Nat.zero_le _, rfl, rfl, HV.out, Below.refl _ _⟩
  case round =>
   obtain ⟨k, hk, hq, rfl, hv, hb⟩ := hrel
   have HQ := Lib.hid hq
   have HB := Lib.hid hb
   have HV2 := Lib.hid hv
   clear hq hb hv HV
   by_cases hlt : k < n
   ·
    obtain ⟨a, ao, x, rfl, hal, hx, e0, e1, e2, e3, e4⟩ := qMove_at (HL.out.mono qMoveR_mono HB.out) hlt
    obtain ⟨b, bo, y, rfl, hbl, hy, d0, d1, d2, d3, d4⟩ := qMove_at (HR.out.mono qMoveR_mono HB.out) hlt
    have HX := Lib.hid hx
    have HY := Lib.hid hy
    have hkn : (k : Int) < (n : Int) := by omega
    have hk0 : (0 : Int) ≤ (k : Int) := by omega
    clear hx hy
    have hne := neqMove x y
    by_cases exy : x = y
    ·
     have hd : decide (x = y) = true := decide_eq_true exy
     simp only [hd, Bool.not_true] at hne
     clear hd
     have HXE := Lib.hid exy
     clear exy
     go_wp2_with fail
     go_quiet (fail)
     go_wp2_with fail
     go_roundg (n - (k + 1))
     case measure => have := HQ.out; omega
     case rel => exact ⟨k + 1, by omega, rfl, by go_num, sameL_go HX.out HY.out HV2.out HXE.out, below_drewN HB.out _⟩
    ·
     obtain rfl := sameL_stop HX.out HY.out HV2.out exy
     have hd : decide (x = y) = false := decide_eq_false exy
     simp only [hd, Bool.not_false] at hne
     clear hd exy
     go_wp2_with fail
     go_quiet (fail)
     go_wp2_with fail
     go_ret
     exact ⟨rfl, below_drewN HB.out _⟩
   ·
    obtain rfl := sameL_end HV2.out HE.out (by have := HN.out; omega)
    go_wp2_with fail
    go_ret
    exact ⟨rfl, HB.out⟩
 ·
  have el : ¬ l.length = r.length := by omega
  rw [sameL_len el]
  go_enter Tryz.func158, Tryz.ntmps158
  go_wp2_with fail
  go_ret
  exact ⟨rfl, Below.refl _ _⟩
set_option maxHeartbeats 2000000 in
theorem equalRef_any (A B : Option Addr) (n c m d : Nat) (l r : List QRef) (w : World) (hl : SlR 4 qRefR w (.slice A n c) l) (hr : SlR 4 qRefR w (.slice B m d) r) :
 Calls Tryz.prog 159 #[.slice A n c, .slice B m d] w fun e w' => e = .returned (.bool (sameL l r)) ∧ Below w.heap.size w w' := by
 have hn2 : n ≤ 9223372036854775807 := by have := hl.le; omega
 have hln := hl.len
 have hrn := hr.len
 have HL := Lib.hid hl
 have HR := Lib.hid hr
 clear hl hr
 by_cases e : n = m
 ·
  subst e
  have el : l.length = r.length := by omega
  have HN := Lib.hid hln
  have HE := Lib.hid el
  clear hln hrn el
  obtain ⟨v, hv⟩ : ∃ v, sameL l r = v := ⟨_, rfl⟩
  rw [hv]
  have HV : Hid (sameL (l.drop 0) (r.drop 0) = v) := Lib.hid hv
  clear hv
  go_enter Tryz.func159, Tryz.ntmps159
  go_wp2_with fail
  go_loopg [13] n (fun q i wr => ∃ k : Nat, k ≤ n ∧ q = n - k ∧ i = .int .i64 k ∧ sameL (l.drop k) (r.drop k) = v ∧ Below w.heap.size w wr)
  case atStart => exact ⟨0, Nat.zero_le _, rfl, rfl, HV.out, Below.refl _ _⟩
  case round =>
   obtain ⟨k, hk, hq, rfl, hv, hb⟩ := hrel
   have HQ := Lib.hid hq
   have HB := Lib.hid hb
   have HV2 := Lib.hid hv
   clear hq hb hv HV
   by_cases hlt : k < n
   ·
    obtain ⟨a, ao, x, rfl, hal, hx, e0, e1, e2, e3⟩ := qRef_at (HL.out.mono qRefR_mono HB.out) hlt
    obtain ⟨b, bo, y, rfl, hbl, hy, d0, d1, d2, d3⟩ := qRef_at (HR.out.mono qRefR_mono HB.out) hlt
    have HX := Lib.hid hx
    have HY := Lib.hid hy
    have hkn : (k : Int) < (n : Int) := by omega
    have hk0 : (0 : Int) ≤ (k : Int) := by omega
    clear hx hy
    have hne := neqRef x y
    by_cases exy : x = y
    ·
     have hd : decide (x = y) = true := decide_eq_true exy
     simp only [hd, Bool.not_true] at hne
     clear hd
     have HXE := Lib.hid exy
     clear exy
     go_wp2_with fail
     go_quiet (fail)
     go_wp2_with fail
     go_roundg (n - (k + 1))
     case measure => have := HQ.out; omega
     case rel => exact ⟨k + 1, by omega, rfl, by go_num, sameL_go HX.out HY.out HV2.out HXE.out, below_drewN HB.out _⟩
    ·
     obtain rfl := sameL_stop HX.out HY.out HV2.out exy
     have hd : decide (x = y) = false := decide_eq_false exy
     simp only [hd, Bool.not_false] at hne
     clear hd exy
     go_wp2_with fail
     go_quiet (fail)
     go_wp2_with fail
     go_ret
     exact ⟨rfl, below_drewN HB.out _⟩
   ·
    obtain rfl := sameL_end HV2.out HE.out (by have := HN.out; omega)
    go_wp2_with fail
    go_ret
    exact ⟨rfl, HB.out⟩
 ·
  have el : ¬ l.length = r.length := by omega
  rw [sameL_len el]
  go_enter Tryz.func159, Tryz.ntmps159
  go_wp2_with fail
  go_ret
  exact ⟨rfl, Below.refl _ _⟩
end Go.Proofs.YtkgmonplcdnnbaaGreat
