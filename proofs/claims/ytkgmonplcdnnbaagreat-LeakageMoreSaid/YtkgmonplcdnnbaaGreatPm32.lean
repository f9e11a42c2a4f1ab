/- Contracts of package types: fromsOK. Written by genty.py. -/
import Derived.Test.YtkgmonplcdnnbaaGreatPm31
import Derived.Deep.MidRow
import Derived.Deep.QuietTactic
import Derived.BigQuiet
namespace Go.Proofs.YtkgmonplcdnnbaaGreat
open Go.RowKit
theorem Blk.six {w : World} {g : Nat} {t : TypeId} {a b c d e f : Value} (h : Blk w g t #[a, b, c, d, e, f]) :
 w.cell? ⟨g, 0, none⟩ = some a ∧ w.cell? ⟨g, 1, none⟩ = some b ∧ w.cell? ⟨g, 2, none⟩ = some c ∧ w.cell? ⟨g, 3, none⟩ = some d ∧ w.cell? ⟨g, 4, none⟩ = some e ∧ w.cell? ⟨g, 5, none⟩ = some f :=
 ⟨h.cell 0, h.cell 1, h.cell 2, h.cell 3, h.cell 4, h.cell 5⟩
set_option maxHeartbeats 4000000 in
set_option maxRecDepth 100000 in
theorem termType_any (A1 A2 A3 A4 A5 A6 : Option Addr) (n1 c1 n2 c2 n3 c3 n4 c4 n5 c5 n6 c6 : Nat) (F1 F2 F3 : Option Addr) (m1 d1 m2 d2 m3 d3 : Nat) (hd : ByteArray) (sch : Int) (t : QTerm) (vars : Int) (ss : List QSchema) (fs : List QFrom) (w0 w : World) (hb0 : Below w0.heap.size w0 w) (h3 : SlR 6 qSchemaR w0 (.slice A3 n3 c3) ss) (hf : SlR 8 qFromR w0 (.slice F1 m1 d1) fs) (hv0 : 0 ≤ vars) (hv : vars ≤ m1) :
 Calls Tryz.prog 199 #[(.agg #[.slice A1 n1 c1, .slice A2 n2 c2, .slice A3 n3 c3, .slice A4 n4 c4, .slice A5 n5 c5, .slice A6 n6 c6, .string hd, .int .i64 sch, .slice F1 m1 d1, .slice F2 m2 d2, .slice F3 m3 d3]), .agg #[.string t.name, .string t.path, .int .i64 t.var, .int .i64 t.field, .int .i64 t.n], .int .i64 vars] w (RetType (termAt ss fs t vars.toNat) w0 w) := by
 have hm1 : m1 ≤ 9223372036854775807 := by have := hf.le; omega
 have H3 := Lib.hid h3
 have HF := Lib.hid hf
 have HB0 := Lib.hid hb0
 clear h3 hf hb0
 obtain ⟨nm, pa, va, fi, nn⟩ := t
 by_cases hin : 0 ≤ va ∧ va < vars
 case neg =>
  have HT : Hid (termAt ss fs ⟨nm, pa, va, fi, nn⟩ vars.toNat = none) := Lib.hid (by
   unfold termAt
   rw [if_pos (by simp only; omega)])
  rw [HT.out]
  simp only
  go_enter Tryz.func199, Tryz.ntmps199
  go_wp2_with fail
  all_goals first
   | (exfalso; omega)
   | exact bodyPost_ret (v := .tuple #[.agg #[.int .i64 0, .int .i64 0, .int .i64 0, .string ⟨#[]⟩, .int .i64 0, .slice none 0 0], .bool false]) (by simp [results, Tryz.results199, go_sem]) rfl ⟨⟨_, _, _, rfl, SlR.nil _ _ (Nat.zero_le _), by simp [zT]⟩, ((((Below.refl _ _).alloc (Nat.le_refl _) _).alloc (by simp) _).alloc (by simp; omega) _)⟩
 obtain ⟨k, rfl⟩ : ∃ k : Nat, va = k := ⟨va.toNat, by omega⟩
 obtain ⟨b, off, x, hF1, hbl, hx, e0, e1, e2, e3, e4, e5, e6, e7⟩ := qFrom_at HF.out (k := k) (by omega)
 subst hF1
 rw [← HB0.out.cell (p := ⟨b, _, none⟩) hbl] at e2
 have hbl := Nat.lt_of_lt_of_le hbl HB0.out.size
 have hk0 : (0 : Int) ≤ (k : Int) := by omega
 have hk1 : (k : Int) < (m1 : Int) := by omega
 have hk2 : (k : Int) < vars := by omega
 have HT : Hid (termAt ss fs ⟨nm, pa, k, fi, nn⟩ vars.toNat = typeAt ss x.schema fi) := Lib.hid (by
  unfold termAt
  rw [if_neg (by simp only; omega)]
  simp only [Int.toNat_natCast, hx, Option.bind_some])
 rw [HT.out]
 simp only
 clear hx e0 e1 e3 e4 e5 e6 e7 hin hv HF
 have HTA : Hid (∀ W, Below w0.heap.size w0 W → Calls Tryz.prog 131 #[(.agg #[.slice A1 n1 c1, .slice A2 n2 c2, .slice A3 n3 c3, .slice A4 n4 c4, .slice A5 n5 c5, .slice A6 n6 c6]), .int .i64 x.schema, .int .i64 fi] W (RetType (typeAt ss x.schema fi) w0 W)) := Lib.hid
  (fun W hW => typeOf_any A1 A2 A3 A4 A5 A6 n1 c1 n2 c2 n3 c3 n4 c4 n5 c5 n6 c6 x.schema fi ss w0 W hW H3.out)
 obtain ⟨o, ho⟩ : ∃ o, typeAt ss x.schema fi = o := ⟨_, rfl⟩
 rw [ho] at HTA ⊢
 clear ho
 unfold RetType at HTA ⊢
 obtain ⟨T, hT⟩ : ∃ T, o.getD zT = T := ⟨_, rfl⟩
 obtain ⟨bo, hbo⟩ : ∃ q, o.isSome = q := ⟨_, rfl⟩
 rw [hT, hbo] at HTA ⊢
 clear hT hbo
 obtain ⟨tk, tl, th, tf, tu, tn⟩ := T
 simp only at HTA ⊢
 go_enter Tryz.func199, Tryz.ntmps199
 go_wp2_with fail
 obtain ⟨wb, hwb⟩ : ∃ wq, wq = (w.alloc (.cells #[.slice A1 n1 c1, .slice A2 n2 c2, .slice A3 n3 c3, .slice A4 n4 c4, .slice A5 n5 c5, .slice A6 n6 c6, .string hd, .int .i64 sch, .slice (some ⟨b, off, none⟩) m1 d1, .slice F2 m2 d2, .slice F3 m3 d3] 112)).alloc (.cells #[.string nm, .string pa, .int .i64 k, .int .i64 fi, .int .i64 nn] 190) := ⟨_, rfl⟩
 rw [← hwb]
 have hbb : Below w.heap.size w wb := by rw [hwb]; exact (((Below.refl _ _).alloc (Nat.le_refl _) _).alloc (by simp) _)
 have kA : Blk wb w.heap.size 112 #[.slice A1 n1 c1, .slice A2 n2 c2, .slice A3 n3 c3, .slice A4 n4 c4, .slice A5 n5 c5, .slice A6 n6 c6, .string hd, .int .i64 sch, .slice (some ⟨b, off, none⟩) m1 d1, .slice F2 m2 d2, .slice F3 m3 d3] := by rw [hwb]; exact (Blk.new _ _ _).alloc _
 have kB : Blk wb (w.heap.size + 1) 190 #[.string nm, .string pa, .int .i64 k, .int .i64 fi, .int .i64 nn] := by rw [hwb]; exact blkNew (by simp)
 have hsz : wb.heap.size = w.heap.size + 2 := by rw [hwb]; simp
 have HSZ := Lib.hid hsz
 clear hsz
 obtain ⟨ga, hga⟩ : ∃ g, g = w.heap.size := ⟨_, rfl⟩
 obtain ⟨gb, hgb⟩ : ∃ g, g = w.heap.size + 1 := ⟨_, rfl⟩
 obtain ⟨gz, hgz⟩ : ∃ g, g = w.heap.size + 1 + 1 := ⟨_, rfl⟩
 rw [← hgz]
 rw [← hgb] at kB ⊢
 rw [← hga] at kA ⊢
 have HGZ : Hid (gz = wb.heap.size) := Lib.hid (by have := HSZ.out; omega)
 have a0 := kA.cell 0
 have a1 := kA.cell 1
 have a2 := kA.cell 2
 have a3 := kA.cell 3
 have a4 := kA.cell 4
 have a5 := kA.cell 5
 have a8 := kA.cell 8
 have b2 := kB.cell 2
 have b3 := kB.cell 3
 have la := kA.lt
 have lb := kB.lt
 simp only [List.getElem?_toArray, List.getElem?_cons_zero, List.getElem?_cons_succ] at a0 a1 a2 a3 a4 a5 a8 b2 b3
 rw [← hbb.cell (p := ⟨b, _, none⟩) hbl] at e2
 have lbl : b < wb.heap.size := Nat.lt_of_lt_of_le hbl hbb.size
 have HBB := Lib.hid hbb
 clear kA kB hbb hwb hga hgb hgz
 obtain ⟨wz, hwz⟩ : ∃ q, q = wb.alloc (.cells #[.int .i64 0, .int .i64 0, .int .i64 0, .string ⟨#[]⟩, .int .i64 0, .slice none 0 0] 55) := ⟨_, rfl⟩
 rw [← hwz]
 have hbz : Below wb.heap.size wb wz := by rw [hwz]; exact (Below.refl _ _).alloc (Nat.le_refl _) _
 have kZ : Blk wz gz 55 #[.int .i64 0, .int .i64 0, .int .i64 0, .string ⟨#[]⟩, .int .i64 0, .slice none 0 0] := by rw [hwz, HGZ.out]; exact Blk.new _ _ _
 have HS : Hid (∀ W, Below wb.heap.size wb W → W.cell? ⟨ga, 0, none⟩ = some (.slice A1 n1 c1) ∧ W.cell? ⟨ga, 1, none⟩ = some (.slice A2 n2 c2) ∧ W.cell? ⟨ga, 2, none⟩ = some (.slice A3 n3 c3) ∧ W.cell? ⟨ga, 3, none⟩ = some (.slice A4 n4 c4) ∧ W.cell? ⟨ga, 4, none⟩ = some (.slice A5 n5 c5) ∧ W.cell? ⟨ga, 5, none⟩ = some (.slice A6 n6 c6) ∧ W.cell? ⟨ga, 8, none⟩ = some (.slice (some ⟨b, off, none⟩) m1 d1) ∧ W.cell? ⟨gb, 2, none⟩ = some (.int .i64 k) ∧ W.cell? ⟨gb, 3, none⟩ = some (.int .i64 fi) ∧ W.cell? ⟨b, off + k * 8 + 2, none⟩ = some (.int .i64 x.schema)) := Lib.hid (fun W hW =>
  ⟨(hW.cell (p := ⟨ga, 0, none⟩) la).trans a0, (hW.cell (p := ⟨ga, 1, none⟩) la).trans a1, (hW.cell (p := ⟨ga, 2, none⟩) la).trans a2, (hW.cell (p := ⟨ga, 3, none⟩) la).trans a3, (hW.cell (p := ⟨ga, 4, none⟩) la).trans a4, (hW.cell (p := ⟨ga, 5, none⟩) la).trans a5, (hW.cell (p := ⟨ga, 8, none⟩) la).trans a8, (hW.cell (p := ⟨gb, 2, none⟩) lb).trans b2, (hW.cell (p := ⟨gb, 3, none⟩) lb).trans b3, (hW.cell (p := ⟨b, _, none⟩) lbl).trans e2⟩)
 clear a0 a1 a2 a3 a4 a5 a8 b2 b3 e2 la lb lbl
 have HGL : Hid (wb.heap.size ≤ gz) := Lib.hid (by have := HGZ.out; omega)
 have HZ := Lib.hid kZ
 have HBZ := Lib.hid hbz
 have HTY := Lib.hid ((HTA.out wz.drew (HB0.out.trans ((HBB.out.trans (hbz.mono HBB.out.size)).drew.mono HB0.out.size))).mono fun _ _ h => And.intro h.1 ((Below.refl wz.heap.size wz).drew.trans h.2))
 clear hwz hbz kZ
 go_region_held3 (fun w' => w'.cell? ⟨ga, 0, none⟩ = some (.slice A1 n1 c1) ∧ w'.cell? ⟨ga, 1, none⟩ = some (.slice A2 n2 c2) ∧ w'.cell? ⟨ga, 2, none⟩ = some (.slice A3 n3 c3) ∧ w'.cell? ⟨ga, 3, none⟩ = some (.slice A4 n4 c4) ∧ w'.cell? ⟨ga, 4, none⟩ = some (.slice A5 n5 c5) ∧ w'.cell? ⟨ga, 5, none⟩ = some (.slice A6 n6 c6) ∧ w'.cell? ⟨ga, 8, none⟩ = some (.slice (some ⟨b, off, none⟩) m1 d1) ∧ w'.cell? ⟨gb, 2, none⟩ = some (.int .i64 k) ∧ w'.cell? ⟨gb, 3, none⟩ = some (.int .i64 fi) ∧ w'.cell? ⟨b, off + k * 8 + 2, none⟩ = some (.int .i64 x.schema))
  (first | with_reducible exact HS.out _ HBZ.out | with_reducible exact HS.out _ HBZ.out.drew | with_reducible exact HS.out _ hbw3 | exact HS.out _ ((((((hbw3.setCell HGL.out _).setCell HGL.out _).setCell HGL.out _).setCell HGL.out _).setCell HGL.out _).setCell HGL.out _))
  (first
   | (go_at_call 131; refine HTY.out.mono ?_; rintro e w3 ⟨⟨B, m, d, rfl, hs⟩, hb3⟩; have kz := HZ.out.below hb3 HZ.out.lt; obtain ⟨z0, z1, z2, z3, z4, z5⟩ := kz.six; have y0 := kz.frozen 0; have y1 := kz.frozen 1; have y2 := kz.frozen 2; have y3 := kz.frozen 3; have y4 := kz.frozen 4; have y5 := kz.frozen 5; have hbw3 := HBZ.out.trans (hb3.mono HBZ.out.size); have HK3 := Lib.hid kz; have HS3 := Lib.hid hs; clear hs kz))
 go_wp2_with fail
 have kF := (((((HK3.out.put 0 (.int .i64 tk)).put 1 (.int .i64 tl)).put 2 (.int .i64 th)).put 3 (.string tf)).put 4 (.int .i64 tu)).put 5 (.slice B m d)
 simp only [List.setIfInBounds_toArray, List.set_cons_zero, List.set_cons_succ] at kF
 obtain ⟨f0, f1, f2, f3, f4, f5⟩ := kF.six
 clear z0 z1 z2 z3 z4 z5 y0 y1 y2 y3 y4 y5
 refine bodyPost_ret (v := .tuple #[.agg #[.int .i64 tk, .int .i64 tl, .int .i64 th, .string tf, .int .i64 tu, .slice B m d], .bool bo]) (by simp [results, Tryz.results199, go_sem, f0, f1, f2, f3, f4, f5]) rfl ⟨⟨_, _, _, rfl, HS3.out⟩, ?_⟩
 exact HBB.out.trans (((((((hbw3.setCell HGL.out _).setCell HGL.out _).setCell HGL.out _).setCell HGL.out _).setCell HGL.out _).setCell HGL.out _).mono HBB.out.size)
def unitIn (n : Nat) (t : QType) : Prop := t.kind = 1 → -1 ≤ t.unit ∧ t.unit < n
theorem alike_kind {us : List QUnit} {a b : QType} (h : a.kind ≠ b.kind) : alikeB us a b = false := by rw [alikeB, if_pos h]
theorem alike_names {us : List QUnit} {a b : QType} (h : a.kind = 4) (h' : b.kind = 4) : alikeB us a b = decide (a.names = b.names) := by
 rw [alikeB, if_neg (by omega), if_pos h]
theorem alike_unit {us : List QUnit} {a b : QType} (h : a.kind = b.kind) (h4 : a.kind ≠ 4) (h1 : a.kind ≠ 1 ∨ a.unit = -1 ∨ b.unit = -1) : alikeB us a b = decide (a.unit = b.unit) := by
 rw [alikeB, if_neg (by omega), if_neg h4, if_pos h1]
theorem alike_base {us : List QUnit} {a b : QType} (h : a.kind = 1) (h' : b.kind = 1) (h1 : a.unit ≠ -1) (h2 : b.unit ≠ -1) : alikeB us a b = decide (baseAt us a.unit = baseAt us b.unit) := by
 rw [alikeB, if_neg (by omega), if_neg (by omega), if_neg (by omega)]
set_option maxHeartbeats 4000000 in
set_option maxRecDepth 100000 in
theorem comparable_any (A1 A2 A3 A4 A5 A6 : Option Addr) (n1 c1 n2 c2 n3 c3 n4 c4 n5 c5 n6 c6 : Nat) (a b : QType) (B C : Option Addr) (m d k e : Nat) (us : List QUnit) (w : World) (h2 : SlR 5 qUnitR w (.slice A2 n2 c2) us) (ha : SlR 1 strR w (.slice B m d) a.names) (hb : SlR 1 strR w (.slice C k e) b.names) (hua : unitIn n2 a) (hub : unitIn n2 b) :
 Calls Tryz.prog 201 #[(.agg #[.slice A1 n1 c1, .slice A2 n2 c2, .slice A3 n3 c3, .slice A4 n4 c4, .slice A5 n5 c5, .slice A6 n6 c6]), .agg #[.int .i64 a.kind, .int .i64 a.lo, .int .i64 a.hi, .string a.of_, .int .i64 a.unit, .slice B m d], .agg #[.int .i64 b.kind, .int .i64 b.lo, .int .i64 b.hi, .string b.of_, .int .i64 b.unit, .slice C k e]] w fun e w' =>
  e = .returned (.bool (alikeB us a b)) ∧ Below w.heap.size w w' := by
 have hn2 : n2 ≤ 9223372036854775807 := by have := h2.le; omega
 have H2 := Lib.hid h2
 have HA := Lib.hid ha
 have HB := Lib.hid hb
 clear h2 ha hb
 have HW : Hid (∀ o1 o2 o3, Below w.heap.size w (((w.alloc o1).alloc o2).alloc o3)) := Lib.hid fun o1 o2 o3 => ((((Below.refl _ _).alloc (Nat.le_refl _) _).alloc (by simp) _).alloc (by simp; omega) _)
 by_cases hk : a.kind = b.kind
 case neg =>
  have hkn : (a.kind != b.kind) = true := by simpa using hk
  rw [alike_kind hk]
  clear hk
  go_enter Tryz.func201, Tryz.ntmps201
  go_wp2_with fail
  go_ret
  exact ⟨rfl, HW.out _ _ _⟩
 have hkn : (a.kind != b.kind) = false := by simpa using hk
 by_cases h4 : a.kind = 4
 ·
  have h44 : (a.kind == 4) = true := by simpa using h4
  rw [alike_names h4 (by omega)]
  obtain ⟨v, hv⟩ : ∃ v, sameL a.names b.names = v := ⟨_, rfl⟩
  have HE : Hid (decide (a.names = b.names) = v) := Lib.hid hv
  rw [HE.out]
  have HQ : Hid (∀ o1 o2 o3, Calls Tryz.prog 82 #[.slice B m d, .slice C k e] (((w.alloc o1).alloc o2).alloc o3) fun e w' => e = .returned (.bool v) ∧ Below w.heap.size w w') := Lib.hid (fun o1 o2 o3 => by
   have := equalStr_any B C m d k e a.names b.names _ (HA.out.mono strR_mono (HW.out o1 o2 o3)) (HB.out.mono strR_mono (HW.out o1 o2 o3))
   rw [hv] at this
   exact this.mono fun _ _ h => ⟨h.1, (HW.out o1 o2 o3).trans (h.2.mono (HW.out o1 o2 o3).size)⟩)
  clear hv hk h4
  go_enter Tryz.func201, Tryz.ntmps201
  go_wp2_with (go_at_call 82; refine (HQ.out _ _ _).mono ?_; rintro e w' ⟨rfl, hbq⟩)
  go_ret
  exact ⟨rfl, hbq⟩
 have h44 : (a.kind == 4) = false := by simpa using h4
 by_cases hu : a.kind ≠ 1 ∨ a.unit = -1 ∨ b.unit = -1
 ·
  rw [alike_unit hk h4 hu]
  have huu : (a.unit == b.unit) = decide (a.unit = b.unit) := by
   by_cases h : a.unit = b.unit <;> simp [h]
  rw [← huu]
  clear huu hk h4
  go_enter Tryz.func201, Tryz.ntmps201
  by_cases u1 : a.kind = 1
  ·
   have u11 : (a.kind != 1) = false := by simpa using u1
   by_cases u2 : a.unit = -1
   ·
    have u22 : (a.unit == -1) = true := by simpa using u2
    clear u1 u2 hu hua hub
    go_wp2_with fail
    go_ret
    exact ⟨rfl, HW.out _ _ _⟩
   ·
    have u22 : (a.unit == -1) = false := by simpa using u2
    have u33 : (b.unit == -1) = true := by simpa using (hu.resolve_left (by simpa using u1)).resolve_left u2
    clear u1 u2 hu hua hub
    go_wp2_with fail
    go_ret
    exact ⟨rfl, HW.out _ _ _⟩
  ·
   have u11 : (a.kind != 1) = true := by simpa using u1
   clear u1 hu hua hub
   go_wp2_with fail
   go_ret
   exact ⟨rfl, HW.out _ _ _⟩
 ·
  have u1 : a.kind = 1 := Classical.byContradiction fun h => hu (.inl h)
  have u2 : a.unit ≠ -1 := fun h => hu (.inr (.inl h))
  have u3 : b.unit ≠ -1 := fun h => hu (.inr (.inr h))
  rw [alike_base u1 (by omega) u2 u3]
  obtain ⟨x1, x2⟩ := hua u1
  obtain ⟨y1, y2⟩ := hub (by omega)
  have u11 : (a.kind != 1) = false := by simpa using u1
  have u22 : (a.unit == -1) = false := by simpa using u2
  have u33 : (b.unit == -1) = false := by simpa using u3
  obtain ⟨i, hi⟩ : ∃ i : Nat, a.unit = i := ⟨a.unit.toNat, by omega⟩
  obtain ⟨j, hj⟩ : ∃ j : Nat, b.unit = j := ⟨b.unit.toNat, by omega⟩
  obtain ⟨g1, o1, p, hp, l1, hx, _, _, _, e1, _⟩ := qUnit_at H2.out (k := i) (by omega)
  obtain ⟨g2, o2, q, hq, l2, hy, _, _, _, e2, _⟩ := qUnit_at H2.out (k := j) (by omega)
  subst hp
  injection hq with hq
  injection hq with hq1 hq2
  subst hq1 hq2
  have hba : baseAt us a.unit = p.base := by rw [baseAt, hi, Int.toNat_natCast, hx]; rfl
  have hbb : baseAt us b.unit = q.base := by rw [baseAt, hj, Int.toNat_natCast, hy]; rfl
  rw [hba, hbb]
  have huu : (p.base == q.base) = decide (p.base = q.base) := by
   by_cases h : p.base = q.base <;> simp [h]
  rw [← huu]
  have hi0 : (0 : Int) ≤ (i : Int) := by omega
  have hin : (i : Int) < (n2 : Int) := by omega
  have hj0 : (0 : Int) ≤ (j : Int) := by omega
  have hjn : (j : Int) < (n2 : Int) := by omega
  rw [hi] at u22 ⊢
  rw [hj] at u33 ⊢
  clear huu hba hbb hx hy x1 x2 y1 y2 hi hj u1 u2 u3 hu hk h4 hua hub
  go_enter Tryz.func201, Tryz.ntmps201
  go_wp2_with fail
  obtain ⟨wb, hwb⟩ : ∃ wq, wq = ((w.alloc (.cells #[.slice A1 n1 c1, .slice (some ⟨g1, o1, none⟩) n2 c2, .slice A3 n3 c3, .slice A4 n4 c4, .slice A5 n5 c5, .slice A6 n6 c6] 110)).alloc (.cells #[.int .i64 a.kind, .int .i64 a.lo, .int .i64 a.hi, .string a.of_, .int .i64 i, .slice B m d] 55)).alloc (.cells #[.int .i64 b.kind, .int .i64 b.lo, .int .i64 b.hi, .string b.of_, .int .i64 j, .slice C k e] 55) := ⟨_, rfl⟩
  rw [← hwb]
  have hbb : Below w.heap.size w wb := by rw [hwb]; exact HW.out _ _ _
  have kA : Blk wb w.heap.size 110 #[.slice A1 n1 c1, .slice (some ⟨g1, o1, none⟩) n2 c2, .slice A3 n3 c3, .slice A4 n4 c4, .slice A5 n5 c5, .slice A6 n6 c6] := by rw [hwb]; exact ((Blk.new _ _ _).alloc _).alloc _
  have kB : Blk wb (w.heap.size + 1) 55 #[.int .i64 a.kind, .int .i64 a.lo, .int .i64 a.hi, .string a.of_, .int .i64 i, .slice B m d] := by rw [hwb]; exact (blkNew (by simp)).alloc _
  have kC : Blk wb (w.heap.size + 1 + 1) 55 #[.int .i64 b.kind, .int .i64 b.lo, .int .i64 b.hi, .string b.of_, .int .i64 j, .slice C k e] := by rw [hwb]; exact blkNew (by simp)
  have q1 := kA.cell 1
  have q4 := kB.cell 4
  have r4 := kC.cell 4
  simp only [List.getElem?_toArray, List.getElem?_cons_zero, List.getElem?_cons_succ] at q1 q4 r4
  rw [← hbb.cell (p := ⟨g1, _, none⟩) l1] at e1 e2
  have HBB := Lib.hid hbb
  clear hwb hbb kA kB kC HW
  go_quiet (fail)
  go_wp2_with fail
  go_ret
  exact ⟨rfl, below_drewN HBB.out _⟩
theorem Blk.five {w : World} {g : Nat} {t : TypeId} {a b c d e : Value} (h : Blk w g t #[a, b, c, d, e]) :
 w.cell? ⟨g, 0, none⟩ = some a ∧ w.cell? ⟨g, 1, none⟩ = some b ∧ w.cell? ⟨g, 2, none⟩ = some c ∧ w.cell? ⟨g, 3, none⟩ = some d ∧ w.cell? ⟨g, 4, none⟩ = some e :=
 ⟨h.cell 0, h.cell 1, h.cell 2, h.cell 3, h.cell 4⟩
theorem Blk.eleven {w : World} {g : Nat} {t : TypeId} {a b c d e f a' b' c' d' e' : Value} (h : Blk w g t #[a, b, c, d, e, f, a', b', c', d', e']) :
 w.cell? ⟨g, 0, none⟩ = some a ∧ w.cell? ⟨g, 1, none⟩ = some b ∧ w.cell? ⟨g, 2, none⟩ = some c ∧ w.cell? ⟨g, 3, none⟩ = some d ∧ w.cell? ⟨g, 4, none⟩ = some e ∧ w.cell? ⟨g, 5, none⟩ = some f ∧ w.cell? ⟨g, 6, none⟩ = some a' ∧ w.cell? ⟨g, 7, none⟩ = some b' ∧ w.cell? ⟨g, 8, none⟩ = some c' ∧ w.cell? ⟨g, 9, none⟩ = some d' ∧ w.cell? ⟨g, 10, none⟩ = some e' :=
 ⟨h.cell 0, h.cell 1, h.cell 2, h.cell 3, h.cell 4, h.cell 5, h.cell 6, h.cell 7, h.cell 8, h.cell 9, h.cell 10⟩
theorem alloc2_blk (w : World) (o1 o2 : Obj) {t : TypeId} {cs : Array Value} : Blk (((w.alloc o1).alloc o2).alloc (.cells cs t)) (w.heap.size + 1 + 1) t cs := blkNew (by simp)
set_option maxHeartbeats 8000000 in
set_option maxRecDepth 100000 in
theorem setOK_any (A1 A2 A3 A4 A5 A6 : Option Addr) (n1 c1 n2 c2 n3 c3 n4 c4 n5 c5 n6 c6 : Nat) (F1 F2 F3 : Option Addr) (m1 d1 m2 d2 m3 d3 : Nat) (hd : ByteArray) (sch : Int) (f : QType) (t : QTerm) (B : Option Addr) (m d : Nat) (ss : List QSchema) (fs : List QFrom) (w0 w : World) (hb0 : Below w0.heap.size w0 w) (h3 : SlR 6 qSchemaR w0 (.slice A3 n3 c3) ss) (hf : SlR 8 qFromR w0 (.slice F1 m1 d1) fs) (hn : SlB 1 16 strR w0 (.slice B m d) f.names) :
 Calls Tryz.prog 132 #[(.agg #[.slice A1 n1 c1, .slice A2 n2 c2, .slice A3 n3 c3, .slice A4 n4 c4, .slice A5 n5 c5, .slice A6 n6 c6, .string hd, .int .i64 sch, .slice F1 m1 d1, .slice F2 m2 d2, .slice F3 m3 d3]), .agg #[.int .i64 f.kind, .int .i64 f.lo, .int .i64 f.hi, .string f.of_, .int .i64 f.unit, .slice B m d], .agg #[.string t.name, .string t.path, .int .i64 t.var, .int .i64 t.field, .int .i64 t.n]] w fun e w' =>
  e = .returned (.bool (setOK ss fs f t)) ∧ Below w.heap.size w w' := by
 have hm1 : m1 ≤ 9223372036854775807 := by have := hf.le; omega
 obtain ⟨wb, hwb⟩ : ∃ wb, wb = ((w.alloc (.cells #[.slice A1 n1 c1, .slice A2 n2 c2, .slice A3 n3 c3, .slice A4 n4 c4, .slice A5 n5 c5, .slice A6 n6 c6, .string hd, .int .i64 sch, .slice F1 m1 d1, .slice F2 m2 d2, .slice F3 m3 d3] 112)).alloc (.cells #[.int .i64 f.kind, .int .i64 f.lo, .int .i64 f.hi, .string f.of_, .int .i64 f.unit, .slice B m d] 55)).alloc (.cells #[.string t.name, .string t.path, .int .i64 t.var, .int .i64 t.field, .int .i64 t.n] 190) := ⟨_, rfl⟩
 have hbb : Below w.heap.size w wb := by rw [hwb]; exact ((((Below.refl _ _).alloc (Nat.le_refl _) _).alloc (by simp) _).alloc (by simp; omega) _)
 have kA : Blk wb w.heap.size 112 #[.slice A1 n1 c1, .slice A2 n2 c2, .slice A3 n3 c3, .slice A4 n4 c4, .slice A5 n5 c5, .slice A6 n6 c6, .string hd, .int .i64 sch, .slice F1 m1 d1, .slice F2 m2 d2, .slice F3 m3 d3] := by rw [hwb]; exact ((Blk.new _ _ _).alloc _).alloc _
 have kB : Blk wb (w.heap.size + 1) 55 #[.int .i64 f.kind, .int .i64 f.lo, .int .i64 f.hi, .string f.of_, .int .i64 f.unit, .slice B m d] := by rw [hwb]; exact (blkNew (by simp)).alloc _
 have kC : Blk wb (w.heap.size + 1 + 1) 190 #[.string t.name, .string t.path, .int .i64 t.var, .int .i64 t.field, .int .i64 t.n] := by rw [hwb]; exact alloc2_blk _ _ _
 have HTT : Hid (∀ W, Below w0.heap.size w0 W → Calls Tryz.prog 199 #[(.agg #[.slice A1 n1 c1, .slice A2 n2 c2, .slice A3 n3 c3, .slice A4 n4 c4, .slice A5 n5 c5, .slice A6 n6 c6, .string hd, .int .i64 sch, .slice F1 m1 d1, .slice F2 m2 d2, .slice F3 m3 d3]), .agg #[.string t.name, .string t.path, .int .i64 t.var, .int .i64 t.field, .int .i64 t.n], .int .i64 m1] W (RetType (termAt ss fs t fs.length) w0 W)) := Lib.hid (fun W hW => by
  have := termType_any A1 A2 A3 A4 A5 A6 n1 c1 n2 c2 n3 c3 n4 c4 n5 c5 n6 c6 F1 F2 F3 m1 d1 m2 d2 m3 d3 hd sch t m1 ss fs w0 W hW h3 hf (by omega) (by omega)
  rw [Int.toNat_natCast] at this
  rw [← hf.len]
  exact this)
 have HN := Lib.hid hn
 have HNU : Hid (Calls Tryz.prog 200 #[.agg #[.string t.name, .string t.path, .int .i64 t.var, .int .i64 t.field, .int .i64 t.n]] wb fun e w' => e = .returned (.bool (isNum t)) ∧ Below wb.heap.size wb w') := Lib.hid (isNumber_any t wb)
 have HB0 := Lib.hid hb0
 have HA := Lib.hid kA
 have HB := Lib.hid kB
 have HC := Lib.hid kC
 have HBB := Lib.hid hbb
 have HWB := Lib.hid hwb
 clear hf h3 hn hb0 kA kB kC hbb hwb
 obtain ⟨o, ho⟩ : ∃ o, termAt ss fs t fs.length = o := ⟨_, rfl⟩
 obtain ⟨v, hv⟩ : ∃ v, isNum t = v := ⟨_, rfl⟩
 have HS : Hid (setOK ss fs f t = if v then decide (f.lo ≤ t.n) && decide (t.n ≤ f.hi) else o.any fun y => decide (y.kind = f.kind) && decide (y.unit = f.unit) && decide (y.names = f.names) && decide (f.lo ≤ y.lo) && decide (y.lo ≤ f.hi) && decide (f.lo ≤ y.hi) && decide (y.hi ≤ f.hi)) := Lib.hid (by rw [setOK, ho, hv])
 rw [ho] at HTT
 rw [hv] at HNU
 rw [HS.out]
 clear ho hv HS
 have c0 := (HC.out.five).1
 have c1 := (HC.out.five).2.1
 have c2 := (HC.out.five).2.2.1
 have c3 := (HC.out.five).2.2.2.1
 have c4 := (HC.out.five).2.2.2.2
 have lA := HA.out.lt
 have lB := HB.out.lt
 have lC := HC.out.lt
 obtain ⟨ga, hga⟩ : ∃ g, g = w.heap.size := ⟨_, rfl⟩
 obtain ⟨gb, hgb⟩ : ∃ g, g = w.heap.size + 1 := ⟨_, rfl⟩
 obtain ⟨gc, hgc⟩ : ∃ g, g = w.heap.size + 1 + 1 := ⟨_, rfl⟩
 go_enter Tryz.func132, Tryz.ntmps132
 go_upto_region 1 with fail
 rw [← HWB.out, ← hgc, ← hgb, ← hga]
 rw [← hgc] at HC c0 c1 c2 c3 c4 lC
 rw [← hgb] at HB lB
 rw [← hga] at HA lA
 clear hga hgb hgc HWB
 go_wp2_with (go_at_call 200; refine HNU.out.mono ?_; clear HNU)
 rintro e w1 ⟨rfl, hb1⟩
 have HB1 := Lib.hid (HBB.out.trans (hb1.mono HBB.out.size))
 obtain ⟨b0, b1, b2, b3, b4, b5⟩ := (HB.out.below hb1 lB).six
 obtain ⟨a0, a1, a2, a3, a4, a5, a6, a7, a8, a9, a10⟩ := (HA.out.below hb1 lA).eleven
 obtain ⟨c0, c1, c2, c3, c4⟩ := (HC.out.below hb1 lC).five
 have lA1 := Nat.lt_of_lt_of_le lA hb1.size
 have lB1 := Nat.lt_of_lt_of_le lB hb1.size
 have lC1 := Nat.lt_of_lt_of_le lC hb1.size
 have kB1 := Lib.hid (HB.out.below hb1 lB)
 clear hb1 lA lB lC HA HB HC
 cases v with
 |
  true =>
  clear HTT HN kB1 a0 a1 a2 a3 a4 a5 a6 a7 a8 a9 a10
  go_wp2_with fail
  all_goals
   go_ret
   refine ⟨ret_bool ?_, HB1.out⟩
   go_light
   first
    | rfl
    | (simp_all; done)
    | (simp_all; omega)
 |
  false =>
  have HT := Lib.hid (HTT.out w1 (HB0.out.trans (HB1.out.mono HB0.out.size)))
  clear HTT
  cases o with
  |
   none =>
   go_wp2_with (go_at_call 199; refine HT.out.mono ?_; clear HT; rintro e w2 ⟨⟨B', m', d', rfl, hs⟩, hb2⟩; have HB2 := Lib.hid (HB1.out.trans (hb2.mono HB1.out.size)); clear hs hb2 b0 b1 b2 b3 b4 b5 a0 a1 a2 a3 a4 a5 a6 a7 a8 a9 a10 c0 c1 c2 c3 c4; simp only [Option.isSome_none])
   go_ret
   exact ⟨rfl, HB2.out.alloc HB2.out.size _⟩
  |
   some y =>
   obtain ⟨yk, yl, yh, yf, yu, yn⟩ := y
   go_wp2_with (go_at_call 199; refine HT.out.mono ?_; clear HT)
   rintro e w2 ⟨⟨B', m', d', rfl, hs⟩, hb2⟩
   have HS := Lib.hid hs
   have HB2 := Lib.hid (HB1.out.trans (hb2.mono HB1.out.size))
   have HKB := Lib.hid (kB1.out.below hb2 lB1)
   obtain ⟨b0, b1, b2, b3, b4, b5⟩ := HKB.out.six
   have lB2 := Nat.lt_of_lt_of_le lB1 hb2.size
   clear hs hb2 kB1 a0 a1 a2 a3 a4 a5 a6 a7 a8 a9 a10 c0 c1 c2 c3 c4 lA1 lC1 lB1
   simp only [Option.getD_some, Option.isSome_some]
   simp only [Option.getD_some] at HS
   obtain ⟨v, hv⟩ : ∃ v, sameL yn f.names = v := ⟨_, rfl⟩
   have HV : Hid (decide (yn = f.names) = v) := Lib.hid hv
   have HEQ : Hid (∀ o, Calls Tryz.prog 82 #[.slice B' m' d', .slice B m d] (w2.alloc o) fun e w' => e = .returned (.bool v) ∧ Below (w2.alloc o).heap.size (w2.alloc o) w') := Lib.hid (fun o => by
    have hba := HB0.out.trans ((HB2.out.alloc HB2.out.size o).mono HB0.out.size)
    have := equalStr_any B' B m' d' m d yn f.names (w2.alloc o) (HS.out.1.mono strR_mono hba) (HN.out.1.mono strR_mono hba)
    rw [hv] at this
    exact this)
   clear hv
   have HZK : Hid (∀ W, Below (w2.alloc (.cells #[.int .i64 yk, .int .i64 yl, .int .i64 yh, .string yf, .int .i64 yu, .slice B' m' d'] 55)).heap.size (w2.alloc (.cells #[.int .i64 yk, .int .i64 yl, .int .i64 yh, .string yf, .int .i64 yu, .slice B' m' d'] 55)) W → Blk W w2.heap.size 55 #[.int .i64 yk, .int .i64 yl, .int .i64 yh, .string yf, .int .i64 yu, .slice B' m' d']) := Lib.hid (fun W h => (Blk.new w2 _ _).below h (by simp))
   cases e1 : (yk == f.kind) with
   |
    false =>
    go_wp2_with fail
    go_ret
    refine ⟨ret_bool ?_, HB2.out.alloc HB2.out.size _⟩
    go_light
    simp_all
   |
    true =>
    cases e2 : (yu == f.unit) with
    |
     false =>
     go_wp2_with fail
     go_ret
     refine ⟨ret_bool ?_, HB2.out.alloc HB2.out.size _⟩
     go_light
     simp_all
    |
     true =>
     go_wp2_with (go_at_call 82; refine (HEQ.out _).mono ?_; clear HEQ; rintro e w3 ⟨rfl, hb3⟩; have HB3 := Lib.hid ((HB2.out.alloc HB2.out.size _).trans (hb3.mono (by have := HB2.out.size; simp; omega))); obtain ⟨b0, b1, b2, b3, b4, b5⟩ := ((HKB.out.alloc _).below hb3 (by simp; omega)).six; have kz : Blk w3 w2.heap.size 55 _ := HZK.out w3 hb3; obtain ⟨z0, z1, z2, z3, z4, z5⟩ := kz.six; have lz : w2.heap.size < w3.heap.size := Nat.lt_of_lt_of_le (by simp) hb3.size; have lB3 : gb < w3.heap.size := Nat.lt_of_lt_of_le (by simp; omega) hb3.size; clear kz hb3)
     all_goals
      go_ret
      refine ⟨ret_bool ?_, HB3.out⟩
      have hV := HV.out
      go_light
      first
       | (simp_all; done)
       | (simp_all; omega)
def fromsAll (ss : List QSchema) (fs : List QFrom) (k : Nat) : Bool := (List.range k).all fun i => (fs[i]?).any fun f => fromOK ss fs i f
theorem fromsAll_succ {ss : List QSchema} {fs : List QFrom} {k : Nat} {x : QFrom} (h : fs[k]? = some x) : fromsAll ss fs (k + 1) = (fromsAll ss fs k && fromOK ss fs k x) := by
 simp [fromsAll, List.range_succ, h]
theorem fromsAll_no {ss : List QSchema} {fs : List QFrom} {k : Nat} {x : QFrom} (h : fs[k]? = some x) (hx : fromOK ss fs k x = false) : fromsOK ss fs = false := by
 have hk := (List.getElem?_eq_some_iff.1 h).1
 have : fromsAll ss fs fs.length = false := by
  rw [fromsAll, List.all_eq_false]
  exact ⟨k, by simpa using hk, by rw [h]; simp [hx]⟩
 rw [fromsOK]
 unfold fromsAll at this
 rw [this]
 simp
theorem fromOK_s {ss : List QSchema} {fs : List QFrom} {k : Nat} {x : QFrom} (h : ¬ (0 ≤ x.schema ∧ x.schema < ss.length)) : fromOK ss fs k x = false := by
 rw [fromOK]
 have : (decide (0 ≤ x.schema) && decide (x.schema < ss.length)) = false := by
  simp only [Bool.and_eq_false_iff, decide_eq_false_iff_not]
  omega
 rw [this]; rfl
theorem fromOK_v {ss : List QSchema} {fs : List QFrom} {k : Nat} {x : QFrom} (h : 0 ≤ x.schema ∧ x.schema < ss.length) (hv : x.of_.var = -1) : fromOK ss fs k x = true := by
 rw [fromOK, decide_eq_true h.1, decide_eq_true h.2, decide_eq_true hv]; rfl
theorem fromOK_t {ss : List QSchema} {fs : List QFrom} {k : Nat} {x : QFrom} (h : 0 ≤ x.schema ∧ x.schema < ss.length) (hv : x.of_.var ≠ -1) : fromOK ss fs k x = (termAt ss fs x.of_ k).any fun t => decide (t.kind = 3) := by
 rw [fromOK, decide_eq_true h.1, decide_eq_true h.2, decide_eq_false hv]; rfl
set_option maxHeartbeats 8000000 in
set_option maxRecDepth 100000 in
theorem fromsOK_any (A1 A2 A3 A4 A5 A6 : Option Addr) (n1 c1 n2 c2 n3 c3 n4 c4 n5 c5 n6 c6 : Nat) (F1 F2 F3 : Option Addr) (m1 d1 m2 d2 m3 d3 : Nat) (hd : ByteArray) (sch : Int) (ss : List QSchema) (fs : List QFrom) (w0 w : World) (hb0 : Below w0.heap.size w0 w) (h3 : SlR 6 qSchemaR w0 (.slice A3 n3 c3) ss) (hf : SlR 8 qFromR w0 (.slice F1 m1 d1) fs) :
 Calls Tryz.prog 129 #[(.agg #[.slice A1 n1 c1, .slice A2 n2 c2, .slice A3 n3 c3, .slice A4 n4 c4, .slice A5 n5 c5, .slice A6 n6 c6, .string hd, .int .i64 sch, .slice F1 m1 d1, .slice F2 m2 d2, .slice F3 m3 d3])] w fun e w' => e = .returned (.bool (fromsOK ss fs)) ∧ Below w.heap.size w w' := by
 have hm1 : m1 ≤ 9223372036854775807 := by have := hf.le; omega
 have hn3 : n3 ≤ 9223372036854775807 := by have := h3.le; omega
 have HLN := Lib.hid h3.len
 have HLF := Lib.hid hf.len
 have HTT : Hid (∀ (t : QTerm) (k : Nat) W, k ≤ m1 → Below w0.heap.size w0 W → Calls Tryz.prog 199 #[(.agg #[.slice A1 n1 c1, .slice A2 n2 c2, .slice A3 n3 c3, .slice A4 n4 c4, .slice A5 n5 c5, .slice A6 n6 c6, .string hd, .int .i64 sch, .slice F1 m1 d1, .slice F2 m2 d2, .slice F3 m3 d3]), .agg #[.string t.name, .string t.path, .int .i64 t.var, .int .i64 t.field, .int .i64 t.n], .int .i64 k] W (RetType (termAt ss fs t k) w0 W)) := Lib.hid (fun t k W hk hW => by
  have := termType_any A1 A2 A3 A4 A5 A6 n1 c1 n2 c2 n3 c3 n4 c4 n5 c5 n6 c6 F1 F2 F3 m1 d1 m2 d2 m3 d3 hd sch t k ss fs w0 W hW h3 hf (by omega) (by omega)
  rwa [Int.toNat_natCast] at this)
 have HF := Lib.hid hf
 have HB0 := Lib.hid hb0
 clear hf h3 hb0
 by_cases hin : 1 ≤ m1 ∧ m1 ≤ 3
 case neg =>
  have HE : Hid (fromsOK ss fs = false) := Lib.hid (by
   rw [fromsOK, ← HLF.out]
   have : (decide (1 ≤ m1) && decide (m1 ≤ 3)) = false := by
    simp only [Bool.and_eq_false_iff, decide_eq_false_iff_not]
    omega
   rw [this]; rfl)
  rw [HE.out]
  go_enter Tryz.func129, Tryz.ntmps129
  go_wp2_with fail
  all_goals first
   | (exfalso; omega)
   | (go_ret; exact ⟨rfl, (Below.refl _ _).alloc (Nat.le_refl _) _⟩)
 obtain ⟨hlo, hhi⟩ := hin
 have HE : Hid (fromsOK ss fs = fromsAll ss fs m1) := Lib.hid (by
  rw [fromsOK, ← HLF.out, decide_eq_true hlo, decide_eq_true hhi]; rfl)
 have hlo' : decide (m1 < 1) = false := decide_eq_false (by omega)
 have hhi' : decide (3 < m1) = false := decide_eq_false (by omega)
 have hlz : ¬ ((m1 : Int) < 1) := by omega
 have hhz : ¬ ((3 : Int) < (m1 : Int)) := by omega
 obtain ⟨w1, hw1⟩ : ∃ w1, w1 = w.alloc (.cells #[.slice A1 n1 c1, .slice A2 n2 c2, .slice A3 n3 c3, .slice A4 n4 c4, .slice A5 n5 c5, .slice A6 n6 c6, .string hd, .int .i64 sch, .slice F1 m1 d1, .slice F2 m2 d2, .slice F3 m3 d3] 112) := ⟨_, rfl⟩
 have hb1 : Below w.heap.size w w1 := by rw [hw1]; exact (Below.refl _ _).alloc (Nat.le_refl _) _
 have kA : Blk w1 w.heap.size 112 #[.slice A1 n1 c1, .slice A2 n2 c2, .slice A3 n3 c3, .slice A4 n4 c4, .slice A5 n5 c5, .slice A6 n6 c6, .string hd, .int .i64 sch, .slice F1 m1 d1, .slice F2 m2 d2, .slice F3 m3 d3] := by rw [hw1]; exact Blk.new _ _ _
 obtain ⟨ga, hga⟩ : ∃ g, g = w.heap.size := ⟨_, rfl⟩
 rw [← hga] at kA
 have a8 := kA.eleven.2.2.2.2.2.2.2.2.1
 have HA := Lib.hid kA
 have HB1 := Lib.hid hb1
 have HW1 := Lib.hid hw1
 have lA := kA.lt
 go_enter Tryz.func129, Tryz.ntmps129
 go_upto_region 1 with fail
 rw [← HW1.out, ← hga]
 clear hw1 HW1 hga kA hb1
 go_wp2_with fail
 clear a8 hlo' hhi' hlz hhz
 go_loopg [23] m1 (fun q i wr => ∃ k : Nat, k ≤ m1 ∧ q = m1 - k ∧ i = .int .i64 k ∧ fromsAll ss fs k = true ∧ Below w1.heap.size w1 wr)
 case atStart => exact ⟨0, Nat.zero_le _, rfl, rfl, rfl, Below.refl _ _⟩
 case round =>
  obtain ⟨k, hk, hq, rfl, hall, hb⟩ := hrel
  have HQ := Lib.hid hq
  have HALL := Lib.hid hall
  have HB := Lib.hid hb
  clear hq hall hb
  by_cases hlt : k < m1
  case neg =>
   obtain rfl : k = m1 := by omega
   go_wp2_with fail
   go_ret
   rw [HE.out, HALL.out]
   exact ⟨rfl, HB1.out.trans (HB.out.mono HB1.out.size)⟩
  obtain ⟨b, off, x, hF1, hbl, hx, e0, e1, e2, e3, e4, e5, e6, e7⟩ := qFrom_at HF.out hlt
  subst hF1
  have hbw : Below w0.heap.size w0 wr := HB0.out.trans ((HB1.out.trans (HB.out.mono HB1.out.size)).mono HB0.out.size)
  rw [← hbw.cell (p := ⟨b, _, none⟩) hbl] at e0 e1 e2 e3 e4 e5 e6 e7
  have hblw : b < wr.heap.size := Nat.lt_of_lt_of_le hbl hbw.size
  obtain ⟨a0, a1, a2, a3, a4, a5, a6, a7, a8, a9, a10⟩ := (HA.out.below HB.out lA).eleven
  have lAr : ga < wr.heap.size := Nat.lt_of_lt_of_le lA HB.out.size
  have hk0 : (0 : Int) ≤ (k : Int) := by omega
  have hk1 : (k : Int) < (m1 : Int) := by omega
  have HX := Lib.hid hx
  have HBW := Lib.hid hbw
  clear hx hbw
  by_cases hs : 0 ≤ x.schema ∧ x.schema < n3
  case neg =>
   have HN : Hid (fromsOK ss fs = false) := Lib.hid (fromsAll_no HX.out (fromOK_s (by rw [← HLN.out]; exact hs)))
   go_wp2_with fail
   all_goals first
    | (exfalso; omega)
    | (go_ret; exact ⟨ret_bool HN.out.symm, HB1.out.trans ((HB.out.alloc HB.out.size _).mono HB1.out.size)⟩)
  obtain ⟨hs0, hs1⟩ := hs
  have HSS : Hid (0 ≤ x.schema ∧ x.schema < ss.length) := Lib.hid ⟨hs0, by rw [← HLN.out]; exact hs1⟩
  by_cases hv : x.of_.var = -1
  ·
   have hvb : (x.of_.var == -1) = true := by simpa using hv
   have HOK := Lib.hid (fromOK_v (fs := fs) (k := k) HSS.out hv)
   clear hv
   go_wp2_with fail
   go_roundg (m1 - (k + 1))
   case measure => have := HQ.out; omega
   case rel => exact ⟨k + 1, by omega, rfl, by go_num, by rw [fromsAll_succ HX.out, HALL.out, HOK.out]; rfl, HB.out.alloc HB.out.size _⟩
  have hvb : (x.of_.var == -1) = false := by simpa using hv
  have HOK := Lib.hid (fromOK_t (fs := fs) (k := k) HSS.out hv)
  clear hv
  have HT := Lib.hid (fun o => HTT.out x.of_ k (wr.alloc o) hk (HBW.out.alloc HBW.out.size o))
  obtain ⟨o, ho⟩ : ∃ o, termAt ss fs x.of_ k = o := ⟨_, rfl⟩
  rw [ho] at HT HOK
  clear ho
  cases o with
  |
   none =>
   have HN : Hid (fromsOK ss fs = false) := Lib.hid (fromsAll_no HX.out HOK.out)
   go_wp2_with (go_at_call 199; refine (HT.out _).mono ?_; clear HT; rintro e w2 ⟨⟨B, m, d, rfl, hs⟩, hb2⟩; have HB2 := Lib.hid ((HB.out.alloc HB.out.size _).trans (hb2.mono (by have := HB.out.size; simp; omega))); clear hs hb2)
   go_ret
   exact ⟨ret_bool HN.out.symm, HB1.out.trans ((HB2.out.alloc HB2.out.size _).mono HB1.out.size)⟩
  |
   some y =>
   obtain ⟨yk, yl, yh, yf, yu, yn⟩ := y
   by_cases h3 : yk = 3
   ·
    subst h3
    go_wp2_with (go_at_call 199; refine (HT.out _).mono ?_; clear HT; rintro e w2 ⟨⟨B, m, d, rfl, hs⟩, hb2⟩; have HB2 := Lib.hid ((HB.out.alloc HB.out.size _).trans (hb2.mono (by have := HB.out.size; simp; omega))); clear hs hb2; simp only [Option.getD_some, Option.isSome_some])
    go_roundg (m1 - (k + 1))
    case measure => have := HQ.out; omega
    case rel => exact ⟨k + 1, by omega, rfl, by go_num, by rw [fromsAll_succ HX.out, HALL.out, HOK.out]; rfl, HB2.out.alloc HB2.out.size _⟩
   ·
    have h3b : (yk != 3) = true := by simpa using h3
    have HN : Hid (fromsOK ss fs = false) := Lib.hid (fromsAll_no HX.out (by rw [HOK.out]; simpa using h3))
    clear h3
    go_wp2_with (go_at_call 199; refine (HT.out _).mono ?_; clear HT; rintro e w2 ⟨⟨B, m, d, rfl, hs⟩, hb2⟩; have HB2 := Lib.hid ((HB.out.alloc HB.out.size _).trans (hb2.mono (by have := HB.out.size; simp; omega))); clear hs hb2; simp only [Option.getD_some, Option.isSome_some])
    go_ret
    exact ⟨ret_bool HN.out.symm, HB1.out.trans ((HB2.out.alloc HB2.out.size _).mono HB1.out.size)⟩
end Go.Proofs.YtkgmonplcdnnbaaGreat
