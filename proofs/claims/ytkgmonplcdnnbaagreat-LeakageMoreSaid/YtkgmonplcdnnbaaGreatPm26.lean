/- Contract of names.gather. -/
import Derived.Test.YtkgmonplcdnnbaaGreatPm18
import Derived.Test.YtkgmonplcdnnbaaGreatPm25
import Derived.Test.YtkgmonplcdnnbaaGreatPm21
import Derived.Deep.DeepCutAuto
import Derived.OneCell
namespace Go.Proofs.YtkgmonplcdnnbaaGreat
open Go.RowKit
structure GaW (w : World) (sc : Array Value) (v1 v2 v3 v4 : Value) (W : World) : Prop where
 old : Below w.heap.size w W
 bs : Blk W w.heap.size 29 sc
 br : Blk W (w.heap.size + 1) 182 #[v1, v2, v3, v4]
section
variable {w : World} {sc : Array Value} {v1 v2 v3 v4 : Value} {W W' : World}
theorem GaW.below (h : GaW w sc v1 v2 v3 v4 W) (hb : Below W.heap.size W W') : GaW w sc v1 v2 v3 v4 W' :=
 ⟨h.old.trans (hb.mono h.old.size), h.bs.below hb h.bs.lt, h.br.below hb h.br.lt⟩
theorem GaW.put1 (h : GaW w sc v1 v2 v3 v4 W) (x : Value) : GaW w sc x v2 v3 v4 (W.setCell ⟨w.heap.size + 1, 0, none⟩ x) := ⟨h.old.setCell (by simp) _, h.bs.far (by simp) _, h.br.put 0 x⟩
theorem GaW.put2 (h : GaW w sc v1 v2 v3 v4 W) (x : Value) : GaW w sc v1 x v3 v4 (W.setCell ⟨w.heap.size + 1, 1, none⟩ x) := ⟨h.old.setCell (by simp) _, h.bs.far (by simp) _, h.br.put 1 x⟩
theorem GaW.put3 (h : GaW w sc v1 v2 v3 v4 W) (x : Value) : GaW w sc v1 v2 x v4 (W.setCell ⟨w.heap.size + 1, 2, none⟩ x) := ⟨h.old.setCell (by simp) _, h.bs.far (by simp) _, h.br.put 2 x⟩
theorem GaW.put4 (h : GaW w sc v1 v2 v3 v4 W) (x : Value) : GaW w sc v1 v2 v3 x (W.setCell ⟨w.heap.size + 1, 3, none⟩ x) := ⟨h.old.setCell (by simp) _, h.bs.far (by simp) _, h.br.put 3 x⟩
theorem GaW.grown {row : Option Nat} (h : GaW w sc v1 v2 v3 v4 W) (hg : W.grownBy W' row) (hr : ∀ r, row = some r → w.heap.size + 2 ≤ r) : GaW w sc v1 v2 v3 v4 W' :=
 ⟨h.old.grown hg h.old.size (fun k e => by have := hr k e; omega), h.bs.grown hg (fun e => by have := hr _ e.symm; omega), h.br.grown hg (fun e => by have := hr _ e.symm; omega)⟩
theorem GaW.cells {s0 s1 s2 s3 s4 s5 : Value} (h : GaW w #[s0, s1, s2, s3, s4, s5] v1 v2 v3 v4 W) :
 W.cell? ⟨w.heap.size, 0, none⟩ = some s0 ∧ W.cell? ⟨w.heap.size, 1, none⟩ = some s1 ∧ W.cell? ⟨w.heap.size, 2, none⟩ = some s2 ∧ W.cell? ⟨w.heap.size, 3, none⟩ = some s3 ∧ W.cell? ⟨w.heap.size, 4, none⟩ = some s4 ∧ W.cell? ⟨w.heap.size, 5, none⟩ = some s5 ∧
 W.cell? ⟨w.heap.size + 1, 0, none⟩ = some v1 ∧ W.cell? ⟨w.heap.size + 1, 1, none⟩ = some v2 ∧ W.cell? ⟨w.heap.size + 1, 2, none⟩ = some v3 ∧ W.cell? ⟨w.heap.size + 1, 3, none⟩ = some v4 ∧
 W.frozen? ⟨w.heap.size + 1, 0, none⟩ = false ∧ W.frozen? ⟨w.heap.size + 1, 1, none⟩ = false ∧ W.frozen? ⟨w.heap.size + 1, 2, none⟩ = false ∧ W.frozen? ⟨w.heap.size + 1, 3, none⟩ = false ∧ w.heap.size + 1 < W.heap.size :=
 ⟨h.bs.cell 0, h.bs.cell 1, h.bs.cell 2, h.bs.cell 3, h.bs.cell 4, h.bs.cell 5, h.br.cell 0, h.br.cell 1, h.br.cell 2, h.br.cell 3, h.br.frozen 0, h.br.frozen 1, h.br.frozen 2, h.br.frozen 3, h.br.lt⟩
theorem ga_start (w : World) (sc : Array Value) : GaW w sc (.map none) (.map none) (.map none) (.slice none 0 0) ((w.alloc (.cells sc 29)).alloc (.cells #[.map none, .map none, .map none, .slice none 0 0] 182)) where
 old := ((Below.refl _ _).alloc (Nat.le_refl _) _).alloc (by simp) _
 bs := (Blk.new _ _ _).alloc _
 br := by simpa using Blk.new (w.alloc (.cells sc 29)) 182 _
end
theorem Tryz.infoMap : (Tryz.prog.info? 179).map (fun i => (i.zero, i.size, i.bytes)) = some (some (.map none), 1, 8) := by kernel_rfl
theorem own_form {W : World} {base : Nat} {e : TypeId} {size : Nat} {v : Value} {n : Nat} {xs : List Value} (h : W.ownsRow base e size v n xs) : ∃ A m c, v = .slice A m c := by
 rcases h.2 with ⟨rfl, _⟩ | ⟨g, cap, cur, rfl, _⟩
 · exact ⟨_, _, _, rfl⟩
 · exact ⟨_, _, _, rfl⟩
theorem own_below {w w' : World} {base : Nat} {e : TypeId} {size : Nat} {v : Value} {n : Nat} {xs : List Value} (h : w.ownsRow base e size v n xs) (hb : Below w.heap.size w w') : w'.ownsRow base e size v n xs :=
 h.kept (row := none) ⟨hb.os, hb.tape, hb.output, hb.size, fun k hk _ => hb.block k hk⟩ (by cases v.ownBlock <;> simp)
structure GaL (w : World) (sc : Array Value) (b1 b2 b3 : Nat) (s : QSource) (k : Nat) (v : Value) (W : World) : Prop where
 ga : GaW w sc (.map (some b1)) (.map (some b2)) (.map (some b3)) v W
 m1 : MapAt strW i64W W b1 (col s.issuers).1
 m2 : MapAt strW i64W W b2 (col (unitNames s)).1
 m3 : MapAt strW i64W W b3 (col (schemaNames s)).1
 row : ∃ cs, W.ownsRow (w.heap.size + 2) 179 1 v k cs ∧ CellsR 1 mapR W cs ((s.schemas.take k).map fieldMap)
theorem GaL.below {w : World} {sc : Array Value} {b1 b2 b3 : Nat} {s : QSource} {k : Nat} {v : Value} {W W' : World} (h : GaL w sc b1 b2 b3 s k v W) (hb : Below W.heap.size W W') : GaL w sc b1 b2 b3 s k v W' := by
 obtain ⟨cs, h1, h2⟩ := h.row
 exact ⟨h.ga.below hb, h.m1.below hb, h.m2.below hb, h.m3.below hb, cs, own_below h1 hb, h2.mono mapR_mono hb⟩
theorem GaL.next {w : World} {sc : Array Value} {b1 b2 b3 : Nat} {s : QSource} {k : Nat} {v v' : Value} {W W2 : World} (h : GaL w sc b1 b2 b3 s k v W) {x : QSchema} (hx : s.schemas[k]? = some x) {g : Nat} (hm : MapAt strW i64W W g (fieldMap x))
 {cs : List Value} (ho : W.ownsRow (w.heap.size + 2) 179 1 v k cs) (hc : CellsR 1 mapR W cs ((s.schemas.take k).map fieldMap))
 (ho' : W2.ownsRow (w.heap.size + 2) 179 1 v' (k + 1) (cs ++ [.map (some g)])) (hg : W.grownBy W2 v.ownBlock) : GaL w sc b1 b2 b3 s (k + 1) v' (W2.setCell ⟨w.heap.size + 1, 3, none⟩ v') := by
 have hk1 := KeepsMaps.own ho hg
 have hk := hk1.trans (KeepsMaps.put W2 ⟨w.heap.size + 1, 3, none⟩ v')
 have hga := h.ga.grown hg (fun r e => (ho.lt r e).1)
 refine ⟨hga.put4 v', h.m1.keeps hk, h.m2.keeps hk, h.m3.keeps hk, cs ++ [.map (some g)], ownsRow_setCell_other ho' (a := ⟨w.heap.size + 1, 3, none⟩) (fun e => by have := ho'.lt _ e; simp at this) _, ?_⟩
 rw [take_snoc hx, List.map_append]
 exact (hc.keeps hk).append (CellsR.one rfl ⟨g, rfl, hm.keeps hk⟩)
set_option maxHeartbeats 2000000 in
set_option maxRecDepth 100000 in
theorem gather_any (A1 A2 A3 A4 A5 A6 : Option Addr) (n1 c1 n2 c2 n3 c3 n4 c4 n5 c5 n6 c6 : Nat) (s : QSource) (w : World)
 (h1 : SlB 1 16 strR w (.slice A1 n1 c1) s.issuers) (h2 : SlB 5 56 qUnitR w (.slice A2 n2 c2) s.units) (h3 : SlB 6 96 qSchemaR w (.slice A3 n3 c3) s.schemas) (h4 : SlB 5 96 qRuleR w (.slice A4 n4 c4) s.rules) (h6 : SlB 3 48 qPurposeR w (.slice A6 n6 c6) s.purposes) :
 Calls Tryz.prog 114 #[.agg #[.slice A1 n1 c1, .slice A2 n2 c2, .slice A3 n3 c3, .slice A4 n4 c4, .slice A5 n5 c5, .slice A6 n6 c6]] w (RetGather s w) := by
 have H1 := Lib.hid h1.1
 have H2 := Lib.hid h2.1
 have H3 := Lib.hid h3
 have H4 := Lib.hid h4.1
 have H6 := Lib.hid h6.1
 have hn3 : n3 ≤ 9223372036854775807 := by have := h3.1.le; omega
 have hn4 : n4 ≤ 9223372036854775807 := by have := h4.1.le; omega
 clear h1 h2 h3 h4 h6
 go_enter Tryz.func114, Tryz.ntmps114
 go_wp2_with fail
 have hga := ga_start w #[.slice A1 n1 c1, .slice A2 n2 c2, .slice A3 n3 c3, .slice A4 n4 c4, .slice A5 n5 c5, .slice A6 n6 c6]
 generalize ((w.alloc (.cells #[.slice A1 n1 c1, .slice A2 n2 c2, .slice A3 n3 c3, .slice A4 n4 c4, .slice A5 n5 c5, .slice A6 n6 c6] 29)).alloc (.cells #[.map none, .map none, .map none, .slice none 0 0] 182)) = W0 at hga ⊢
 have HGA := Lib.hid hga
 clear hga
 refine (collectStr_any A1 n1 c1 s.issuers _ (H1.out.mono strR_mono HGA.out.old)).mono ?_
 rintro e W1 ⟨b1, rfl, hm1, _, hb1⟩
 have hga := HGA.out.below hb1
 obtain ⟨k0, k1, k2, k3, k4, k5, r0, r1, r2, r3, f0, f1, f2, f3, lr⟩ := hga.cells
 have HGB := Lib.hid hga
 have HM1 := Lib.hid hm1
 clear hga hm1 hb1 HGA
 go_wp2_with fail
 have hga := HGB.out.put1 (.map (some b1))
 have hm1 := HM1.out.keeps (KeepsMaps.put W1 ⟨w.heap.size + 1, 0, none⟩ (.map (some b1)))
 generalize W1.setCell ⟨w.heap.size + 1, 0, none⟩ (.map (some b1)) = W2 at hga hm1 ⊢
 clear k0 k1 k2 k3 k4 k5 r0 r1 r2 r3 f0 f1 f2 f3 lr HGB HM1
 refine (collectUnit_any A2 n2 c2 s.units _ (H2.out.mono qUnitR_mono hga.old)).mono ?_
 rintro e W3 ⟨b2, rfl, hm2, _, hb2⟩
 have hga' := hga.below hb2
 have HM1 := Lib.hid (hm1.below hb2)
 have HM2 := Lib.hid hm2
 obtain ⟨k0, k1, k2, k3, k4, k5, r0, r1, r2, r3, f0, f1, f2, f3, lr⟩ := hga'.cells
 have HGB := Lib.hid hga'
 clear hga hga' hm1 hm2 hb2
 obtain ⟨t1, ht1⟩ : ∃ t, twiceB s.issuers = t := ⟨_, rfl⟩
 obtain ⟨t2, ht2⟩ : ∃ t, twiceB (s.units.map (·.name)) = t := ⟨_, rfl⟩
 rw [ht1, ht2]
 have HT1 := Lib.hid ht1
 have HT2 := Lib.hid ht2
 clear ht1 ht2
 go_upto_region 5 with fail
 have hga := HGB.out.put2 (.map (some b2))
 have hkp := KeepsMaps.put W3 ⟨w.heap.size + 1, 1, none⟩ (.map (some b2))
 generalize W3.setCell ⟨w.heap.size + 1, 1, none⟩ (.map (some b2)) = W4 at hga hkp ⊢
 replace HM1 := Lib.hid (HM1.out.keeps hkp)
 replace HM2 := Lib.hid (HM2.out.keeps hkp)
 clear k0 k1 k2 k3 k4 k5 r0 r1 r2 r3 f0 f1 f2 f3 lr HGB hkp
 have HGA := Lib.hid hga
 clear hga
 go_cut [3] (fun x3 wx => x3 = .bool (t1 || t2) ∧ W4 = wx)
 case first =>
  cases t1
  all_goals
   go_wp2_with fail
   go_meet
   exact ⟨rfl, rfl⟩
 case rest =>
 obtain ⟨rfl, rfl⟩ := hcut
 obtain ⟨k0, k1, k2, k3, k4, k5, r0, r1, r2, r3, f0, f1, f2, f3, lr⟩ := HGA.out.cells
 go_wp2_with fail
 refine (collectSchema_any A3 n3 c3 s.schemas _ (H3.out.1.mono qSchemaR_mono HGA.out.old)).mono ?_
 rintro e W5 ⟨b3, rfl, hm3, _, hb3⟩
 have hga := HGA.out.below hb3
 replace HM1 := Lib.hid (HM1.out.below hb3)
 replace HM2 := Lib.hid (HM2.out.below hb3)
 have HM3 := Lib.hid hm3
 clear k0 k1 k2 k3 k4 k5 r0 r1 r2 r3 f0 f1 f2 f3 lr hm3 hb3 HGA
 obtain ⟨k0, k1, k2, k3, k4, k5, r0, r1, r2, r3, f0, f1, f2, f3, lr⟩ := hga.cells
 have HGB := Lib.hid hga
 clear hga
 obtain ⟨t3, ht3⟩ : ∃ t, twiceB (s.schemas.map (·.name)) = t := ⟨_, rfl⟩
 rw [ht3]
 have HT3 := Lib.hid ht3
 clear ht3
 go_upto_region 7 with fail
 have hga := HGB.out.put3 (.map (some b3))
 have hkp := KeepsMaps.put W5 ⟨w.heap.size + 1, 2, none⟩ (.map (some b3))
 generalize W5.setCell ⟨w.heap.size + 1, 2, none⟩ (.map (some b3)) = W6 at hga hkp ⊢
 replace HM1 := Lib.hid (HM1.out.keeps hkp)
 replace HM2 := Lib.hid (HM2.out.keeps hkp)
 replace HM3 := Lib.hid (HM3.out.keeps hkp)
 clear k0 k1 k2 k3 k4 k5 r0 r1 r2 r3 f0 f1 f2 f3 lr HGB hkp
 have HGA := Lib.hid hga
 clear hga
 obtain ⟨t12, ht12⟩ : ∃ t, (t1 || t2) = t := ⟨_, rfl⟩
 rw [ht12]
 have HT12 := Lib.hid ht12
 clear ht12
 go_cut [3] (fun x3 wx => x3 = .bool (t12 || t3) ∧ W6 = wx)
 case first =>
  cases t12
  all_goals
   go_wp2_with fail
   go_meet
   exact ⟨rfl, rfl⟩
 case rest =>
 obtain ⟨rfl, rfl⟩ := hcut
 obtain ⟨k0, k1, k2, k3, k4, k5, r0, r1, r2, r3, f0, f1, f2, f3, lr⟩ := HGA.out.cells
 go_wp2_with fail
 refine (collectPurpose_any A6 n6 c6 s.purposes _ (H6.out.mono qPurposeR_mono HGA.out.old)).mono ?_
 rintro e W7 ⟨b4, rfl, _, _, hb4⟩
 have hga := HGA.out.below hb4
 replace HM1 := Lib.hid (HM1.out.below hb4)
 replace HM2 := Lib.hid (HM2.out.below hb4)
 replace HM3 := Lib.hid (HM3.out.below hb4)
 clear k0 k1 k2 k3 k4 k5 r0 r1 r2 r3 f0 f1 f2 f3 lr hb4 HGA
 obtain ⟨k0, k1, k2, k3, k4, k5, r0, r1, r2, r3, f0, f1, f2, f3, lr⟩ := hga.cells
 have HGA := Lib.hid hga
 clear hga
 obtain ⟨t4, ht4⟩ : ∃ t, twiceB (s.purposes.map (·.name)) = t := ⟨_, rfl⟩
 obtain ⟨t123, ht123⟩ : ∃ t, (t12 || t3) = t := ⟨_, rfl⟩
 rw [ht4, ht123]
 have HT4 := Lib.hid ht4
 have HT123 := Lib.hid ht123
 clear ht4 ht123
 go_upto_region 9 with fail
 go_cut [3] (fun x3 wx => x3 = .bool (t123 || t4) ∧ W7 = wx)
 case first =>
  cases t123
  all_goals
   go_wp2_with fail
   go_meet
   exact ⟨rfl, rfl⟩
 case rest =>
 obtain ⟨rfl, rfl⟩ := hcut
 obtain ⟨t0, ht0⟩ : ∃ t, (t123 || t4) = t := ⟨_, rfl⟩
 rw [ht0]
 have HT0 : Hid ((twiceB s.issuers || twiceB (unitNames s) || twiceB (schemaNames s) || twiceB (purposeNames s)) = t0) := by
  show _ = _
  rw [HT1.out, show twiceB (unitNames s) = t2 from HT2.out, show twiceB (schemaNames s) = t3 from HT3.out, show twiceB (purposeNames s) = t4 from HT4.out, HT12.out, HT123.out, ht0]
 clear ht0 HT1 HT2 HT3 HT4 HT12 HT123
 go_wp2_with fail
 clear k0 k1 k2 k3 k4 k5 r0 r1 r2 r3 f0 f1 f2 f3 lr
 have HL0 : Hid (GaL w #[.slice A1 n1 c1, .slice A2 n2 c2, .slice A3 n3 c3, .slice A4 n4 c4, .slice A5 n5 c5, .slice A6 n6 c6] b1 b2 b3 s 0 (.slice none 0 0) W7) := ⟨HGA.out, HM1.out, HM2.out, HM3.out, [], World.ownsRow_nil _ _ _ _, CellsR.nil⟩
 clear HGA HM1 HM2 HM3
 have hlen3 := H3.out.1.len
 have hbd3 : n3 * 96 ≤ 140737488355328 := by rw [hlen3]; exact H3.out.2
 have HL3 := Lib.hid hlen3
 clear hlen3
 obtain ⟨i0, hi, hz0, hz1, hz2⟩ := info_parts Tryz.infoMap
 go_loopg [3, 63] n3 (fun g t i wr => ∃ (k : Nat) (v : Value), k ≤ n3 ∧ g = n3 - k ∧ i = .int .i64 k ∧ t = .bool (t0 || (s.schemas.take k).any (fun x => twiceB (fieldNames x))) ∧ GaL w #[.slice A1 n1 c1, .slice A2 n2 c2, .slice A3 n3 c3, .slice A4 n4 c4, .slice A5 n5 c5, .slice A6 n6 c6] b1 b2 b3 s k v wr)
 case atStart => exact ⟨0, _, Nat.zero_le _, rfl, rfl, by simp, HL0.out⟩
 case round =>
  clear HL0
  obtain ⟨k, v, hk, hg, rfl, rfl, hL⟩ := hrel
  have HG := Lib.hid hg
  have HL := Lib.hid hL
  clear hg hL
  obtain ⟨tk, htk⟩ : ∃ t, (t0 || (s.schemas.take k).any (fun x => twiceB (fieldNames x))) = t := ⟨_, rfl⟩
  rw [htk]
  have HTK := Lib.hid htk
  clear htk
  by_cases hlt : k < n3
  ·
   obtain ⟨xb, off, x, y1, m1, d1, y2, m2, d2, rfl, hxb, hx, e0, e1, e2, e3, e4, e5, hf, _⟩ := qSchema_at (H3.out.1.mono qSchemaR_mono HL.out.ga.old) hlt
   have HX := Lib.hid hx
   have HF := Lib.hid hf.1
   clear hx hf
   go_wp2_with fail
   have hba : Below wr.heap.size wr (wr.alloc (.cells #[.string x.name, .string x.by_, .int .i64 x.issuer, .int .i64 x.version, .slice y1 m1 d1, .slice y2 m2 d2] 52)) := (Below.refl _ _).alloc (Nat.le_refl _) _
   generalize (wr.alloc (.cells #[.string x.name, .string x.by_, .int .i64 x.issuer, .int .i64 x.version, .slice y1 m1 d1, .slice y2 m2 d2] 52)) = wz at hba ⊢
   clear e0 e1 e2 e3 e4 e5 hxb
   refine (collectField_any y1 m1 d1 x.fields _ (HF.out.mono qFieldR_mono hba)).mono ?_
   rintro e W8 ⟨g, rfl, hmg, _, hb8⟩
   have hL8 := (HL.out.below hba).below hb8
   clear hba hb8 HL
   obtain ⟨tf, htf⟩ : ∃ t, twiceB (x.fields.map (·.name)) = t := ⟨_, rfl⟩
   rw [htf]
   have HTF : Hid (twiceB (fieldNames x) = tf) := htf
   clear htf
   have HMG := Lib.hid hmg
   clear hmg
   obtain ⟨cs, ho, hc⟩ := hL8.row
   obtain ⟨vA, vn, vc, rfl⟩ := own_form ho
   obtain ⟨k0, k1, k2, k3, k4, k5, r0, r1, r2, r3, f0, f1, f2, f3, lr⟩ := hL8.ga.cells
   have HO := Lib.hid ho
   have HC := Lib.hid hc
   have HL8 := Lib.hid hL8
   clear ho hc hL8
   cases tk
   all_goals
    go_wp2_with (at_builtin; refine wpList_append_own_at _ rfl (.tmp 77) (.tmp 79) 180 rfl (w.heap.size + 2) 179 i0 (.map none) 1 8 Tryz.underlying180 hi hz0 hz1 hz2 rfl (by decide) (.slice vA vn vc) k cs rfl (HO.out.alloc _) ⟨W8.heap.size, 0, none⟩ 1 1 [.map (some g)] rfl rfl (cell_one_new _ _ _) (by simp [Value.oneCell']) (by unfold maxLen; omega) (by omega) (by have := HL8.out.ga.br.lt; simp; omega) ?_; intro v' W9 hown' hgrow hnil hat; obtain ⟨vA', vn', vc', rfl⟩ := own_form hown'; have ce := ((HL8.out.ga.below ((Below.refl _ _).alloc (Nat.le_refl _) _)).grown hgrow (fun r e => (HO.out.lt r e).1)).br.cell 3; have fe := ((HL8.out.ga.below ((Below.refl _ _).alloc (Nat.le_refl _) _)).grown hgrow (fun r e => (HO.out.lt r e).1)).br.frozen 3; simp only [List.getElem?_toArray, List.getElem?_cons_zero, List.getElem?_cons_succ] at ce; have HO9 := Lib.hid hown'; have HG9 := Lib.hid hgrow; clear hown' hgrow hnil hat)
    go_roundg (n3 - (k + 1))
    case measure => have := HG.out; omega
    case rel =>
     refine ⟨k + 1, _, by omega, rfl, by go_num, ?_, (HL8.out.below ((Below.refl _ _).alloc (Nat.le_refl _) _)).next HX.out (HMG.out.below ((Below.refl _ _).alloc (Nat.le_refl _) _)) (HO.out.alloc _) (HC.out.mono mapR_mono ((Below.refl _ _).alloc (Nat.le_refl _) _)) HO9.out HG9.out⟩
     rw [take_snoc HX.out, List.any_append, ← Bool.or_assoc, HTK.out]
     simp [HTF.out]
  ·
   have hke : k = s.schemas.length := by have := HL3.out; omega
   have HTA : Hid ((twiceB s.issuers || twiceB (unitNames s) || twiceB (schemaNames s) || twiceB (purposeNames s) || s.schemas.any (fun x => twiceB (fieldNames x))) = tk) := by
    have := HTK.out
    rw [hke, List.take_length] at this
    show _ = _
    rw [HT0.out]
    exact this
   obtain ⟨k0, k1, k2, k3, k4, k5, r0, r1, r2, r3, f0, f1, f2, f3, lr⟩ := HL.out.ga.cells
   have HKE := Lib.hid hke
   clear hke HT0 HTK HG
   obtain ⟨w8, rfl⟩ : ∃ w8 : World, w8 = wr := ⟨_, rfl⟩
   go_wp2_with fail
   clear k0 k1 k2 k3 k4 k5 r0 r1 r2 r3 f0 f1 f2 f3 lr hlt hk hi hz0 hz1 hz2
   have HL4 := Lib.hid H4.out.len
   go_loopg [3, 91] n4 (fun g t i wr => ∃ k : Nat, k ≤ n4 ∧ g = n4 - k ∧ i = .int .i64 k ∧ t = .bool (tk || (s.rules.take k).any (fun x => twiceB (fromNames x))) ∧ Below w8.heap.size w8 wr)
   case atStart => exact ⟨0, Nat.zero_le _, rfl, rfl, by simp, Below.refl _ _⟩
   case round =>
    obtain ⟨j, hj, hg, rfl, rfl, hb⟩ := hrel
    have HG := Lib.hid hg
    have HB := Lib.hid hb
    clear hg hb
    obtain ⟨tj, htj⟩ : ∃ t, (tk || (s.rules.take j).any (fun x => twiceB (fromNames x))) = t := ⟨_, rfl⟩
    rw [htj]
    have HTJ := Lib.hid htj
    clear htj
    by_cases hlt : j < n4
    ·
     obtain ⟨xb, off, x, y1, m1, d1, y2, m2, d2, y3, m3, d3, rfl, hxb, hx, e0, e1, e2, e3, e4, hf, _, _⟩ := qRule_at (H4.out.mono qRuleR_mono (HL.out.ga.below HB.out).old) hlt
     have HX := Lib.hid hx
     have HF := Lib.hid hf.1
     clear hx hf
     go_wp2_with fail
     have hba : Below wr.heap.size wr (wr.alloc (.cells #[.string x.head, .int .i64 x.schema, .slice y1 m1 d1, .slice y2 m2 d2, .slice y3 m3 d3] 83)) := (Below.refl _ _).alloc (Nat.le_refl _) _
     generalize (wr.alloc (.cells #[.string x.head, .int .i64 x.schema, .slice y1 m1 d1, .slice y2 m2 d2, .slice y3 m3 d3] 83)) = wz at hba ⊢
     clear e0 e1 e2 e3 e4 hxb
     refine (collectFrom_any y1 m1 d1 x.froms _ (HF.out.mono qFromR_mono hba)).mono ?_
     rintro e W8 ⟨g, rfl, -, -, hb8⟩
     have HB8 := Lib.hid ((HB.out.trans (hba.mono HB.out.size)).trans (hb8.mono (Nat.le_trans HB.out.size hba.size)))
     clear hba hb8
     obtain ⟨tf, htf⟩ : ∃ t, twiceB (x.froms.map (·.name)) = t := ⟨_, rfl⟩
     rw [htf]
     have HTF : Hid (twiceB (fromNames x) = tf) := htf
     clear htf
     cases tj
     all_goals
      go_wp2_with fail
      go_roundg (n4 - (j + 1))
      case measure => have := HG.out; omega
      case rel =>
       refine ⟨j + 1, by omega, rfl, by go_num, ?_, HB8.out⟩
       rw [take_snoc HX.out, List.any_append, ← Bool.or_assoc, HTJ.out]
       simp [HTF.out]
    ·
     have HTE : Hid (sourceTwice s = tj) := by
      have h1 := HTJ.out
      rw [List.take_of_length_le (by have := HL4.out; omega)] at h1
      show _ = _
      unfold sourceTwice
      rw [HTA.out]
      exact h1
     go_wp2_with fail
     go_ret2
     have hL := HL.out.below HB.out
     obtain ⟨cs, ho, hc⟩ := hL.row
     obtain ⟨vA, vn, vc, rfl⟩ := own_form ho
     refine ⟨w.heap.size + 1, by rw [HTE.out]; rfl, ⟨b1, b2, b3, vA, vn, vc, hL.ga.br, hL.m1, hL.m2, hL.m3, ?_⟩, by omega, hL.ga.old⟩
     rw [HKE.out, List.take_length] at hc
     exact slR_of_row ho hc (by rw [HKE.out]; simp)
end Go.Proofs.YtkgmonplcdnnbaaGreat
