/- Contract of versions.twoWay. Written by genty.py. -/
import Derived.Test.YtkgmonplcdnnbaaGreatPm34
import Derived.Test.YtkgmonplcdnnbaaGreatPm32
import Derived.Deep.RegionHeld3
import Derived.Deep.CutRange
import Derived.BigRegion
namespace Go.Proofs.YtkgmonplcdnnbaaGreat
open Go.RowKit
def mvFit (fa fb : List QField) (m : QMove) : Bool :=
 match fa[m.a.toNat]?, fb[m.b.toNat]? with
 | some x, some y => fitsV x.type y.type m.shift x.type.names.length y.type.names.length
 | _, _ => false
def mvGo (fa fb : List QField) : List Bool → List Bool → List QMove → Bool
 | _, _, [] => true
 |
  us, ts, m :: l =>
  if ¬ (1 ≤ m.a ∧ m.a < fa.length ∧ 1 ≤ m.b ∧ m.b < fb.length) then false
  else if us[m.a.toNat]? = some true then false
  else if ts[m.b.toNat]? = some true then false
  else if mvFit fa fb m then mvGo fa fb (us.set m.a.toNat true) (ts.set m.b.toNat true) l else false
def twoWayP (n2 : Nat) (ss : List QSchema) (c : QConvert) : Bool :=
 if c.a = c.b then false
 else if personP n2 ss c.a = false then false
 else if personP n2 ss c.b = false then false
 else match ss[c.a.toNat]?, ss[c.b.toNat]? with
  | some x, some y => if c.moves.length + 1 = x.fields.length then (if c.moves.length + 1 = y.fields.length then mvGo x.fields y.fields (List.replicate x.fields.length false) (List.replicate y.fields.length false) c.moves else false) else false
  | _, _ => false
theorem person_yes {n2 : Nat} {ss : List QSchema} {s : Int} (h : personP n2 ss s = true) : 0 ≤ s ∧ s < ss.length := by
 simp only [personP, Bool.and_eq_true, decide_eq_true_eq] at h
 exact h.1
theorem Tryz.infoBool2 : (Tryz.prog.info? 4).map (fun i => (i.zero, i.size, i.bytes)) = some (some (.bool false), 1, 1) := by kernel_rfl
theorem blk_drew {w : World} {g : Nat} {t : TypeId} {cs : Array Value} (h : Blk w g t cs) : Blk w.drew g t cs := h
theorem blk_setBool {w : World} {g i : Nat} {t : TypeId} {us : List Bool} {v : Bool} (h : Blk w g t (us.map Value.bool).toArray) : Blk (w.setCell ⟨g, i, none⟩ (.bool v)) g t ((us.set i v).map Value.bool).toArray := by
 have := h.put i (.bool v)
 simpa [List.map_set] using this
theorem rep_bools (n : Nat) : Array.replicate n (Value.bool false) = ((List.replicate n false).map Value.bool).toArray := by simp
theorem made_bools2 (nf : Nat) : madeCells (Value.bool false).cells (nf * 1) = Array.replicate nf (Value.bool false) := by
 apply Array.ext
 · simp [madeCells]
 ·
  intro i h1 h2
  have : i % 1 = 0 := by omega
  simp [madeCells, Value.cells, this]
theorem run_makeBools (nf : Nat) (h : nf ≤ 140737488355328) (W : World) : (Instr.makeSlice 94 (.int .i64 nf) (.int .i64 nf)).run Tryz.prog W = .ok (.slice (some ⟨W.heap.size, 0, none⟩) nf nf) (W.alloc (.cells (Array.replicate nf (Value.bool false)) 4)) := by
 obtain ⟨j0, hj, hjz0, hjz1, hjz2⟩ := info_parts Tryz.infoBool2
 have := run_make (P := Tryz.prog) W 94 4 j0 (.bool false) Tryz.underlying94 hj hjz0 .i64 .i64 nf nf (by omega) (by omega) (by rw [hjz2]; omega) (by omega)
 rw [hjz1] at this
 simp only [Int.toNat_natCast] at this
 rw [made_bools2] at this
 exact this
set_option maxHeartbeats 8000000 in
set_option maxRecDepth 100000 in
theorem twoWay_any (A1 A2 A3 A4 A5 A6 : Option Addr) (n1 c1 n2 c2 n3 c3 n4 c4 n5 c5 n6 c6 : Nat) (cf ct : ByteArray) (ca cb : Int) (mvs : List QMove) (MA : Option Addr) (mn mc : Nat) (ss : List QSchema) (w0 w : World) (hb0 : Below w0.heap.size w0 w) (hn2 : n2 ≤ 9223372036854775807) (h3 : SlR 6 qSchemaR w0 (.slice A3 n3 c3) ss) (hm : SlR 5 qMoveR w0 (.slice MA mn mc) mvs) :
 Calls Tryz.prog 78 #[(.agg #[.slice A1 n1 c1, .slice A2 n2 c2, .slice A3 n3 c3, .slice A4 n4 c4, .slice A5 n5 c5, .slice A6 n6 c6]), .agg #[.string cf, .string ct, .int .i64 ca, .int .i64 cb, .slice MA mn mc]] w fun e w' => e = .returned (.bool (twoWayP n2 ss ⟨cf, ct, ca, cb, mvs⟩)) ∧ Below w.heap.size w w' := by
 have hmn : mn ≤ 9223372036854775807 := by have := hm.le; omega
 have hn3 : n3 ≤ 9223372036854775807 := by have := h3.le; omega
 obtain ⟨wb, hwb⟩ : ∃ wb, wb = (w.alloc (.cells #[.slice A1 n1 c1, .slice A2 n2 c2, .slice A3 n3 c3, .slice A4 n4 c4, .slice A5 n5 c5, .slice A6 n6 c6] 29)).alloc (.cells #[.string cf, .string ct, .int .i64 ca, .int .i64 cb, .slice MA mn mc] 86) := ⟨_, rfl⟩
 have hbb : Below w.heap.size w wb := by rw [hwb]; exact (((Below.refl _ _).alloc (Nat.le_refl _) _).alloc (by simp) _)
 have kA : Blk wb w.heap.size 29 #[.slice A1 n1 c1, .slice A2 n2 c2, .slice A3 n3 c3, .slice A4 n4 c4, .slice A5 n5 c5, .slice A6 n6 c6] := by rw [hwb]; exact (Blk.new _ _ _).alloc _
 have kB : Blk wb (w.heap.size + 1) 86 #[.string cf, .string ct, .int .i64 ca, .int .i64 cb, .slice MA mn mc] := by rw [hwb]; exact blkNew (by simp)
 have HP : Hid (∀ (sc : Int) (W : World), Below wb.heap.size wb W → Calls Tryz.prog 142 #[(.agg #[.slice A1 n1 c1, .slice A2 n2 c2, .slice A3 n3 c3, .slice A4 n4 c4, .slice A5 n5 c5, .slice A6 n6 c6]), .int .i64 sc] W fun e w' => e = .returned (.bool (personP n2 ss sc)) ∧ Below W.heap.size W w') := Lib.hid (fun sc W hW => person_any A1 A2 A3 A4 A5 A6 n1 c1 n2 c2 n3 c3 n4 c4 n5 c5 n6 c6 sc ss w0 W (hb0.trans ((hbb.trans (hW.mono hbb.size)).mono hb0.size)) hn2 h3)
 have HBB := Lib.hid hbb
 have HWB := Lib.hid hwb
 have HA := Lib.hid kA
 have HB := Lib.hid kB
 have H3 := Lib.hid h3
 have HM := Lib.hid hm
 have HB0 := Lib.hid hb0
 have HLN := Lib.hid h3.len
 obtain ⟨b0', b1', b2', b3', b4'⟩ := kB.five
 obtain ⟨a0', a1', a2', a3', a4', a5'⟩ := kA.six
 obtain ⟨ga, hga⟩ : ∃ g, g = w.heap.size := ⟨_, rfl⟩
 obtain ⟨gb, hgb⟩ : ∃ g, g = w.heap.size + 1 := ⟨_, rfl⟩
 have lA := kA.lt
 have lB := kB.lt
 clear hm h3 hb0 hbb hwb kA kB hn2
 obtain ⟨R, hR⟩ : ∃ R, twoWayP n2 ss ⟨cf, ct, ca, cb, mvs⟩ = R := ⟨_, rfl⟩
 have HR := Lib.hid hR
 rw [hR]
 clear hR
 go_enter Tryz.func78, Tryz.ntmps78
 go_upto_region 1 with fail
 rw [← HWB.out, ← hgb, ← hga]
 rw [← hgb] at HB lB b0' b1' b2' b3' b4'
 rw [← hga] at HA lA a0' a1' a2' a3' a4' a5'
 clear HWB hga hgb
 cases hab : (ca == cb) with
 |
  true =>
  have HE : Hid (R = false) := Lib.hid (by rw [← HR.out, twoWayP, if_pos (by simpa using hab)])
  go_wp2_with fail
  go_ret
  exact ⟨ret_bool HE.out.symm, HBB.out⟩
 | false =>
 have HAB : Hid (ca ≠ cb) := Lib.hid (by simpa using hab)
 have HPA := Lib.hid (HP.out ca wb (Below.refl _ _))
 have HPB := Lib.hid (HP.out cb)
 clear HP
 cases hp1 : personP n2 ss ca with
 |
  false =>
  rw [hp1] at HPA
  have HE : Hid (R = false) := Lib.hid (by rw [← HR.out, twoWayP, if_neg HAB.out, if_pos hp1])
  clear hp1
  go_wp2_with (go_at_call 142; refine HPA.out.mono ?_; clear HPA)
  rintro e w1 ⟨rfl, hb1⟩
  have HB1 := Lib.hid (HBB.out.trans (hb1.mono HBB.out.size))
  clear hb1
  go_wp2_with fail
  go_ret
  exact ⟨ret_bool HE.out.symm, HB1.out⟩
 | true =>
 rw [hp1] at HPA
 have HP1 := Lib.hid hp1
 clear hp1
 go_wp2_with (go_at_call 142; refine HPA.out.mono ?_; clear HPA)
 rintro e w1 ⟨rfl, hb1⟩
 have HB1 := Lib.hid hb1
 obtain ⟨b0, b1, b2, b3, b4⟩ := (HB.out.below hb1 lB).five
 obtain ⟨a0, a1, a2, a3, a4, a5⟩ := (HA.out.below hb1 lA).six
 clear hb1 a0' a1' a2' a3' a4' a5' b0' b1' b2' b3' b4'
 have HPB' := Lib.hid (HPB.out w1 HB1.out)
 clear HPB
 cases hp2 : personP n2 ss cb with
 |
  false =>
  rw [hp2] at HPB'
  have HE : Hid (R = false) := Lib.hid (by rw [← HR.out, twoWayP, if_neg HAB.out, if_neg (by rw [HP1.out]; decide), if_pos hp2])
  clear hp2
  go_wp2_with (go_at_call 142; refine HPB'.out.mono ?_; clear HPB')
  rintro e w2 ⟨rfl, hb2⟩
  have HB2 := Lib.hid (HB1.out.trans (hb2.mono HB1.out.size))
  clear hb2 a0 a1 a2 a3 a4 a5 b0 b1 b2 b3 b4
  go_wp2_with fail
  go_ret
  exact ⟨ret_bool HE.out.symm, HBB.out.trans (HB2.out.mono HBB.out.size)⟩
 | true =>
 rw [hp2] at HPB'
 have HP2 := Lib.hid hp2
 clear hp2
 go_wp2_with (go_at_call 142; refine HPB'.out.mono ?_; clear HPB')
 rintro e w2 ⟨rfl, hb2⟩
 have HB2 := Lib.hid (HB1.out.trans (hb2.mono HB1.out.size))
 clear hb2 a0 a1 a2 a3 a4 a5 b0 b1 b2 b3 b4
 obtain ⟨b0, b1, b2, b3, b4⟩ := (HB.out.below HB2.out lB).five
 obtain ⟨a0, a1, a2, a3, a4, a5⟩ := (HA.out.below HB2.out lA).six
 have lA2 := Nat.lt_of_lt_of_le lA HB2.out.size
 have lB2 := Nat.lt_of_lt_of_le lB HB2.out.size
 obtain ⟨i, hi⟩ : ∃ i : Nat, ca = i := ⟨ca.toNat, by have := (person_yes HP1.out).1; omega⟩
 obtain ⟨j, hj⟩ : ∃ j : Nat, cb = j := ⟨cb.toNat, by have := (person_yes HP2.out).1; omega⟩
 subst hi hj
 have hi0 : (0 : Int) ≤ (i : Int) := by omega
 have hj0 : (0 : Int) ≤ (j : Int) := by omega
 have hi1 : (i : Int) < (n3 : Int) := by have := (person_yes HP1.out).2; have := HLN.out; omega
 have hj1 : (j : Int) < (n3 : Int) := by have := (person_yes HP2.out).2; have := HLN.out; omega
 obtain ⟨g1, o1, x, FA, fn, fc, DA, dn, dc, hA3, hbl, hx, e0, e1, e2, e3, e4, e5, hF, hD⟩ := qSchema_at H3.out (k := i) (by omega)
 obtain ⟨g2, o2, y, GA, gn, gc, EA, en, ec, hA3', r1, hy, r2, r3, r4, r5, f4, r6, hG, r7⟩ := qSchema_at H3.out (k := j) (by omega)
 subst hA3
 injection hA3' with hq
 injection hq with hq1 hq2
 subst hq1 hq2
 have hbw2 : Below w0.heap.size w0 w2 := HB0.out.trans ((HBB.out.trans (HB2.out.mono HBB.out.size)).mono HB0.out.size)
 rw [← hbw2.cell (p := ⟨g1, _, none⟩) hbl] at e4 f4
 have hlw := Nat.lt_of_lt_of_le hbl hbw2.size
 have hfn : fn ≤ 9000000000000 := by have := hF.2; have := hF.1.len; omega
 have hgn : gn ≤ 9000000000000 := by have := hG.2; have := hG.1.len; omega
 have HFN := Lib.hid hF.1.len
 have HGN := Lib.hid hG.1.len
 have HMN := Lib.hid HM.out.len
 have HF := Lib.hid hF.1
 have HG := Lib.hid hG.1
 have HRR : Hid (R = if mvs.length + 1 = x.fields.length then (if mvs.length + 1 = y.fields.length then mvGo x.fields y.fields (List.replicate x.fields.length false) (List.replicate y.fields.length false) mvs else false) else false) := Lib.hid (by
  rw [← HR.out, twoWayP, if_neg HAB.out, if_neg (by rw [HP1.out]; decide), if_neg (by rw [HP2.out]; decide), Int.toNat_natCast, Int.toNat_natCast, hx, hy])
 have HBW2 := Lib.hid hbw2
 clear e0 e1 e2 e3 e5 hF hG hD hx hy hbw2 HR HP1 HP2 HAB r1 r2 r3 r4 r5 r6 r7
 go_upto_region 3 with fail
 go_quiet (fail)
 clear a0 a1 a2 a3 a4 a5
 have HBQ : Hid (Below wb.heap.size wb (w2.drewN nq)) := Lib.hid (below_drewN HB2.out _)
 generalize w2.drewN nq = wq at *
 clear b0 b1 b2 b3 b4 e4 f4 hlw lA2 lB2 hbl
 obtain ⟨b0, b1, b2, b3, b4⟩ := (HB.out.below HBQ.out lB).five
 have lBq := Nat.lt_of_lt_of_le lB HBQ.out.size
 cases q1 : ((mn : Int) != (fn : Int) - 1) with
 |
  true =>
  have HE : Hid (R = false) := Lib.hid (by rw [HRR.out, if_neg (by simp at q1; have := HMN.out; have := HFN.out; omega)])
  go_wp2_with fail
  go_ret
  exact ⟨ret_bool HE.out.symm, HBB.out.trans (HBQ.out.mono HBB.out.size)⟩
 | false =>
 cases q2 : ((mn : Int) != (gn : Int) - 1) with
 |
  true =>
  have HE : Hid (R = false) := Lib.hid (by rw [HRR.out]; split; rw [if_neg (by simp at q2; have := HMN.out; have := HGN.out; omega)]; rfl)
  go_wp2_with fail
  go_ret
  exact ⟨ret_bool HE.out.symm, HBB.out.trans (HBQ.out.mono HBB.out.size)⟩
 | false =>
 have HE : Hid (R = mvGo x.fields y.fields (List.replicate fn false) (List.replicate gn false) mvs) := Lib.hid (by
  simp at q1 q2
  rw [HRR.out, if_pos (by have := HMN.out; have := HFN.out; omega), if_pos (by have := HMN.out; have := HGN.out; omega), ← HFN.out, ← HGN.out])
 clear HRR
 have hmk1 := fun W => run_makeBools fn (by omega) W
 have hmk2 := fun W => run_makeBools gn (by omega) W
 go_upto_region 6 with fail
 clear q1 q2
 go_cut [7, 8] from 60 (fun v7 v8 wx => ∃ gu gs, v7 = .slice (some ⟨gu, 0, none⟩) fn fn ∧ v8 = .slice (some ⟨gs, 0, none⟩) gn gn ∧ gu ≠ gs ∧ wb.heap.size ≤ gu ∧ wb.heap.size ≤ gs ∧ Blk wx gu 4 (Array.replicate fn (Value.bool false)) ∧ Blk wx gs 4 (Array.replicate gn (Value.bool false)) ∧ Below wb.heap.size wb wx)
 case first =>
  go_region
  all_goals
   go_wp2_with fail
   go_meet
   first
    | exact ⟨wq.heap.size, wq.heap.size + 1, rfl, rfl, by omega, HBQ.out.size, by have := HBQ.out.size; omega, blk_drew ((Blk.new _ _ _).alloc _), blk_drew (blkNew (by simp)), ((HBQ.out.alloc HBQ.out.size _).alloc (by have := HBQ.out.size; simp; omega) _).drew⟩
    | exact ⟨wq.heap.size + 1, wq.heap.size, rfl, rfl, by omega, by have := HBQ.out.size; omega, HBQ.out.size, blk_drew (blkNew (by simp)), blk_drew ((Blk.new _ _ _).alloc _), ((HBQ.out.alloc HBQ.out.size _).alloc (by have := HBQ.out.size; simp; omega) _).drew⟩
 case rest =>
  obtain ⟨gu, gs, rfl, rfl, hne, hgu, hgs, hbu, hbs, hbx⟩ := hcut
  rw [rep_bools] at hbu hbs
  have HBU := Lib.hid hbu
  have HBS := Lib.hid hbs
  have HBX := Lib.hid hbx
  have HNE := Lib.hid hne
  have HGU := Lib.hid hgu
  have HGS := Lib.hid hgs
  have bx4 := (HB.out.below hbx lB).five.2.2.2.2
  have lBx := Nat.lt_of_lt_of_le lB hbx.size
  clear hmk1 hmk2 b0 b1 b2 b3 b4 hbu hbs hbx hne hgu hgs
  clear HB1 HB2 HBQ lBq hi0 hj0 hi1 hj1 hab H3 HBW2 HA lA
  go_wp2_with fail
  clear bx4 lBx HB lB
  go_loopg [69] mn (fun q i wr => ∃ (k : Nat) (us ts : List Bool), k ≤ mn ∧ q = mn - k ∧ i = .int .i64 k ∧ us.length = fn ∧ ts.length = gn ∧ mvGo x.fields y.fields us ts (mvs.drop k) = R ∧ Blk wr gu 4 (us.map Value.bool).toArray ∧ Blk wr gs 4 (ts.map Value.bool).toArray ∧ Below wb.heap.size wb wr)
  case atStart => exact ⟨0, List.replicate fn false, List.replicate gn false, Nat.zero_le _, rfl, rfl, by simp, by simp, by rw [HE.out]; rfl, HBU.out, HBS.out, HBX.out⟩
  case round =>
   clear HBU HBS HBX HE
   obtain ⟨k, us, ts, hk, hq, rfl, hus, hts, hgo, hbu, hbs, hb⟩ := hrel
   have HQ := Lib.hid hq
   have HUS := Lib.hid hus
   have HTS := Lib.hid hts
   have HGO := Lib.hid hgo
   have HBU := Lib.hid hbu
   have HBS := Lib.hid hbs
   have HBR := Lib.hid hb
   have HBW : Hid (Below w.heap.size w wr) := Lib.hid (HBB.out.trans (hb.mono HBB.out.size))
   clear hq hus hts hgo hbu hbs hb
   by_cases hlt : k < mn
   case neg =>
    have HT : Hid (R = true) := Lib.hid (by
     rw [← HGO.out, List.drop_of_length_le (by have := HMN.out; omega)]; rfl)
    go_wp2_with fail
    go_ret
    exact ⟨ret_bool HT.out.symm, HBW.out⟩
   have hbz : Below w0.heap.size w0 wr := HB0.out.trans (HBW.out.mono HB0.out.size)
   obtain ⟨gm, om, m, hMA, hml, hmx, e0, e1, e2, e3, e4⟩ := qMove_at (HM.out.mono qMoveR_mono hbz) hlt
   subst hMA
   have hk0 : (0 : Int) ≤ (k : Int) := by omega
   have hk1 : (k : Int) < (mn : Int) := by omega
   have HG1 : Hid (mvGo x.fields y.fields us ts (m :: mvs.drop (k + 1)) = R) := Lib.hid (by rw [← drop_cons hmx]; exact HGO.out)
   have HBZ := Lib.hid hbz
   obtain ⟨mt, mf, mb, ma, msh⟩ := m
   clear hmx hbz HGO
   by_cases hin : 1 ≤ ma ∧ ma < fn ∧ 1 ≤ mb ∧ mb < gn
   case neg =>
    have HE : Hid (R = false) := Lib.hid (by
     rw [← HG1.out, mvGo, if_pos (by rw [← HFN.out, ← HGN.out]; exact hin)])
    go_wp2_with fail
    all_goals first
     | (exfalso; omega)
     | (go_ret; exact ⟨ret_bool HE.out.symm, HBW.out.alloc HBW.out.size _⟩)
   obtain ⟨h1, h2, h3, h4⟩ := hin
   obtain ⟨pa, rfl⟩ : ∃ n : Nat, ma = n := ⟨ma.toNat, by omega⟩
   obtain ⟨pb, rfl⟩ : ∃ n : Nat, mb = n := ⟨mb.toNat, by omega⟩
   obtain ⟨ub, hub⟩ : ∃ v, us[pa]? = some v := ⟨us[pa]'(by have := HUS.out; omega), List.getElem?_eq_getElem _⟩
   obtain ⟨tb, htb⟩ : ∃ v, ts[pb]? = some v := ⟨ts[pb]'(by have := HTS.out; omega), List.getElem?_eq_getElem _⟩
   have cu : wr.cell? ⟨gu, pa, none⟩ = some (.bool ub) := by rw [HBU.out.cell]; simp [hub]
   have ct' : wr.cell? ⟨gs, pb, none⟩ = some (.bool tb) := by rw [HBS.out.cell]; simp [htb]
   have fu := HBU.out.frozen pa
   have fs := HBS.out.frozen pb
   have lu := HBU.out.lt
   have ls := HBS.out.lt
   have z1 : decide (pa < 1) = false := decide_eq_false (by omega)
   have z2 : decide (fn ≤ pa) = false := decide_eq_false (by omega)
   have z3 : decide (pb < 1) = false := decide_eq_false (by omega)
   have z4 : decide (gn ≤ pb) = false := decide_eq_false (by omega)
   have HG2 : Hid (R = if us[pa]? = some true then false else if ts[pb]? = some true then false else if mvFit x.fields y.fields ⟨mt, mf, pb, pa, msh⟩ then mvGo x.fields y.fields (us.set pa true) (ts.set pb true) (mvs.drop (k + 1)) else false) := Lib.hid (by
    rw [← HG1.out, mvGo, if_neg (by rw [← HFN.out, ← HGN.out]; exact fun h => h ⟨h1, h2, h3, h4⟩)]; simp only [Int.toNat_natCast])
   clear HG1
   cases ub with
   |
    true =>
    have HE : Hid (R = false) := Lib.hid (by rw [HG2.out, if_pos hub])
    go_wp2_with fail
    go_ret
    exact ⟨ret_bool HE.out.symm, HBW.out.alloc HBW.out.size _⟩
   | false =>
   cases tb with
   |
    true =>
    have HE : Hid (R = false) := Lib.hid (by rw [HG2.out, if_neg (by rw [hub]; simp), if_pos htb])
    go_wp2_with fail
    go_ret
    exact ⟨ret_bool HE.out.symm, HBW.out.alloc HBW.out.size _⟩
   | false =>
   have HG3 : Hid (R = if mvFit x.fields y.fields ⟨mt, mf, pb, pa, msh⟩ then mvGo x.fields y.fields (us.set pa true) (ts.set pb true) (mvs.drop (k + 1)) else false) := Lib.hid (by
    rw [HG2.out, if_neg (by rw [hub]; simp), if_neg (by rw [htb]; simp)])
   clear HG2
   go_upto_region 12 with fail
   clear z1 z2 z3 z4 cu ct' fu fs lu ls
   obtain ⟨wm, hwm⟩ : ∃ wm, wm = wr.alloc (.cells #[.string mt, .string mf, .int .i64 pb, .int .i64 pa, .int .i64 msh] 202) := ⟨_, rfl⟩
   rw [← hwm]
   have HBM : Hid (Below wb.heap.size wb wm) := Lib.hid (by rw [hwm]; exact HBR.out.alloc HBR.out.size _)
   have HKM : Hid (Blk wm wr.heap.size 202 #[.string mt, .string mf, .int .i64 pb, .int .i64 pa, .int .i64 msh]) := Lib.hid (by rw [hwm]; exact Blk.new _ _ _)
   have HKU : Hid (Blk wm gu 4 (us.map Value.bool).toArray) := Lib.hid (by rw [hwm]; exact HBU.out.alloc _)
   have HKS : Hid (Blk wm gs 4 (ts.map Value.bool).toArray) := Lib.hid (by rw [hwm]; exact HBS.out.alloc _)
   have cu : wm.cell? ⟨gu, pa, none⟩ = some (.bool false) := by rw [HKU.out.cell]; simp [hub]
   have ct' : wm.cell? ⟨gs, pb, none⟩ = some (.bool false) := by rw [HKS.out.cell]; simp [htb]
   have fu := HKU.out.frozen pa
   have fs := HKS.out.frozen pb
   have lu := HKU.out.lt
   have ls := HKS.out.lt
   have HLU : Hid (gu < wr.heap.size) := Lib.hid HBU.out.lt
   have HLS : Hid (gs < wr.heap.size) := Lib.hid HBS.out.lt
   have lM := HKM.out.lt
   obtain ⟨m0, m1, m2, m3, m4⟩ := HKM.out.five
   have hne1 : gu ≠ wr.heap.size := by have := HLU.out; omega
   have hne2 : gs ≠ wr.heap.size := by have := HLS.out; omega
   have hne3 := HNE.out
   clear hwm e0 e1 e2 e3 e4 hub htb
   go_cut [69] from 69 to 133 (fun v69 wx => v69 = .int .i64 k ∧ Blk wx gu 4 ((us.set pa true).map Value.bool).toArray ∧ Blk wx gs 4 ((ts.set pb true).map Value.bool).toArray ∧ Blk wx wr.heap.size 202 #[.string mt, .string mf, .int .i64 pb, .int .i64 pa, .int .i64 msh] ∧ Below wb.heap.size wb wx)
   case first =>
    go_region
    all_goals
     go_wp2_with fail
     go_meet
     first
      | exact ⟨rfl, blk_drew ((blk_setBool HKU.out).far hne3 _), blk_drew (blk_setBool (HKS.out.far hne3.symm _)), blk_drew ((HKM.out.far hne1.symm _).far hne2.symm _), ((HBM.out.setCell HGU.out _).setCell HGS.out _).drew⟩
      | exact ⟨rfl, blk_drew (blk_setBool (HKU.out.far hne3 _)), blk_drew ((blk_setBool HKS.out).far hne3.symm _), blk_drew ((HKM.out.far hne2.symm _).far hne1.symm _), ((HBM.out.setCell HGS.out _).setCell HGU.out _).drew⟩
   case rest =>
    obtain ⟨rfl, hbu, hbs, hbm, hbx⟩ := hcut
    obtain ⟨m0, m1, m2, m3, m4⟩ := hbm.five
    have lM := hbm.lt
    have HBU2 := Lib.hid hbu
    have HBS2 := Lib.hid hbs
    have HBX := Lib.hid hbx
    have HBMC := Lib.hid hbm
    have HBW2 : Hid (Below w.heap.size w wc) := Lib.hid (HBB.out.trans (hbx.mono HBB.out.size))
    have HBZ2 : Hid (Below w0.heap.size w0 wc) := Lib.hid (HB0.out.trans (HBW2.out.mono HB0.out.size))
    clear hbu hbs hbm hbx cu ct' fu fs lu ls HKU HKS HBM HKM HLU HLS hne1 hne2 hne3
    obtain ⟨x1, xo, X, XB, xm, xd, hX, hxl, hX1, f0, f1, f2, f3, f4, f5, f6, f7, f8, f9, f10, GX⟩ := qField_at (HF.out.mono qFieldR_mono HBZ2.out) (k := pa) (by omega)
    subst hX
    obtain ⟨y1, yo, Y, YB, ym, yd, hY, hyl, hY1, p0, p1, p2, p3, p4, p5, p6, p7, p8, p9, p10, GY⟩ := qField_at (HG.out.mono qFieldR_mono HBZ2.out) (k := pb) (by omega)
    subst hY
    have hpa : (pa : Int) < (fn : Int) := by omega
    have hpb : (pb : Int) < (gn : Int) := by omega
    have hpa0 : (0 : Int) ≤ (pa : Int) := by omega
    have hpb0 : (0 : Int) ≤ (pb : Int) := by omega
    obtain ⟨fv, hfv⟩ : ∃ v, fitsV X.type Y.type msh xm ym = v := ⟨_, rfl⟩
    have HFV : Hid (mvFit x.fields y.fields ⟨mt, mf, pb, pa, msh⟩ = fv) := Lib.hid (by
     rw [← hfv, mvFit]
     simp only [Int.toNat_natCast, hX1, hY1]
     rw [← GX.1.len, ← GY.1.len])
    have HFI : Hid (Calls Tryz.prog 143 #[.agg #[.int .i64 X.type.kind, .int .i64 X.type.lo, .int .i64 X.type.hi, .string X.type.of_, .int .i64 X.type.unit, .slice XB xm xd], .agg #[.int .i64 Y.type.kind, .int .i64 Y.type.lo, .int .i64 Y.type.hi, .string Y.type.of_, .int .i64 Y.type.unit, .slice YB ym yd], .int .i64 msh] wc.drew fun e w' => e = .returned (.bool fv) ∧ Below wc.heap.size wc w') := Lib.hid (by
     have := fitsT_any X.type Y.type msh XB YB xm xd ym yd wc.drew
     rw [hfv] at this
     exact this.mono fun _ _ h => ⟨h.1, (Below.refl wc.heap.size wc).drew.trans h.2⟩)
    have HS : Hid (∀ W, Below wc.heap.size wc W → W.cell? ⟨wr.heap.size, 2, none⟩ = some (.int .i64 pb) ∧ W.cell? ⟨wr.heap.size, 3, none⟩ = some (.int .i64 pa) ∧ W.cell? ⟨wr.heap.size, 4, none⟩ = some (.int .i64 msh) ∧
     W.cell? ⟨x1, xo + pa * 11 + 1, none⟩ = some (.int .i64 X.type.kind) ∧ W.cell? ⟨x1, xo + pa * 11 + 2, none⟩ = some (.int .i64 X.type.lo) ∧ W.cell? ⟨x1, xo + pa * 11 + 3, none⟩ = some (.int .i64 X.type.hi) ∧ W.cell? ⟨x1, xo + pa * 11 + 4, none⟩ = some (.string X.type.of_) ∧ W.cell? ⟨x1, xo + pa * 11 + 5, none⟩ = some (.int .i64 X.type.unit) ∧ W.cell? ⟨x1, xo + pa * 11 + 6, none⟩ = some (.slice XB xm xd) ∧
     W.cell? ⟨y1, yo + pb * 11 + 1, none⟩ = some (.int .i64 Y.type.kind) ∧ W.cell? ⟨y1, yo + pb * 11 + 2, none⟩ = some (.int .i64 Y.type.lo) ∧ W.cell? ⟨y1, yo + pb * 11 + 3, none⟩ = some (.int .i64 Y.type.hi) ∧ W.cell? ⟨y1, yo + pb * 11 + 4, none⟩ = some (.string Y.type.of_) ∧ W.cell? ⟨y1, yo + pb * 11 + 5, none⟩ = some (.int .i64 Y.type.unit) ∧ W.cell? ⟨y1, yo + pb * 11 + 6, none⟩ = some (.slice YB ym yd)) := Lib.hid (fun W hW =>
     ⟨(
      hW.cell (p := ⟨_, _, none⟩) lM).trans m2, (hW.cell (p := ⟨_, _, none⟩) lM).trans m3, (hW.cell (p := ⟨_, _, none⟩) lM).trans m4,
      (hW.cell (p := ⟨_, _, none⟩) hxl).trans f1, (hW.cell (p := ⟨_, _, none⟩) hxl).trans f2, (hW.cell (p := ⟨_, _, none⟩) hxl).trans f3, (hW.cell (p := ⟨_, _, none⟩) hxl).trans f4, (hW.cell (p := ⟨_, _, none⟩) hxl).trans f5, (hW.cell (p := ⟨_, _, none⟩) hxl).trans f6,
      (hW.cell (p := ⟨_, _, none⟩) hyl).trans p1, (hW.cell (p := ⟨_, _, none⟩) hyl).trans p2, (hW.cell (p := ⟨_, _, none⟩) hyl).trans p3, (hW.cell (p := ⟨_, _, none⟩) hyl).trans p4, (hW.cell (p := ⟨_, _, none⟩) hyl).trans p5, (hW.cell (p := ⟨_, _, none⟩) hyl).trans p6⟩)
    clear hfv hX1 hY1 f0 f1 f2 f3 f4 f5 f6 f7 f8 f9 f10 GX p0 p1 p2 p3 p4 p5 p6 p7 p8 p9 p10 GY m0 m1 m2 m3 m4
    go_upto_region 13 with fail
    go_region_held3 (fun W => W.cell? ⟨wr.heap.size, 2, none⟩ = some (.int .i64 pb) ∧ W.cell? ⟨wr.heap.size, 3, none⟩ = some (.int .i64 pa) ∧ W.cell? ⟨wr.heap.size, 4, none⟩ = some (.int .i64 msh) ∧
     W.cell? ⟨x1, xo + pa * 11 + 1, none⟩ = some (.int .i64 X.type.kind) ∧ W.cell? ⟨x1, xo + pa * 11 + 2, none⟩ = some (.int .i64 X.type.lo) ∧ W.cell? ⟨x1, xo + pa * 11 + 3, none⟩ = some (.int .i64 X.type.hi) ∧ W.cell? ⟨x1, xo + pa * 11 + 4, none⟩ = some (.string X.type.of_) ∧ W.cell? ⟨x1, xo + pa * 11 + 5, none⟩ = some (.int .i64 X.type.unit) ∧ W.cell? ⟨x1, xo + pa * 11 + 6, none⟩ = some (.slice XB xm xd) ∧
     W.cell? ⟨y1, yo + pb * 11 + 1, none⟩ = some (.int .i64 Y.type.kind) ∧ W.cell? ⟨y1, yo + pb * 11 + 2, none⟩ = some (.int .i64 Y.type.lo) ∧ W.cell? ⟨y1, yo + pb * 11 + 3, none⟩ = some (.int .i64 Y.type.hi) ∧ W.cell? ⟨y1, yo + pb * 11 + 4, none⟩ = some (.string Y.type.of_) ∧ W.cell? ⟨y1, yo + pb * 11 + 5, none⟩ = some (.int .i64 Y.type.unit) ∧ W.cell? ⟨y1, yo + pb * 11 + 6, none⟩ = some (.slice YB ym yd))
     (first | with_reducible exact HS.out _ (Below.refl _ _) | with_reducible exact HS.out _ (Below.refl _ _).drew | with_reducible exact HS.out _ hb3)
     (first
      | (go_at_call 143; refine HFI.out.mono ?_; rintro e w3 ⟨rfl, hb3⟩))
    have HB3 := Lib.hid hb3
    clear hb3 lM hxl hyl
    cases fv with
    |
     false =>
     have HE : Hid (R = false) := Lib.hid (by rw [HG3.out, HFV.out]; rfl)
     go_wp2_with fail
     go_ret
     exact ⟨ret_bool HE.out.symm, HBW2.out.trans (HB3.out.mono HBW2.out.size)⟩
    |
     true =>
     go_wp2_with fail
     go_roundg (mn - (k + 1))
     case measure => have := HQ.out; omega
     case rel => exact ⟨k + 1, us.set pa true, ts.set pb true, by omega, rfl, by go_num, by simpa using HUS.out, by simpa using HTS.out, by rw [HG3.out, HFV.out]; rfl, HBU2.out.below HB3.out HBU2.out.lt, HBS2.out.below HB3.out HBS2.out.lt, HBX.out.trans (HB3.out.mono HBX.out.size)⟩
end Go.Proofs.YtkgmonplcdnnbaaGreat
