/- Package rules: read. Written by genty.py. -/
import Derived.Test.YtkgmonplcdnnbaaGreatPm02
import Derived.Test.YtkgmonplcdnnbaaGreatPm03
import Derived.Laws.Cover3
namespace Go.Proofs.YtkgmonplcdnnbaaGreat
open Go.RowKit
theorem eqlMapNil (m : Option Nat) (w : World) : (binOp .eql 123 (.map m) (.map none)).run Tryz.prog w = .ok (.bool m.isNone) w := by
 simp only [binOp]
 simp [run_equal_map_nil w 123 _ _ m Tryz.underlying123]
theorem numbered_any (n x : Int) (m : Value) (w : World) : Calls Tryz.prog 144 #[.agg #[.int .i64 n, m], .int .i64 x] w fun e w' => e = .returned (.bool (decide (0 ≤ x) && decide (x < n))) ∧ Below w.heap.size w w' := by
 go_enter Tryz.func144, Tryz.ntmps144
 go_wp2_with fail
 all_goals
  go_ret
  refine ⟨ret_bool ?_, ((Below.refl _ _).alloc (Nat.le_refl _) _)⟩
  first
   | (simp_all; done)
   | (simp_all; omega)
set_option maxHeartbeats 8000000 in
set_option maxRecDepth 100000 in
theorem read_any (A1 A2 A3 A4 A5 A6 : Option Addr) (n1 c1 n2 c2 n3 c3 n4 c4 n5 c5 n6 c6 : Nat) (rs : List QRule) (w : World) (h4 : SlR 5 qRuleR w (.slice A4 n4 c4) rs) (hnum : ∀ r ∈ rs, (0 ≤ r.schema ∧ r.schema < n3) ∧ ∀ f ∈ r.froms, 0 ≤ f.schema ∧ f.schema < n3) :
 Calls Tryz.prog 79 #[(.agg #[.slice A1 n1 c1, .slice A2 n2 c2, .slice A3 n3 c3, .slice A4 n4 c4, .slice A5 n5 c5, .slice A6 n6 c6])] w fun e w' => ∃ M hs, e = .returned (.tuple #[.agg #[.int .i64 n3, .map (some M)], .int .i64 0]) ∧ GraphH w' w.heap.size M hs (needOf rs) ∧ Below w.heap.size w w' := by
 have hn4 : n4 ≤ 9223372036854775807 := by have := h4.le; omega
 have HL := Lib.hid h4.len
 have H4 := Lib.hid h4
 have HNUM := Lib.hid hnum
 clear h4 hnum
 have hmm : ∀ (w : World), (Instr.makeMap 126 none).run Tryz.prog w = .ok (.map (some w.heap.size)) (w.alloc (.map #[] 0)) := by
  intro w
  simp [Instr.makeMap]
 have hmi : ∀ (w : World), (Instr.makeMap 123 none).run Tryz.prog w = .ok (.map (some w.heap.size)) (w.alloc (.map #[] 0)) := by
  intro w
  simp [Instr.makeMap]
 have HMI := Lib.hid hmi
 clear hmi
 go_enter Tryz.func79, Tryz.ntmps79
 go_upto_region 2 with fail
 obtain ⟨wb, hwb⟩ : ∃ wq, wq = ((w.alloc (.cells #[.slice A1 n1 c1, .slice A2 n2 c2, .slice A3 n3 c3, .slice A4 n4 c4, .slice A5 n5 c5, .slice A6 n6 c6] 29)).alloc (.cells #[.int .i64 n3, .map (some (w.heap.size + 1 + 1))] 128)).alloc (.map #[] 0) := ⟨_, rfl⟩
 rw [← hwb]
 have hbb : Below w.heap.size w wb := by rw [hwb]; exact (((Below.refl _ _).alloc (Nat.le_refl _) _).alloc (by simp) _).alloc (by simp; omega) _
 have kA : Blk wb w.heap.size 29 #[.slice A1 n1 c1, .slice A2 n2 c2, .slice A3 n3 c3, .slice A4 n4 c4, .slice A5 n5 c5, .slice A6 n6 c6] := by rw [hwb]; exact ((Blk.new _ _ _).alloc _).alloc _
 have kB : Blk wb (w.heap.size + 1) 128 #[.int .i64 n3, .map (some (w.heap.size + 1 + 1))] := by rw [hwb]; exact (blkNew (by simp)).alloc _
 have kM : MapAt (Value.int .i64) (fun b : Nat => Value.map (some b)) wb (w.heap.size + 1 + 1) [] := by
  rw [hwb]
  have := MapAt.new (Value.int .i64) (fun b : Nat => Value.map (some b)) ((w.alloc (.cells #[.slice A1 n1 c1, .slice A2 n2 c2, .slice A3 n3 c3, .slice A4 n4 c4, .slice A5 n5 c5, .slice A6 n6 c6] 29)).alloc (.cells #[.int .i64 n3, .map (some (w.heap.size + 1 + 1))] 128))
  simpa using this
 obtain ⟨M, hM⟩ : ∃ g, g = w.heap.size + 1 + 1 := ⟨_, rfl⟩
 have hMge : w.heap.size ≤ M := by omega
 rw [← hM] at kB kM ⊢
 obtain ⟨gb, hgb⟩ : ∃ g, g = w.heap.size + 1 := ⟨_, rfl⟩
 rw [← hgb] at kB ⊢
 obtain ⟨ga, hga⟩ : ∃ g, g = w.heap.size := ⟨_, rfl⟩
 have hG0 : GraphH wb w.heap.size M [] (needOf []) := ⟨kM, hMge, by simp, by simp, fun p hp => by simp at hp, fun x _ => rfl⟩
 rw [← hga] at kA
 have a3 := kA.cell 3
 simp only [List.getElem?_toArray, List.getElem?_cons_zero, List.getElem?_cons_succ] at a3
 have la := kA.lt
 have HBB := Lib.hid hbb
 have HKB := Lib.hid kB
 have HG0 := Lib.hid hG0
 have HMG := Lib.hid hMge
 have HGB : Hid (w.heap.size ≤ gb) := Lib.hid (by omega)
 rw [hga] at a3 la
 clear hwb hbb kA kB kM hM hgb hga hG0 hmm hMge
 go_wp2_with fail
 clear a3
 go_loopg [16] n4 (fun q i wr => ∃ k : Nat, ∃ hs : List (Int × Nat), k ≤ n4 ∧ q = n4 - k ∧ i = .int .i64 k ∧ GraphH wr w.heap.size M hs (needOf (rs.take k)) ∧ Blk wr gb 128 #[.int .i64 n3, .map (some M)] ∧ Below w.heap.size w wr)
 case atStart => exact ⟨0, [], Nat.zero_le _, rfl, rfl, HG0.out, HKB.out, HBB.out⟩
 case round =>
  clear HG0 HKB HBB
  obtain ⟨k, hs, hk, hq, rfl, hg, hkb, hb⟩ := hrel
  have HQ := Lib.hid hq
  have HB := Lib.hid hb
  have HG := Lib.hid hg
  have HK := Lib.hid hkb
  clear hq hb hg hkb
  by_cases hlt : k < n4
  case neg =>
   have HF : Hid (needOf (rs.take k) = needOf rs) := Lib.hid (by rw [List.take_of_length_le (by have := HL.out; omega)])
   have b0 := HK.out.cell 0
   have b1 := HK.out.cell 1
   have f0 := HK.out.frozen 0
   have f1 := HK.out.frozen 1
   have lb := HK.out.lt
   simp only [List.getElem?_toArray, List.getElem?_cons_zero, List.getElem?_cons_succ] at b0 b1
   go_wp2_with fail
   have kE : Blk ((wr.setCell ⟨gb, 0, none⟩ (.int .i64 n3)).setCell ⟨gb, 1, none⟩ (.map (some M))) gb 128 #[.int .i64 n3, .map (some M)] := (HK.out.put 0 (.int .i64 n3)).put 1 (.map (some M))
   have x0 := kE.cell 0
   have x1 := kE.cell 1
   simp only [List.getElem?_toArray, List.getElem?_cons_zero, List.getElem?_cons_succ] at x0 x1
   refine bodyPost_ret (v := .tuple #[.agg #[.int .i64 n3, .map (some M)], .int .i64 0]) (by simp [results, Tryz.results79, go_sem, x0, x1]) rfl ?_
   have hG9 : GraphH ((wr.setCell ⟨gb, 0, none⟩ (.int .i64 n3)).setCell ⟨gb, 1, none⟩ (.map (some M))) w.heap.size M hs (needOf rs) := by
    rw [← HF.out]
    refine HG.out.kept (fun c hc => ?_)
    have hne : c ≠ gb := by
     rintro rfl
     rcases hc with rfl | hc
     · exact map_blk HK.out HG.out.out
     ·
      obtain ⟨p, hp, rfl⟩ := List.mem_map.1 hc
      exact map_blk HK.out (HG.out.ins p hp).2.2.at_
    exact (Below.heap_setCell _ _ _ c hne).trans (Below.heap_setCell _ _ _ c hne)
   refine ⟨M, hs, rfl, hG9, ?_⟩
   have hgw : wr.grownBy ((wr.setCell ⟨gb, 0, none⟩ (.int .i64 n3)).setCell ⟨gb, 1, none⟩ (.map (some M))) (some gb) := grown_put (grown_put ⟨rfl, rfl, rfl, Nat.le_refl _, fun _ _ _ => rfl⟩ _ _) _ _
   exact HB.out.grown hgw HB.out.size (fun r e => by cases e; exact HGB.out)
  obtain ⟨b, off, x, B1, m1, d1, B2, m2, d2, B3, m3, d3, rfl, hbl, hx, e0, e1, e2, e3, e4, g1, g2, g3⟩ := qRule_at H4.out hlt
  rw [← HB.out.cell (p := ⟨b, _, none⟩) hbl] at e0 e1 e2 e3 e4
  have hbl : b < wr.heap.size := Nat.lt_of_lt_of_le hbl HB.out.size
  have hxm := HNUM.out x (List.mem_of_getElem? hx)
  have HX := Lib.hid hx
  have HXM := Lib.hid hxm
  have G1 := Lib.hid g1.1
  have hm1 : m1 ≤ 9223372036854775807 := by have := g1.1.le; omega
  have hkn : (k : Int) < (n4 : Int) := by omega
  have hk0 : (0 : Int) ≤ (k : Int) := by omega
  have b0 := HK.out.cell 0
  have b1 := HK.out.cell 1
  have lb := HK.out.lt
  simp only [List.getElem?_toArray, List.getElem?_cons_zero, List.getElem?_cons_succ] at b0 b1
  clear hx hxm g1 g2 g3
  have HC : Hid (∀ W, Calls Tryz.prog 144 #[.agg #[.int .i64 n3, .map (some M)], .int .i64 x.schema] W fun e w' => e = .returned (.bool true) ∧ Below W.heap.size W w') := Lib.hid (fun W => by
   have := numbered_any n3 x.schema (.map (some M)) W
   rw [decide_eq_true HXM.out.1.1, decide_eq_true HXM.out.1.2] at this
   exact this)
  go_upto_region 5 with fail
  clear e0 e1 e2 e3 e4
  obtain ⟨w1, hw1⟩ : ∃ q, q = wr.alloc (.cells #[.string x.head, .int .i64 x.schema, .slice B1 m1 d1, .slice B2 m2 d2, .slice B3 m3 d3] 83) := ⟨_, rfl⟩
  obtain ⟨gr, hgr⟩ : ∃ q, q = wr.heap.size := ⟨_, rfl⟩
  have kR : Blk w1 gr 83 #[.string x.head, .int .i64 x.schema, .slice B1 m1 d1, .slice B2 m2 d2, .slice B3 m3 d3] := by rw [hw1, hgr]; exact Blk.new _ _ _
  have hb1 : Below wr.heap.size wr w1 := by rw [hw1]; exact (Below.refl _ _).alloc (Nat.le_refl _) _
  rw [← hw1, ← hgr]
  clear hw1 hgr
  have c1r := kR.cell 1
  have c2r := kR.cell 2
  have lr := kR.lt
  simp only [List.getElem?_toArray, List.getElem?_cons_zero, List.getElem?_cons_succ] at c1r c2r
  have b0 := (HK.out.below hb1 lb).cell 0
  have b1 := (HK.out.below hb1 lb).cell 1
  simp only [List.getElem?_toArray, List.getElem?_cons_zero, List.getElem?_cons_succ] at b0 b1
  have HR := Lib.hid kR
  have HB1 := Lib.hid hb1
  clear kR hb1
  go_wp2_with (go_at_call 144; refine (HC.out w1).mono ?_)
  first | rintro e w2 rfl hb2 | rintro e w2 ⟨rfl, hb2⟩
  have HB2 : Hid (Below wr.heap.size wr w2) := Lib.hid (HB1.out.trans (hb2.mono HB1.out.size))
  have kR2 := HR.out.below hb2 lr
  have lr2 := kR2.lt
  have c1r := kR2.cell 1
  have c2r := kR2.cell 2
  have kB2 := HK.out.below HB2.out lb
  have lb2 := kB2.lt
  have b0 := kB2.cell 0
  have b1 := kB2.cell 1
  simp only [List.getElem?_toArray, List.getElem?_cons_zero, List.getElem?_cons_succ] at c1r c2r b0 b1
  have HR2 := Lib.hid kR2
  have HK2 := Lib.hid kB2
  have HG2 := Lib.hid (HG.out.below HB2.out)
  have HBW2 : Hid (Below w.heap.size w w2) := Lib.hid (HB.out.trans (HB2.out.mono HB.out.size))
  clear kR2 kB2 hb2 HR HC HB1
  have hlook := run_lookup_m (keyEq_int Tryz.underlying3) Tryz.underlying126 (z := .map none) (by kernel_rfl) HG2.out.out x.schema false
  by_cases hin : x.schema ∈ hs.map (·.1)
  ·
   obtain ⟨hb, hhb⟩ : ∃ hb, getM hs x.schema = some hb := by
    cases h : getM hs x.schema with
    | none => exact absurd hin (getM_none.1 h)
    | some v => exact ⟨v, rfl⟩
   rw [hhb] at hlook
   simp only [Option.map_some, Option.getD_some, Bool.false_eq_true, if_false] at hlook
   have HHB := Lib.hid hhb
   clear hin hhb
   have heq := eqlMapNil (some hb)
   go_upto_region 9 with fail
   clear hlook
   have HINM : Hid (∃ hb, getM hs x.schema = some hb) := Lib.hid ⟨hb, HHB.out⟩
   have lrr := HR2.out.lt
   have cc2 := HR2.out.cell 2
   simp only [List.getElem?_toArray, List.getElem?_cons_zero, List.getElem?_cons_succ] at cc2
   go_wp2_with fail
   clear cc2
   obtain ⟨wy, rfl⟩ : ∃ q, q = wr := ⟨_, rfl⟩
   go_loopg [40] m1 (fun q i wr => ∃ j : Nat, j ≤ m1 ∧ q = m1 - j ∧ i = .int .i64 j ∧ GraphH wr w.heap.size M hs (fun z => if z = x.schema then ((x.froms.take j).map fun f => f.schema).foldl addNew (needOf (rs.take k) x.schema) else needOf (rs.take k) z) ∧ Blk wr gb 128 #[.int .i64 n3, .map (some M)] ∧ Blk wr gr 83 #[.string x.head, .int .i64 x.schema, .slice B1 m1 d1, .slice B2 m2 d2, .slice B3 m3 d3] ∧ Below w.heap.size w wr)
   case atStart =>
    refine ⟨0, Nat.zero_le _, rfl, rfl, ?_, HK2.out, HR2.out, HBW2.out⟩
    have he : (fun z => if z = x.schema then ((x.froms.take 0).map fun f => f.schema).foldl addNew (needOf (rs.take k) x.schema) else needOf (rs.take k) z) = needOf (rs.take k) := by
     funext z
     by_cases e : z = x.schema
     · rw [if_pos e, e]; rfl
     · rw [if_neg e]
    rw [he]
    exact HG2.out
   case round =>
    obtain ⟨j, hj, hq, rfl, hg, hkb, hkr, hb⟩ := hrel
    have HQ3 := Lib.hid hq
    have HB3 := Lib.hid hb
    have HG3 := Lib.hid hg
    have HK3 := Lib.hid hkb
    have HR3 := Lib.hid hkr
    clear hq hb hg hkb hkr
    by_cases hlt2 : j < m1
    case neg =>
     have HE : Hid ((fun z => if z = x.schema then ((x.froms.take j).map fun f => f.schema).foldl addNew (needOf (rs.take k) x.schema) else needOf (rs.take k) z) = needOf (rs.take (k + 1))) := Lib.hid (by
      rw [show x.froms.take j = x.froms from List.take_of_length_le (by have := G1.out.len; omega), take_snoc HX.out]
      funext z
      unfold needOf
      rw [List.foldl_append]
      simp only [List.foldl_cons, List.foldl_nil]
      by_cases e : z = x.schema
      · subst e; simp only [if_true]; rfl
      · rw [if_neg e, if_neg (fun h => e h.symm)])
     go_wp2_with fail
     go_roundg (n4 - (k + 1))
     case measure => have := HQ.out; omega
     case rel => exact ⟨k + 1, hs, by omega, rfl, by go_num, by rw [← HE.out]; exact HG3.out, HK3.out, HB3.out⟩
    obtain ⟨fb, fo, y, rfl, hfl, hy, z0, z1, z2, z3, z4, z5, z6, z7⟩ := qFrom_at (G1.out.mono qFromR_mono HB3.out) hlt2
    have hym := HXM.out.2 y (List.mem_of_getElem? hy)
    have HY := Lib.hid hy
    have hjn : (j : Int) < (m1 : Int) := by omega
    have hj0 : (0 : Int) ≤ (j : Int) := by omega
    have HC : Hid (∀ W, Calls Tryz.prog 144 #[.agg #[.int .i64 n3, .map (some M)], .int .i64 y.schema] W fun e w' => e = .returned (.bool true) ∧ Below W.heap.size W w') := Lib.hid (fun W => by
     have := numbered_any n3 y.schema (.map (some M)) W
     rw [decide_eq_true hym.1, decide_eq_true hym.2] at this
     exact this)
    clear hym hy
    go_upto_region 12 with fail
    clear z0 z1 z2 z3 z4 z5 z6 z7
    obtain ⟨w4, hw4⟩ : ∃ q, q = wr.alloc (.cells #[.string y.name, .string y.kind, .int .i64 y.schema, .string y.of_.name, .string y.of_.path, .int .i64 y.of_.var, .int .i64 y.of_.field, .int .i64 y.of_.n] 205) := ⟨_, rfl⟩
    obtain ⟨gf, hgf⟩ : ∃ q, q = wr.heap.size := ⟨_, rfl⟩
    have kF : Blk w4 gf 205 #[.string y.name, .string y.kind, .int .i64 y.schema, .string y.of_.name, .string y.of_.path, .int .i64 y.of_.var, .int .i64 y.of_.field, .int .i64 y.of_.n] := by rw [hw4, hgf]; exact Blk.new _ _ _
    have hb4 : Below wr.heap.size wr w4 := by rw [hw4]; exact (Below.refl _ _).alloc (Nat.le_refl _) _
    rw [← hw4, ← hgf]
    clear hw4 hgf
    have d2 := kF.cell 2
    have lf := kF.lt
    have lb := HK3.out.lt
    have b0 := (HK3.out.below hb4 lb).cell 0
    have b1 := (HK3.out.below hb4 lb).cell 1
    simp only [List.getElem?_toArray, List.getElem?_cons_zero, List.getElem?_cons_succ] at b0 b1 d2
    have HF4 := Lib.hid kF
    have HB4 := Lib.hid hb4
    clear kF hb4
    go_wp2_with (go_at_call 144; refine (HC.out w4).mono ?_)
    first | rintro e w5 rfl hb5 | rintro e w5 ⟨rfl, hb5⟩
    have HB5 : Hid (Below wr.heap.size wr w5) := Lib.hid (HB4.out.trans (hb5.mono HB4.out.size))
    have kF5 := HF4.out.below hb5 lf
    have d2 := kF5.cell 2
    have kB5 := HK3.out.below HB5.out lb
    have b0 := kB5.cell 0
    have b1 := kB5.cell 1
    have kR5 := HR3.out.below HB5.out HR3.out.lt
    have c1r := kR5.cell 1
    simp only [List.getElem?_toArray, List.getElem?_cons_zero, List.getElem?_cons_succ] at c1r d2 b0 b1
    have HK5 := Lib.hid kB5
    have HR5 := Lib.hid kR5
    have hG5 := HG3.out.below HB5.out
    have HBW5 : Hid (Below w.heap.size w w5) := Lib.hid (HB3.out.trans (HB5.out.mono HB3.out.size))
    obtain ⟨hb, hhb⟩ := HINM.out
    have hlook := run_lookup_m (keyEq_int Tryz.underlying3) Tryz.underlying126 (z := .map none) (by kernel_rfl) hG5.out x.schema false
    rw [hhb] at hlook
    simp only [Option.map_some, Option.getD_some, Bool.false_eq_true, if_false] at hlook
    have hmem := getM_mem hhb
    obtain ⟨hb1, hb2, hb3⟩ := hG5.ins _ hmem
    obtain ⟨w6, hrun6, hm6, hgr6⟩ := run_update_t (keyEq_int Tryz.underlying3) Tryz.underlying123 hb3 y.schema true
    have hG6 := hG5.insert hmem hm6 hgr6
    have hfe : (fun z => if z = x.schema then addNew ((fun z => if z = x.schema then ((x.froms.take j).map fun f => f.schema).foldl addNew (needOf (rs.take k) x.schema) else needOf (rs.take k) z) x.schema) y.schema else (fun z => if z = x.schema then ((x.froms.take j).map fun f => f.schema).foldl addNew (needOf (rs.take k) x.schema) else needOf (rs.take k) z) z) = (fun z => if z = x.schema then ((x.froms.take (j + 1)).map fun f => f.schema).foldl addNew (needOf (rs.take k) x.schema) else needOf (rs.take k) z) := by
     funext z
     rw [take_snoc HY.out, List.map_append, List.foldl_append]
     by_cases e : z = x.schema
     · subst e; simp only [if_true]; rfl
     · simp only [if_neg e]
    rw [hfe] at hG6
    have HG6 := Lib.hid hG6
    have HK6 := Lib.hid (HK5.out.grown hgr6 (fun e => by injection e with e; subst e; exact map_blk HK5.out hb3.at_))
    have HR6 := Lib.hid (HR5.out.grown hgr6 (fun e => by injection e with e; subst e; exact map_blk HR5.out hb3.at_))
    have HBW6 : Hid (Below w.heap.size w w6) := Lib.hid (HBW5.out.grown hgr6 HBW5.out.size (fun r e => by cases e; exact hb1))
    clear hfe hG6 hmem hb1 hb2 hb3 hm6 hgr6 hG5 hhb kF5 kB5 kR5 hb5
    go_wp2_with fail
    go_roundg (m1 - (j + 1))
    case measure => have := HQ3.out; omega
    case rel => exact ⟨j + 1, by omega, rfl, by go_num, HG6.out, HK6.out, HR6.out, HBW6.out⟩
  ·
   rw [getM_none.2 hin] at hlook
   simp only [Option.map_none, Option.getD_none, Bool.false_eq_true, if_false] at hlook
   have hmi := HMI.out
   have heq := eqlMapNil none
   have hba : Below w2.heap.size w2 (w2.alloc (.map #[] 0)) := (Below.refl _ _).alloc (Nat.le_refl _) _
   have hGa := HG2.out.below hba
   obtain ⟨w3, hrun3, hm3, hgr3⟩ := run_update_m (keyEq_int Tryz.underlying3) Tryz.underlying126 hGa.out x.schema w2.heap.size
   have hlt2 : ∀ q, q ∈ hs.map (·.2) → q < w2.heap.size := fun q hq => by
    obtain ⟨p, hp, rfl⟩ := List.mem_map.1 hq
    exact (HG2.out.ins p hp).2.2.lt
   have hG3 := hGa.add hin (MapT.new _ _ w2) (Nat.le_trans HMG.out (Nat.le_of_lt HG2.out.out.lt)) (Nat.ne_of_gt HG2.out.out.lt) (fun h => Nat.lt_irrefl _ (hlt2 _ h)) hm3 hgr3
   have HG3' := Lib.hid hG3
   have HK3' := Lib.hid ((HK2.out.below hba lb2).grown hgr3 (fun e => by injection e with e; subst e; exact map_blk (HK2.out.below hba lb2) hGa.out))
   have HR3' := Lib.hid ((HR2.out.below hba lr2).grown hgr3 (fun e => by injection e with e; subst e; exact map_blk (HR2.out.below hba lr2) hGa.out))
   have HBW3 : Hid (Below w.heap.size w w3) := Lib.hid ((HBW2.out.trans (hba.mono HBW2.out.size)).grown hgr3 (Nat.le_trans HBW2.out.size hba.size) (fun r e => by cases e; exact HMG.out))
   have HINM : Hid (∃ hb, getM (hs ++ [(x.schema, w2.heap.size)]) x.schema = some hb) := Lib.hid (by
    cases h : getM (hs ++ [(x.schema, w2.heap.size)]) x.schema with
    | none => exact absurd (by simp) (getM_none.1 h)
    | some v => exact ⟨v, rfl⟩)
   clear hba hGa hm3 hgr3 hlt2 hG3 hin
   go_upto_region 9 with fail
   clear hlook hrun3 hmi
   have lrr := HR3'.out.lt
   have cc2 := HR3'.out.cell 2
   simp only [List.getElem?_toArray, List.getElem?_cons_zero, List.getElem?_cons_succ] at cc2
   go_wp2_with fail
   clear cc2
   obtain ⟨wy, rfl⟩ : ∃ q, q = wr := ⟨_, rfl⟩
   go_loopg [40] m1 (fun q i wr => ∃ j : Nat, j ≤ m1 ∧ q = m1 - j ∧ i = .int .i64 j ∧ GraphH wr w.heap.size M (hs ++ [(x.schema, w2.heap.size)]) (fun z => if z = x.schema then ((x.froms.take j).map fun f => f.schema).foldl addNew (needOf (rs.take k) x.schema) else needOf (rs.take k) z) ∧ Blk wr gb 128 #[.int .i64 n3, .map (some M)] ∧ Blk wr gr 83 #[.string x.head, .int .i64 x.schema, .slice B1 m1 d1, .slice B2 m2 d2, .slice B3 m3 d3] ∧ Below w.heap.size w wr)
   case atStart =>
    refine ⟨0, Nat.zero_le _, rfl, rfl, ?_, HK3'.out, HR3'.out, HBW3.out⟩
    have he : (fun z => if z = x.schema then ((x.froms.take 0).map fun f => f.schema).foldl addNew (needOf (rs.take k) x.schema) else needOf (rs.take k) z) = needOf (rs.take k) := by
     funext z
     by_cases e : z = x.schema
     · rw [if_pos e, e]; rfl
     · rw [if_neg e]
    rw [he]
    exact HG3'.out
   case round =>
    obtain ⟨j, hj, hq, rfl, hg, hkb, hkr, hb⟩ := hrel
    have HQ3 := Lib.hid hq
    have HB3 := Lib.hid hb
    have HG3 := Lib.hid hg
    have HK3 := Lib.hid hkb
    have HR3 := Lib.hid hkr
    clear hq hb hg hkb hkr
    by_cases hlt2 : j < m1
    case neg =>
     have HE : Hid ((fun z => if z = x.schema then ((x.froms.take j).map fun f => f.schema).foldl addNew (needOf (rs.take k) x.schema) else needOf (rs.take k) z) = needOf (rs.take (k + 1))) := Lib.hid (by
      rw [show x.froms.take j = x.froms from List.take_of_length_le (by have := G1.out.len; omega), take_snoc HX.out]
      funext z
      unfold needOf
      rw [List.foldl_append]
      simp only [List.foldl_cons, List.foldl_nil]
      by_cases e : z = x.schema
      · subst e; simp only [if_true]; rfl
      · rw [if_neg e, if_neg (fun h => e h.symm)])
     go_wp2_with fail
     go_roundg (n4 - (k + 1))
     case measure => have := HQ.out; omega
     case rel => exact ⟨k + 1, (hs ++ [(x.schema, w2.heap.size)]), by omega, rfl, by go_num, by rw [← HE.out]; exact HG3.out, HK3.out, HB3.out⟩
    obtain ⟨fb, fo, y, rfl, hfl, hy, z0, z1, z2, z3, z4, z5, z6, z7⟩ := qFrom_at (G1.out.mono qFromR_mono HB3.out) hlt2
    have hym := HXM.out.2 y (List.mem_of_getElem? hy)
    have HY := Lib.hid hy
    have hjn : (j : Int) < (m1 : Int) := by omega
    have hj0 : (0 : Int) ≤ (j : Int) := by omega
    have HC : Hid (∀ W, Calls Tryz.prog 144 #[.agg #[.int .i64 n3, .map (some M)], .int .i64 y.schema] W fun e w' => e = .returned (.bool true) ∧ Below W.heap.size W w') := Lib.hid (fun W => by
     have := numbered_any n3 y.schema (.map (some M)) W
     rw [decide_eq_true hym.1, decide_eq_true hym.2] at this
     exact this)
    clear hym hy
    go_upto_region 12 with fail
    clear z0 z1 z2 z3 z4 z5 z6 z7
    obtain ⟨w4, hw4⟩ : ∃ q, q = wr.alloc (.cells #[.string y.name, .string y.kind, .int .i64 y.schema, .string y.of_.name, .string y.of_.path, .int .i64 y.of_.var, .int .i64 y.of_.field, .int .i64 y.of_.n] 205) := ⟨_, rfl⟩
    obtain ⟨gf, hgf⟩ : ∃ q, q = wr.heap.size := ⟨_, rfl⟩
    have kF : Blk w4 gf 205 #[.string y.name, .string y.kind, .int .i64 y.schema, .string y.of_.name, .string y.of_.path, .int .i64 y.of_.var, .int .i64 y.of_.field, .int .i64 y.of_.n] := by rw [hw4, hgf]; exact Blk.new _ _ _
    have hb4 : Below wr.heap.size wr w4 := by rw [hw4]; exact (Below.refl _ _).alloc (Nat.le_refl _) _
    rw [← hw4, ← hgf]
    clear hw4 hgf
    have d2 := kF.cell 2
    have lf := kF.lt
    have lb := HK3.out.lt
    have b0 := (HK3.out.below hb4 lb).cell 0
    have b1 := (HK3.out.below hb4 lb).cell 1
    simp only [List.getElem?_toArray, List.getElem?_cons_zero, List.getElem?_cons_succ] at b0 b1 d2
    have HF4 := Lib.hid kF
    have HB4 := Lib.hid hb4
    clear kF hb4
    go_wp2_with (go_at_call 144; refine (HC.out w4).mono ?_)
    first | rintro e w5 rfl hb5 | rintro e w5 ⟨rfl, hb5⟩
    have HB5 : Hid (Below wr.heap.size wr w5) := Lib.hid (HB4.out.trans (hb5.mono HB4.out.size))
    have kF5 := HF4.out.below hb5 lf
    have d2 := kF5.cell 2
    have kB5 := HK3.out.below HB5.out lb
    have b0 := kB5.cell 0
    have b1 := kB5.cell 1
    have kR5 := HR3.out.below HB5.out HR3.out.lt
    have c1r := kR5.cell 1
    simp only [List.getElem?_toArray, List.getElem?_cons_zero, List.getElem?_cons_succ] at c1r d2 b0 b1
    have HK5 := Lib.hid kB5
    have HR5 := Lib.hid kR5
    have hG5 := HG3.out.below HB5.out
    have HBW5 : Hid (Below w.heap.size w w5) := Lib.hid (HB3.out.trans (HB5.out.mono HB3.out.size))
    obtain ⟨hb, hhb⟩ := HINM.out
    have hlook := run_lookup_m (keyEq_int Tryz.underlying3) Tryz.underlying126 (z := .map none) (by kernel_rfl) hG5.out x.schema false
    rw [hhb] at hlook
    simp only [Option.map_some, Option.getD_some, Bool.false_eq_true, if_false] at hlook
    have hmem := getM_mem hhb
    obtain ⟨hb1, hb2, hb3⟩ := hG5.ins _ hmem
    obtain ⟨w6, hrun6, hm6, hgr6⟩ := run_update_t (keyEq_int Tryz.underlying3) Tryz.underlying123 hb3 y.schema true
    have hG6 := hG5.insert hmem hm6 hgr6
    have hfe : (fun z => if z = x.schema then addNew ((fun z => if z = x.schema then ((x.froms.take j).map fun f => f.schema).foldl addNew (needOf (rs.take k) x.schema) else needOf (rs.take k) z) x.schema) y.schema else (fun z => if z = x.schema then ((x.froms.take j).map fun f => f.schema).foldl addNew (needOf (rs.take k) x.schema) else needOf (rs.take k) z) z) = (fun z => if z = x.schema then ((x.froms.take (j + 1)).map fun f => f.schema).foldl addNew (needOf (rs.take k) x.schema) else needOf (rs.take k) z) := by
     funext z
     rw [take_snoc HY.out, List.map_append, List.foldl_append]
     by_cases e : z = x.schema
     · subst e; simp only [if_true]; rfl
     · simp only [if_neg e]
    rw [hfe] at hG6
    have HG6 := Lib.hid hG6
    have HK6 := Lib.hid (HK5.out.grown hgr6 (fun e => by injection e with e; subst e; exact map_blk HK5.out hb3.at_))
    have HR6 := Lib.hid (HR5.out.grown hgr6 (fun e => by injection e with e; subst e; exact map_blk HR5.out hb3.at_))
    have HBW6 : Hid (Below w.heap.size w w6) := Lib.hid (HBW5.out.grown hgr6 HBW5.out.size (fun r e => by cases e; exact hb1))
    clear hfe hG6 hmem hb1 hb2 hb3 hm6 hgr6 hG5 hhb kF5 kB5 kR5 hb5
    go_wp2_with fail
    go_roundg (m1 - (j + 1))
    case measure => have := HQ3.out; omega
    case rel => exact ⟨j + 1, by omega, rfl, by go_num, HG6.out, HK6.out, HR6.out, HBW6.out⟩
end Go.Proofs.YtkgmonplcdnnbaaGreat
