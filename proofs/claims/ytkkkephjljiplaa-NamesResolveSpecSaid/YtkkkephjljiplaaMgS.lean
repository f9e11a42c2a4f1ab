/- The reference's schema. Written by genref9.py. -/
import Derived.Test.YtkkkephjljiplaaMgW
namespace Go.Proofs.Ytkkkephjljiplaa
open Go.RowKit
theorem mask_split {lo M N : Nat} {w : World} (h1 : lo ≤ M) (h2 : M ≤ N) : mask lo N w = mask M N (mask lo M w) := by
  unfold mask
  congr 1
  apply Array.ext
  · simp
  · intro i hi1 hi2
    simp only [Array.getElem_mapIdx]
    by_cases hi : lo ≤ i ∧ i < N
    · rw [if_pos hi]
      by_cases hm : M ≤ i ∧ i < N
      · rw [if_pos hm]
      · rw [if_neg hm, if_pos (by omega)]
    · rw [if_neg hi, if_neg (by omega), if_neg (by omega)]
theorem XT.more {w wb : World} {ss zr : Array Value} {T : TypeId} (hb : Below w.heap.size w wb) (hs : Blk wb w.heap.size 29 ss) (hr : Blk wb (w.heap.size + 1) T zr) (hz : wb.heap.size = w.heap.size + 2) (xs : Array Value) : XT w ss T 2 xs 1 zr (wb.alloc (.cells xs T)) :=
  ⟨hb.alloc (by omega) _, hs.alloc _, by rw [← hz]; exact Blk.new _ _ _, hr.alloc _⟩
set_option maxHeartbeats 8000000 in
set_option maxRecDepth 100000 in
theorem refSchemaX_any (A1 A2 A3 A4 A5 A6 : Option Addr) (n1 c1 n2 c2 n3 c3 n4 c4 n5 c5 n6 c6 : Nat) (a lo : Nat) (s : QSource) (x : QSchema) (w : World) (hlo : lo ≤ w.heap.size) (hs : qSourceR (mask lo w.heap.size w) [.slice A1 n1 c1, .slice A2 n2 c2, .slice A3 n3 c3, .slice A4 n4 c4, .slice A5 n5 c5, .slice A6 n6 c6] s) (hx : s.schemas[a]? = some x) :
    Calls Try.prog 41 #[.agg #[.slice A1 n1 c1, .slice A2 n2 c2, .slice A3 n3 c3, .slice A4 n4 c4, .slice A5 n5 c5, .slice A6 n6 c6], .int .i64 (a : Int)] w (RetPair qSchemaR lo (schemaQ s x) (schemaOk s x) w) := by
  have HS := Lib.hid (qSourceR_unm _ _ _ _ _ hs)
  obtain ⟨Wm, hWm⟩ : ∃ X, X = mask lo w.heap.size w := ⟨_, rfl⟩
  have HWM := Lib.hid hWm
  rw [← hWm] at hs
  have hsb := (src_parts hs).2.2.1
  have hln := hsb.1.len
  have hle := hsb.1.le
  have hal := (List.getElem?_eq_some_iff.1 hx).1
  have han : a < n3 := by omega
  obtain ⟨b, off, x', B1, m1, d1, B2, m2, d2, rfl, hbl, hx', cc0', cc1', cc2', cc3', cc4', cc5', hf, hd⟩ := qSchema_at hsb.1 han
  obtain rfl : x = x' := by rw [hx] at hx'; exact Option.some.inj hx'
  have hfb := hf.1
  have hdb := hd.1
  rw [hWm] at hbl cc0' cc1' cc2' cc3' cc4' cc5' hfb hdb
  rw [mask_size] at hbl
  have cc0 := mask_cell cc0'
  have cc1 := mask_cell cc1'
  have cc2 := mask_cell cc2'
  have cc3 := mask_cell cc3'
  have cc4 := mask_cell cc4'
  have cc5 := mask_cell cc5'
  have HL1 := Lib.hid hf.1.len
  have HB1 := Lib.hid hf.2
  have H1 : Hid (SlR 11 (fun _ => qFieldR Wm) w (.slice B1 m1 d1) x.fields) := Lib.hid (by rw [hWm]; exact hfb.unm_fix)
  have HL2 := Lib.hid hd.1.len
  have HB2 := Lib.hid hd.2
  have H2 : Hid (SlR 4 (fun _ => qDepR Wm) w (.slice B2 m2 d2) x.deps) := Lib.hid (by rw [hWm]; exact hdb.unm_fix)
  have HFC : Hid (∀ W, SlR 6 qSchemaR W (.slice (some ⟨b, off, none⟩) n3 c3) s.schemas → Calls Try.prog 61 #[.agg #[.slice A1 n1 c1, .slice A2 n2 c2, .slice (some ⟨b, off, none⟩) n3 c3, .slice A4 n4 c4, .slice A5 n5 c5, .slice A6 n6 c6], .int .i64 (a : Int)] W (RetStrs (fieldNames x) W)) := Lib.hid (fun W h => by
    have := refFields_any A1 A2 (some ⟨b, off, none⟩) A4 A5 A6 n1 c1 n2 c2 n3 c3 n4 c4 n5 c5 n6 c6 s (a : Int) W h
    rw [fieldNo_at hx] at this
    exact this)
  have ha0 : (0 : Int) ≤ (a : Int) := by omega
  have hani : (a : Int) < (n3 : Int) := by omega
  clear hs hsb hln hal hx hx' cc0' cc1' cc2' cc3' cc4' cc5' hf hd hfb hdb hWm
  obtain ⟨j1, i1, z10, z11, z12⟩ := info_parts Try.infoField
  have I1 := Lib.hid i1
  have Z1 := Lib.hid (And.intro z10 (And.intro z11 z12))
  clear i1 z10 z11 z12
  obtain ⟨j2, i2, z20, z21, z22⟩ := info_parts Try.infoDep
  have I2 := Lib.hid i2
  have Z2 := Lib.hid (And.intro z20 (And.intro z21 z22))
  clear i2 z20 z21 z22
  obtain ⟨ji, ii, zi0, zi1, zi2⟩ := info_parts Try.infoInt
  have Ii := Lib.hid ii
  have Zi := Lib.hid (And.intro zi0 (And.intro zi1 zi2))
  clear ii zi0 zi1 zi2
  go_enter Try.func41, Try.ntmps41
  go_upto_region 1 with fail
  have hb2 := below_two w (.cells #[.slice A1 n1 c1, .slice A2 n2 c2, .slice (some ⟨b, off, none⟩) n3 c3, .slice A4 n4 c4, .slice A5 n5 c5, .slice A6 n6 c6] 29) (.cells #[.string ⟨#[]⟩, .string ⟨#[]⟩, .int .i64 0, .int .i64 0, .slice none 0 0, .slice none 0 0] 40)
  have hs2 : Blk ((w.alloc (.cells #[.slice A1 n1 c1, .slice A2 n2 c2, .slice (some ⟨b, off, none⟩) n3 c3, .slice A4 n4 c4, .slice A5 n5 c5, .slice A6 n6 c6] 29)).alloc (.cells #[.string ⟨#[]⟩, .string ⟨#[]⟩, .int .i64 0, .int .i64 0, .slice none 0 0, .slice none 0 0] 40)) w.heap.size 29 #[.slice A1 n1 c1, .slice A2 n2 c2, .slice (some ⟨b, off, none⟩) n3 c3, .slice A4 n4 c4, .slice A5 n5 c5, .slice A6 n6 c6] := (Blk.new _ _ _).alloc _
  have hr2 : Blk ((w.alloc (.cells #[.slice A1 n1 c1, .slice A2 n2 c2, .slice (some ⟨b, off, none⟩) n3 c3, .slice A4 n4 c4, .slice A5 n5 c5, .slice A6 n6 c6] 29)).alloc (.cells #[.string ⟨#[]⟩, .string ⟨#[]⟩, .int .i64 0, .int .i64 0, .slice none 0 0, .slice none 0 0] 40)) (w.heap.size + 1) 40 #[.string ⟨#[]⟩, .string ⟨#[]⟩, .int .i64 0, .int .i64 0, .slice none 0 0, .slice none 0 0] := blk_new2 _ _ _ _
  have hz2 : ((w.alloc (.cells #[.slice A1 n1 c1, .slice A2 n2 c2, .slice (some ⟨b, off, none⟩) n3 c3, .slice A4 n4 c4, .slice A5 n5 c5, .slice A6 n6 c6] 29)).alloc (.cells #[.string ⟨#[]⟩, .string ⟨#[]⟩, .int .i64 0, .int .i64 0, .slice none 0 0, .slice none 0 0] 40)).heap.size = w.heap.size + 2 := by simp
  generalize (w.alloc (.cells #[.slice A1 n1 c1, .slice A2 n2 c2, .slice (some ⟨b, off, none⟩) n3 c3, .slice A4 n4 c4, .slice A5 n5 c5, .slice A6 n6 c6] 29)).alloc (.cells #[.string ⟨#[]⟩, .string ⟨#[]⟩, .int .i64 0, .int .i64 0, .slice none 0 0, .slice none 0 0] 40) = wb at hb2 hs2 hr2 hz2 ⊢
  have k2 := hs2.cell 2
  simp only [List.getElem?_toArray, List.getElem?_cons_zero, List.getElem?_cons_succ] at k2
  have lk := hs2.lt
  have b0 := (hb2.cell (p := ⟨b, off + a * 6, none⟩) hbl).trans cc0
  have b1 := (hb2.cell (p := ⟨b, off + a * 6 + 1, none⟩) hbl).trans cc1
  have b2 := (hb2.cell (p := ⟨b, off + a * 6 + 2, none⟩) hbl).trans cc2
  have b3 := (hb2.cell (p := ⟨b, off + a * 6 + 3, none⟩) hbl).trans cc3
  have b4 := (hb2.cell (p := ⟨b, off + a * 6 + 4, none⟩) hbl).trans cc4
  have b5 := (hb2.cell (p := ⟨b, off + a * 6 + 5, none⟩) hbl).trans cc5
  have lb : b < wb.heap.size := Nat.lt_of_lt_of_le hbl hb2.size
  have HB2W := Lib.hid (And.intro hb2 (And.intro hs2 (And.intro hr2 hz2)))
  clear hb2 hs2 hr2 hz2 cc0 cc1 cc2 cc3 cc4 cc5
  go_upto_region 3 with fail
  have hxt := XT.more HB2W.out.1 HB2W.out.2.1 HB2W.out.2.2.1 HB2W.out.2.2.2 #[.string x.name, .string x.by_, .int .i64 (x.issuer), .int .i64 x.version, .slice B1 m1 d1, .slice B2 m2 d2]
  rw [HB2W.out.2.2.2]
  generalize wb.alloc (.cells #[.string x.name, .string x.by_, .int .i64 (x.issuer), .int .i64 x.version, .slice B1 m1 d1, .slice B2 m2 d2] 40) = wq at hxt ⊢
  have HXQ := Lib.hid hxt
  clear hxt k2 lk lb b0 b1 b2 b3 b4 b5 HB2W
  have k0 := HXQ.out.s.cell 0
  have x1 := HXQ.out.x.cell 1
  have x2 := HXQ.out.x.cell 2
  have y2 := HXQ.out.x.frozen 2
  simp only [List.getElem?_toArray, List.getElem?_cons_zero, List.getElem?_cons_succ] at k0 x1 x2
  have lk := HXQ.out.s.lt
  have lx := HXQ.out.x.lt
  have HI := Lib.hid (src_parts (qSourceR_mono _ _ HXQ.out.bl _ _ HS.out)).1.1
  go_upto_region 4 with (go_at_call 54; ((with_reducible refine (refFind_any A1 n1 c1 s.issuers x.by_ wq HI.out).mono ?_)); rintro e w' ⟨rfl, rfl⟩)
  have hxn := HXQ.out.put (by omega) (by omega) 2 (.int .i64 (idxO s.issuers x.by_))
  simp only [List.setIfInBounds_toArray, List.set_cons_zero, List.set_cons_succ] at hxn
  generalize wq.setCell ⟨w.heap.size + 2, 2, none⟩ (.int .i64 (idxO s.issuers x.by_)) = wq2 at hxn ⊢
  clear k0 x1 x2 y2 lk lx HI HXQ
  have HXQ := Lib.hid hxn
  clear hxn
  obtain ⟨wq, rfl⟩ : ∃ x, x = wq2 := ⟨_, rfl⟩
  go_cut [7] from 24 to 29 (fun v wx => v = .bool (decide (0 ≤ idxO s.issuers x.by_)) ∧ wx = wq)
  case first =>
    · have x2 := HXQ.out.x.cell 2
      have lx := HXQ.out.x.lt
      simp only [List.getElem?_toArray, List.getElem?_cons_zero, List.getElem?_cons_succ] at x2
      by_cases hv1 : (0 : Int) ≤ idxO s.issuers x.by_
      · have dv1 : decide ((0 : Int) ≤ idxO s.issuers x.by_) = true := by simpa using hv1
        have HOK : Hid ((decide (0 ≤ idxO s.issuers x.by_)) = true) := Lib.hid (by first | rfl | (simp; done) | (simp [*]; done) | (simp; omega))
        go_wp2_with fail
        go_meet
        exact ⟨by rw [HOK.out], rfl⟩
      · have dv1 : decide ((0 : Int) ≤ idxO s.issuers x.by_) = false := by simpa using hv1
        have HOK : Hid ((decide (0 ≤ idxO s.issuers x.by_)) = false) := Lib.hid (by first | rfl | (simp; done) | (simp [*]; done) | (simp; omega))
        go_wp2_with fail
        go_meet
        exact ⟨by rw [HOK.out], rfl⟩
  case rest =>
    obtain ⟨rfl, rfl⟩ := hcut
    obtain ⟨obp, hobp⟩ : ∃ b, b = (decide (0 ≤ idxO s.issuers x.by_)) := ⟨_, rfl⟩
    rw [← hobp]
    have HOBP := Lib.hid hobp
    clear hobp
    obtain ⟨wa1, rfl⟩ : ∃ x, x = wc := ⟨_, rfl⟩
    have q2 := HXQ.out.x.cell 4
    simp only [List.getElem?_toArray, List.getElem?_cons_zero, List.getElem?_cons_succ] at q2
    have lx := HXQ.out.x.lt
    have HXR := Lib.hid HXQ.out
    clear HXQ
    go_wp2_with (at_builtin; refine wpList_append_row _ rfl (.tmp 30) (.tmp 32) 37 45 rfl j1 _ 120 Try.underlying37 I1.out Z1.out.1 Z1.out.2.1 Z1.out.2.2 rfl (by decide) (R := fun _ => qFieldR Wm) (fun _ => qFieldR_one Wm) wa1.heap.size (.slice (some ⟨wa1.heap.size, 0, none⟩) 0 0) 0 [] rfl (World.ownsRow_lit wa1 #[] 0 (Nat.le_refl _) (Nat.zero_le _) rfl) B1 m1 d1 x.fields rfl (H1.out.mono (fun _ _ _ _ _ h => h) (HXR.out.bl.alloc HXR.out.bl.size _)) (by have := HB1.out; have := HL1.out; unfold maxLen; omega) (by have := HB1.out; have := HL1.out; omega) (by simp) ?_
                 intro v1 w1 cs1 hcs1 ho1 hgr1 hat1
                 have hcs1 : CellsR 11 qFieldR Wm cs1 x.fields := ⟨hcs1.1, hcs1.2⟩
                 have hb1 : Below wa1.heap.size wa1 w1 := ((Below.refl _ _).alloc (Nat.le_refl _) _).grown hgr1 (by simp) (by simp [Value.ownBlock])
                 obtain ⟨vA1, vn, vc1, rfl, hvn⟩ := own_form' ho1
                 have hx1 := HXR.out.below hb1
                 have q21 := hx1.x.cell 4
                 have f21 := hx1.x.frozen 4
                 simp only [List.getElem?_toArray, List.getElem?_cons_zero, List.getElem?_cons_succ] at q21
                 have lx1 := hx1.x.lt
                 have HX1 := Lib.hid hx1
                 have HO1 := Lib.hid ho1
                 have HC1 := Lib.hid hcs1
                 have HBW1 := Lib.hid hb1
                 have HVN := Lib.hid hvn
                 clear hx1 ho1 hcs1 hb1 hgr1 hat1 hvn)
    obtain rfl : m1 = vn := by have := HVN.out; omega
    have hx2 := HX1.out.put (by omega) (by omega) 4 (.slice vA1 m1 vc1)
    simp only [List.setIfInBounds_toArray, List.set_cons_zero, List.set_cons_succ] at hx2
    have ho2 : (w1.setCell ⟨w.heap.size + 2, 4, none⟩ (.slice vA1 m1 vc1)).ownsRow wa1.heap.size 45 11 (.slice vA1 m1 vc1) m1 cs1 := by
      have := HO1.out
      rw [Nat.zero_add, List.nil_append] at this
      exact own_far this (by have := HXR.out.x.lt; simpa using this) _
    generalize w1.setCell ⟨w.heap.size + 2, 4, none⟩ (.slice vA1 m1 vc1) = w2 at hx2 ho2 ⊢
    have HX2 := Lib.hid hx2
    have HO2 := Lib.hid ho2
    have hwa1 := HXR.out.lt'
    clear hx2 ho2 q2 lx q21 f21 lx1 HXR HX1 HO1 HBW1 HVN
    go_loopg [7, 8] m1 (fun q o j wr => ∃ (k : Nat) (cr : List Value), k ≤ m1 ∧ q = m1 - k ∧ o = .bool (obp && (x.fields.take k).all (fieldOk s)) ∧ j = .int .i64 k ∧ XT w #[.slice A1 n1 c1, .slice A2 n2 c2, .slice (some ⟨b, off, none⟩) n3 c3, .slice A4 n4 c4, .slice A5 n5 c5, .slice A6 n6 c6] 40 2 #[.string x.name, .string x.by_, .int .i64 (idxO s.issuers x.by_), .int .i64 x.version, .slice vA1 m1 vc1, .slice B2 m2 d2] 1 #[.string ⟨#[]⟩, .string ⟨#[]⟩, .int .i64 0, .int .i64 0, .slice none 0 0, .slice none 0 0] wr ∧
        wr.ownsRow wa1.heap.size 45 11 (.slice vA1 m1 vc1) m1 cr ∧ CellsR 11 qFieldR Wm cr ((x.fields.take k).map (fieldQ s) ++ x.fields.drop k))
    case atStart => exact ⟨0, cs1, Nat.zero_le _, rfl, by rw [List.take_zero, List.all_nil, Bool.and_true], rfl, HX2.out, HO2.out, HC1.out⟩
    case round =>
      clear HX2 HO2 HC1
      obtain ⟨k, cr, hk, hq, rfl, rfl, hxr, hoh, hcr⟩ := hrel
      have HQ := Lib.hid hq
      clear hq
      obtain ⟨ob, hob⟩ : ∃ b, b = (obp && (x.fields.take k).all (fieldOk s)) := ⟨_, rfl⟩
      rw [← hob]
      have HOB := Lib.hid hob
      clear hob
      have g2 := hxr.x.cell 4
      simp only [List.getElem?_toArray, List.getElem?_cons_zero, List.getElem?_cons_succ] at g2
      have lx := hxr.x.lt
      by_cases hlt : k < m1
      · skip
        rcases own_row hoh with ⟨h, h0⟩ | ⟨H, hcap, h, hH, hHw, hn2⟩
        · exfalso; injection h with _ h; omega
        injection h with h1 h2 h3
        subst h1 h3
        clear h2
        obtain ⟨m, hm⟩ : ∃ m, x.fields[k]? = some m := ⟨x.fields[k]'(by have := HL1.out; omega), List.getElem?_eq_getElem _⟩
        have HM := Lib.hid hm
        have HLEN : Hid (((x.fields.take k).map (fieldQ s)).length = k) := Lib.hid (by have := HL1.out; simp; omega)
        have HATK := Lib.hid (drop_at HLEN.out hm)
        have hkn : (k : Int) < (m1 : Int) := by omega
        have hk0 : (0 : Int) ≤ (k : Int) := by omega
        have HXQ := Lib.hid hxr
        have HOQ := Lib.hid hoh
        have HCQ := Lib.hid hcr
        clear hm hxr hoh hcr g2 lx
        obtain ⟨wq, rfl⟩ : ∃ x, x = wr := ⟨_, rfl⟩
        obtain ⟨cq, rfl⟩ : ∃ x, x = cr := ⟨_, rfl⟩
        have g2 := HXQ.out.x.cell 4
        simp only [List.getElem?_toArray, List.getElem?_cons_zero, List.getElem?_cons_succ] at g2
        have lx := HXQ.out.x.lt
        have lH := own_lt HOQ.out
        obtain ⟨fA, fn, fc, hck, -⟩ := HCQ.out.chunk HATK.out
        have e5 := own_cell HOQ.out hlt (by omega) hck (j := 5) rfl
        clear hck
        have f5 := HOQ.out.frozenAt (k * 11 + 5)
        go_upto_region 10 with fail
        have hgn : wq.grownBy (wq.setCell ⟨H, k * 11 + 5, none⟩ (.int .i64 (-1))) (some H) := grown_near (World.grownBy.refl _ _) _ _
        have hxn := HXQ.out.far (K := H) hgn (by omega) (by omega) (by omega)
        have hon := (HOQ.out.stored (k * 11 + 5) (.int .i64 (-1))).1
        have hcn := field_put HCQ.out HATK.out (-1)
        rw [set_drop HLEN.out HM.out] at hcn
        generalize wq.setCell ⟨H, k * 11 + 5, none⟩ (.int .i64 (-1)) = wq2 at hxn hon ⊢
        generalize cq.set (k * 11 + 5) (.int .i64 (-1)) = cq2 at hon hcn
        clear f5 hgn
        clear g2 lx lH e5
        clear HXQ HOQ HCQ HATK
        have HXQ := Lib.hid hxn
        have HOQ := Lib.hid hon
        have HCQ := Lib.hid hcn
        clear hxn hon hcn
        obtain ⟨wq, rfl⟩ : ∃ x, x = wq2 := ⟨_, rfl⟩
        obtain ⟨cq, rfl⟩ : ∃ x, x = cq2 := ⟨_, rfl⟩
        have HATK : Hid ((((x.fields.take k).map (fieldQ s) ++ [{ m with type := { m.type with unit := -1 } }]) ++ x.fields.drop (k + 1))[k]? = some ({ m with type := { m.type with unit := -1 } })) := Lib.hid (mid_at HLEN.out)
        by_cases hkd : m.type.kind = 1 ∧ m.type.of_ ≠ noStr
        · obtain ⟨hk1, hof⟩ := hkd
          have t1 : m.type.of_.toList.isEmpty = false := noStr_ne hof
          have t2 : ¬ m.type.of_.toList = [] := by intro e; rw [e] at t1; cases t1
          have HKD := Lib.hid (show m.type.kind = 1 ∧ m.type.of_ ≠ noStr from ⟨hk1, hof⟩)
          clear hof
          obtain ⟨k0, k1, k2, k3, k4, k5⟩ := six_cells HXQ.out.s (Below.refl _ _)
          have lk := HXQ.out.s.lt
          have g2 := HXQ.out.x.cell 4
          simp only [List.getElem?_toArray, List.getElem?_cons_zero, List.getElem?_cons_succ] at g2
          have lx := HXQ.out.x.lt
          have lH := own_lt HOQ.out
          obtain ⟨fA, fn, fc, hck, -⟩ := HCQ.out.chunk HATK.out
          have e1 := own_cell HOQ.out hlt (by omega) hck (j := 1) rfl
          have e4 := own_cell HOQ.out hlt (by omega) hck (j := 4) rfl
          have e5 := own_cell HOQ.out hlt (by omega) hck (j := 5) rfl
          clear hck
          have HSP := Lib.hid (src_parts (qSourceR_mono _ _ HXQ.out.bl.drew _ _ HS.out)).2.1
          go_upto_region 11 with fail
          have HKT : Hid (∀ X : World, Below wq.heap.size wq X → (X.cell? ⟨w.heap.size, 0, none⟩ = some (.slice A1 n1 c1) ∧ X.cell? ⟨w.heap.size, 1, none⟩ = some (.slice A2 n2 c2) ∧ X.cell? ⟨w.heap.size, 2, none⟩ = some (.slice (some ⟨b, off, none⟩) n3 c3) ∧ X.cell? ⟨w.heap.size, 3, none⟩ = some (.slice A4 n4 c4) ∧ X.cell? ⟨w.heap.size, 4, none⟩ = some (.slice A5 n5 c5) ∧ X.cell? ⟨w.heap.size, 5, none⟩ = some (.slice A6 n6 c6) ∧ X.cell? ⟨w.heap.size + 2, 4, none⟩ = some (.slice (some ⟨H, 0, none⟩) m1 vc1) ∧ X.cell? ⟨H, k * 11 + 4, none⟩ = some (.string m.type.of_) ∧ wq.grownBy X (some (H))) ∧ ((X.setCell ⟨H, k * 11 + 5, none⟩ (.int .i64 (idxO (unitNames s) m.type.of_))).cell? ⟨w.heap.size, 0, none⟩ = some (.slice A1 n1 c1) ∧ (X.setCell ⟨H, k * 11 + 5, none⟩ (.int .i64 (idxO (unitNames s) m.type.of_))).cell? ⟨w.heap.size, 1, none⟩ = some (.slice A2 n2 c2) ∧ (X.setCell ⟨H, k * 11 + 5, none⟩ (.int .i64 (idxO (unitNames s) m.type.of_))).cell? ⟨w.heap.size, 2, none⟩ = some (.slice (some ⟨b, off, none⟩) n3 c3) ∧ (X.setCell ⟨H, k * 11 + 5, none⟩ (.int .i64 (idxO (unitNames s) m.type.of_))).cell? ⟨w.heap.size, 3, none⟩ = some (.slice A4 n4 c4) ∧ (X.setCell ⟨H, k * 11 + 5, none⟩ (.int .i64 (idxO (unitNames s) m.type.of_))).cell? ⟨w.heap.size, 4, none⟩ = some (.slice A5 n5 c5) ∧ (X.setCell ⟨H, k * 11 + 5, none⟩ (.int .i64 (idxO (unitNames s) m.type.of_))).cell? ⟨w.heap.size, 5, none⟩ = some (.slice A6 n6 c6) ∧ (X.setCell ⟨H, k * 11 + 5, none⟩ (.int .i64 (idxO (unitNames s) m.type.of_))).cell? ⟨w.heap.size + 2, 4, none⟩ = some (.slice (some ⟨H, 0, none⟩) m1 vc1) ∧ (X.setCell ⟨H, k * 11 + 5, none⟩ (.int .i64 (idxO (unitNames s) m.type.of_))).cell? ⟨H, k * 11 + 4, none⟩ = some (.string m.type.of_) ∧ wq.grownBy (X.setCell ⟨H, k * 11 + 5, none⟩ (.int .i64 (idxO (unitNames s) m.type.of_))) (some (H)))) := Lib.hid (fun X hX => ⟨⟨(hX.cell (p := ⟨w.heap.size, 0, none⟩) lk).trans k0, (hX.cell (p := ⟨w.heap.size, 1, none⟩) lk).trans k1, (hX.cell (p := ⟨w.heap.size, 2, none⟩) lk).trans k2, (hX.cell (p := ⟨w.heap.size, 3, none⟩) lk).trans k3, (hX.cell (p := ⟨w.heap.size, 4, none⟩) lk).trans k4, (hX.cell (p := ⟨w.heap.size, 5, none⟩) lk).trans k5, (hX.cell (p := ⟨w.heap.size + 2, 4, none⟩) lx).trans g2, (hX.cell (p := ⟨H, k * 11 + 4, none⟩) lH).trans e4, grown_of_below hX _⟩, ⟨put_ne ((hX.cell (p := ⟨w.heap.size, 0, none⟩) lk).trans k0) (.inl (by omega)), put_ne ((hX.cell (p := ⟨w.heap.size, 1, none⟩) lk).trans k1) (.inl (by omega)), put_ne ((hX.cell (p := ⟨w.heap.size, 2, none⟩) lk).trans k2) (.inl (by omega)), put_ne ((hX.cell (p := ⟨w.heap.size, 3, none⟩) lk).trans k3) (.inl (by omega)), put_ne ((hX.cell (p := ⟨w.heap.size, 4, none⟩) lk).trans k4) (.inl (by omega)), put_ne ((hX.cell (p := ⟨w.heap.size, 5, none⟩) lk).trans k5) (.inl (by omega)), put_ne ((hX.cell (p := ⟨w.heap.size + 2, 4, none⟩) lx).trans g2) (.inl (by omega)), put_ne ((hX.cell (p := ⟨H, k * 11 + 4, none⟩) lH).trans e4) (.inr (by omega)), grownb_put hX _ _⟩⟩)
          apply wp_viaS (G := fun w3 => ∃ w1, Below wq.heap.size wq w1 ∧ w3 = w1.setCell ⟨H, k * 11 + 5, none⟩ (.int .i64 (idxO (unitNames s) m.type.of_)))
          · go_region_held3 (fun w' => w'.cell? ⟨w.heap.size, 0, none⟩ = some (.slice A1 n1 c1) ∧ w'.cell? ⟨w.heap.size, 1, none⟩ = some (.slice A2 n2 c2) ∧ w'.cell? ⟨w.heap.size, 2, none⟩ = some (.slice (some ⟨b, off, none⟩) n3 c3) ∧ w'.cell? ⟨w.heap.size, 3, none⟩ = some (.slice A4 n4 c4) ∧ w'.cell? ⟨w.heap.size, 4, none⟩ = some (.slice A5 n5 c5) ∧ w'.cell? ⟨w.heap.size, 5, none⟩ = some (.slice A6 n6 c6) ∧ w'.cell? ⟨w.heap.size + 2, 4, none⟩ = some (.slice (some ⟨H, 0, none⟩) m1 vc1) ∧ w'.cell? ⟨H, k * 11 + 4, none⟩ = some (.string m.type.of_) ∧ wq.grownBy w' (some (H)))
              (first | exact (HKT.out _ HBC.out).1 | exact (HKT.out _ HBC.out).2 | exact (HKT.out _ (Below.refl _ _).drew).1 | exact (HKT.out _ (Below.refl _ _)).1)
              (first
                | (go_at_call 54; ((with_reducible refine (refFind_any _ _ _ (unitNames s) (m.type.of_) _ HSL.out).mono ?_)); rintro e w' ⟨rfl, rfl⟩)
                | (go_at_call 81; ((with_reducible refine (refUnits_any A1 A2 (some ⟨b, off, none⟩) A4 A5 A6 n1 c1 n2 c2 n3 c3 n4 c4 n5 c5 n6 c6 s _ HSP.out).mono ?_)); rintro e wc ⟨xA, xc, rfl, hsl, hbc⟩
                   have hbz : Below wq.heap.size wq wc := Below.trans (Below.refl _ _).drew hbc
                   have HSL := Lib.hid hsl.1
                   have HBC := Lib.hid hbz
                   have rs := (hbz.cell (p := ⟨H, k * 11 + 5, none⟩) lH).trans e5
                   have fs := (own_below0 HOQ.out hbz).frozenAt (k * 11 + 5)
                   have lz := Nat.lt_of_lt_of_le lH hbz.size
                   clear hsl hbc hbz))
            all_goals exact ⟨xA, xc, rfl, _, HBC.out, rfl⟩
          rintro xA xc w3 ⟨w1, hb1, rfl⟩
          clear HKT
          have hgn : w1.grownBy (w1.setCell ⟨H, k * 11 + 5, none⟩ (.int .i64 (idxO (unitNames s) m.type.of_))) (some H) := grown_near (World.grownBy.refl _ _) _ _
          have hxn := (HXQ.out.below hb1).far (K := H) hgn (by omega) (by omega) (by omega)
          have hon := ((own_below0 HOQ.out hb1).stored (k * 11 + 5) (.int .i64 (idxO (unitNames s) m.type.of_))).1
          have hcn := field_put HCQ.out HATK.out (idxO (unitNames s) m.type.of_)
          generalize w1.setCell ⟨H, k * 11 + 5, none⟩ (.int .i64 (idxO (unitNames s) m.type.of_)) = wq2 at hxn hon ⊢
          generalize cq.set (k * 11 + 5) (.int .i64 (idxO (unitNames s) m.type.of_)) = cq2 at hon hcn
          clear hb1 HSP hgn
          clear k0 k1 k2 k3 k4 k5 lk g2 lx lH e1 e4 e5
          rw [set_mid HLEN.out, show ({ m with type := { m.type with unit := idxO (unitNames s) m.type.of_ } } : QField) = fieldQ s m from by unfold fieldQ; rw [if_pos HKD.out], map_snoc HM.out] at hcn
          clear HXQ HOQ HCQ HATK
          have HXQ := Lib.hid hxn
          have HOQ := Lib.hid hon
          have HCQ := Lib.hid hcn
          clear hxn hon hcn
          obtain ⟨wq, rfl⟩ : ∃ x, x = wq2 := ⟨_, rfl⟩
          obtain ⟨cq, rfl⟩ : ∃ x, x = cq2 := ⟨_, rfl⟩
          have HATK : Hid (((x.fields.take (k + 1)).map (fieldQ s) ++ x.fields.drop (k + 1))[k]? = some (fieldQ s m)) := Lib.hid (by
            rw [List.getElem?_append_left (by have := (List.getElem?_eq_some_iff.1 HM.out).1; simp; omega), List.getElem?_map, List.getElem?_take_of_lt (by omega), HM.out]; rfl)
          have HFO : Hid (fieldOk s m = decide (0 ≤ (fieldQ s m).type.unit)) := Lib.hid (by unfold fieldOk; rw [decide_eq_true HKD.out]; rfl)
          have g2 := HXQ.out.x.cell 4
          simp only [List.getElem?_toArray, List.getElem?_cons_zero, List.getElem?_cons_succ] at g2
          have lx := HXQ.out.x.lt
          have lH := own_lt HOQ.out
          obtain ⟨fA, fn, fc, hck, -⟩ := HCQ.out.chunk HATK.out
          have e5 := own_cell HOQ.out hlt (by omega) hck (j := 5) rfl
          clear hck
          cases ob with
          | false =>
            have HOK : Hid ((obp && (x.fields.take (k + 1)).all (fieldOk s)) = false) := Lib.hid (by rw [all_snoc HM.out, ← Bool.and_assoc, ← HOB.out]; rw [HFO.out]; first | rfl | (simp; done) | (simp [*]; done) | (simp; omega))
            go_wp2_with fail
            go_roundg (m1 - (k + 1))
            case measure => have := HQ.out; omega
            case rel => exact ⟨k + 1, _, by omega, rfl, by rw [HOK.out], by go_num, HXQ.out, HOQ.out, HCQ.out⟩
          | true =>
            by_cases hv1 : (0 : Int) ≤ (fieldQ s m).type.unit
            · have dv1 : decide ((0 : Int) ≤ (fieldQ s m).type.unit) = true := by simpa using hv1
              have HOK : Hid ((obp && (x.fields.take (k + 1)).all (fieldOk s)) = true) := Lib.hid (by rw [all_snoc HM.out, ← Bool.and_assoc, ← HOB.out]; rw [HFO.out]; first | rfl | (simp; done) | (simp [*]; done) | (simp; omega))
              go_wp2_with fail
              go_roundg (m1 - (k + 1))
              case measure => have := HQ.out; omega
              case rel => exact ⟨k + 1, _, by omega, rfl, by rw [HOK.out], by go_num, HXQ.out, HOQ.out, HCQ.out⟩
            · have dv1 : decide ((0 : Int) ≤ (fieldQ s m).type.unit) = false := by simpa using hv1
              have HOK : Hid ((obp && (x.fields.take (k + 1)).all (fieldOk s)) = false) := Lib.hid (by rw [all_snoc HM.out, ← Bool.and_assoc, ← HOB.out]; rw [HFO.out]; first | rfl | (simp; done) | (simp [*]; done) | (simp; omega))
              go_wp2_with fail
              go_roundg (m1 - (k + 1))
              case measure => have := HQ.out; omega
              case rel => exact ⟨k + 1, _, by omega, rfl, by rw [HOK.out], by go_num, HXQ.out, HOQ.out, HCQ.out⟩
        · have HFQ : Hid (({ m with type := { m.type with unit := -1 } } : QField) = fieldQ s m ∧ fieldOk s m = true) := Lib.hid ⟨by unfold fieldQ; rw [if_neg hkd], by unfold fieldOk; rw [decide_eq_false hkd]; rfl⟩
          have HCQ2 := HCQ.out
          rw [HFQ.out.1, map_snoc HM.out] at HCQ2
          clear HCQ
          have HCQ := Lib.hid HCQ2
          clear HCQ2
          have HATK : Hid (((x.fields.take (k + 1)).map (fieldQ s) ++ x.fields.drop (k + 1))[k]? = some (fieldQ s m)) := Lib.hid (by
            rw [List.getElem?_append_left (by have := (List.getElem?_eq_some_iff.1 HM.out).1; simp; omega), List.getElem?_map, List.getElem?_take_of_lt (by omega), HM.out]; rfl)
          have HQ1 : Hid ((fieldQ s m).type.kind = m.type.kind ∧ (fieldQ s m).type.of_ = m.type.of_) := Lib.hid ⟨rfl, rfl⟩
          have g2 := HXQ.out.x.cell 4
          simp only [List.getElem?_toArray, List.getElem?_cons_zero, List.getElem?_cons_succ] at g2
          have lx := HXQ.out.x.lt
          have lH := own_lt HOQ.out
          obtain ⟨fA, fn, fc, hck, -⟩ := HCQ.out.chunk HATK.out
          have e1 := own_cell HOQ.out hlt (by omega) hck (j := 1) rfl
          have e4 := own_cell HOQ.out hlt (by omega) hck (j := 4) rfl
          clear hck
          rw [HQ1.out.1] at e1
          rw [HQ1.out.2] at e4
          by_cases hk1 : m.type.kind = 1
          · have hof : m.type.of_ = noStr := Decidable.byContradiction fun h => hkd ⟨hk1, h⟩
            have t1 : m.type.of_.toList.isEmpty = true := by rw [hof, noStr_list]; rfl
            have t2 : m.type.of_.toList = [] := by rw [hof, noStr_list]
            clear hof hkd
            have HOK : Hid ((obp && (x.fields.take (k + 1)).all (fieldOk s)) = ob) := Lib.hid (by rw [all_snoc HM.out, ← Bool.and_assoc, ← HOB.out]; rw [HFQ.out.2, Bool.and_true])
            go_wp2_with fail
            go_roundg (m1 - (k + 1))
            case measure => have := HQ.out; omega
            case rel => exact ⟨k + 1, _, by omega, rfl, by rw [HOK.out], by go_num, HXQ.out, HOQ.out, HCQ.out⟩
          · clear hkd
            have HOK : Hid ((obp && (x.fields.take (k + 1)).all (fieldOk s)) = ob) := Lib.hid (by rw [all_snoc HM.out, ← Bool.and_assoc, ← HOB.out]; rw [HFQ.out.2, Bool.and_true])
            go_wp2_with fail
            go_roundg (m1 - (k + 1))
            case measure => have := HQ.out; omega
            case rel => exact ⟨k + 1, _, by omega, rfl, by rw [HOK.out], by go_num, HXQ.out, HOQ.out, HCQ.out⟩
      · have hke : k = x.fields.length := by have := HL1.out; omega
        rw [take_map_all hke] at hcr
        have HOK : Hid (ob = (obp && x.fields.all (fieldOk s))) := Lib.hid (by rw [HOB.out, hke, List.take_length])
        have HXQ := Lib.hid hxr
        have HR1 := Lib.hid hoh
        have HC1 := Lib.hid hcr
        clear hxr hoh hcr hke HOB
        obtain ⟨cs1, rfl⟩ : ∃ x, x = cr := ⟨_, rfl⟩
        obtain ⟨k1', rfl⟩ : ∃ x, x = k := ⟨_, rfl⟩
        go_upto_region 13 with fail
        clear g2 hk hlt HQ lx
        obtain ⟨obq, hobq⟩ : ∃ x, x = ob := ⟨_, rfl⟩
        rw [← hobq] at HOK ⊢
        have HOBQ := Lib.hid HOK.out
        clear hobq HOK
        obtain ⟨wa2, rfl⟩ : ∃ x, x = wr := ⟨_, rfl⟩
        have q2 := HXQ.out.x.cell 5
        simp only [List.getElem?_toArray, List.getElem?_cons_zero, List.getElem?_cons_succ] at q2
        have lx := HXQ.out.x.lt
        have HXR := Lib.hid HXQ.out
        clear HXQ
        go_wp2_with (at_builtin; refine wpList_append_row _ rfl (.tmp 93) (.tmp 95) 38 50 rfl j2 _ 72 Try.underlying38 I2.out Z2.out.1 Z2.out.2.1 Z2.out.2.2 rfl (by decide) (R := fun _ => qDepR Wm) (fun _ => qDepR_one Wm) wa2.heap.size (.slice (some ⟨wa2.heap.size, 0, none⟩) 0 0) 0 [] rfl (World.ownsRow_lit wa2 #[] 0 (Nat.le_refl _) (Nat.zero_le _) rfl) B2 m2 d2 x.deps rfl (H2.out.mono (fun _ _ _ _ _ h => h) (HXR.out.bl.alloc HXR.out.bl.size _)) (by have := HB2.out; have := HL2.out; unfold maxLen; omega) (by have := HB2.out; have := HL2.out; omega) (by simp) ?_
                     intro v1 w1 cs2 hcs1 ho1 hgr1 hat1
                     have hcs1 : CellsR 4 qDepR Wm cs2 x.deps := ⟨hcs1.1, hcs1.2⟩
                     have hb1 : Below wa2.heap.size wa2 w1 := ((Below.refl _ _).alloc (Nat.le_refl _) _).grown hgr1 (by simp) (by simp [Value.ownBlock])
                     obtain ⟨vA2, vn, vc2, rfl, hvn⟩ := own_form' ho1
                     have hx1 := HXR.out.below hb1
                     have q21 := hx1.x.cell 5
                     have f21 := hx1.x.frozen 5
                     simp only [List.getElem?_toArray, List.getElem?_cons_zero, List.getElem?_cons_succ] at q21
                     have lx1 := hx1.x.lt
                     have HX1 := Lib.hid hx1
                     have HO1 := Lib.hid ho1
                     have HC2 := Lib.hid hcs1
                     have HBW1 := Lib.hid hb1
                     have HVN := Lib.hid hvn
                     clear hx1 ho1 hcs1 hb1 hgr1 hat1 hvn)
        obtain rfl : m2 = vn := by have := HVN.out; omega
        have hx2 := HX1.out.put (by omega) (by omega) 5 (.slice vA2 m2 vc2)
        simp only [List.setIfInBounds_toArray, List.set_cons_zero, List.set_cons_succ] at hx2
        have ho2 : (w1.setCell ⟨w.heap.size + 2, 5, none⟩ (.slice vA2 m2 vc2)).ownsRow wa2.heap.size 50 4 (.slice vA2 m2 vc2) m2 cs2 := by
          have := HO1.out
          rw [Nat.zero_add, List.nil_append] at this
          exact own_far this (by have := HXR.out.x.lt; simpa using this) _
        have hr1 : (w1.setCell ⟨w.heap.size + 2, 5, none⟩ (.slice vA2 m2 vc2)).ownsRow wa1.heap.size 45 11 (.slice vA1 m1 vc1) m1 cs1 := own_far (own_below0 HR1.out HBW1.out) (by have := hwa1; simp; omega) _
        have HRB1 : Hid (∀ r, (Value.slice vA1 m1 vc1).ownBlock = some r → r < wa2.heap.size) := Lib.hid (fun r e => (HR1.out.lt r e).2)
        generalize w1.setCell ⟨w.heap.size + 2, 5, none⟩ (.slice vA2 m2 vc2) = w2 at hx2 ho2 hr1 ⊢
        have HX2 := Lib.hid hx2
        have HO2 := Lib.hid ho2
        have hwa2 := HXR.out.lt'
        clear HR1
        have HR1 := Lib.hid hr1
        clear hr1
        clear hx2 ho2 q2 lx q21 f21 lx1 HXR HX1 HO1 HBW1 HVN
        go_loopg [7, 9] m2 (fun q o j wr => ∃ (k : Nat) (cr : List Value), k ≤ m2 ∧ q = m2 - k ∧ o = .bool (obq && (x.deps.take k).all (depOk x)) ∧ j = .int .i64 k ∧ XT w #[.slice A1 n1 c1, .slice A2 n2 c2, .slice (some ⟨b, off, none⟩) n3 c3, .slice A4 n4 c4, .slice A5 n5 c5, .slice A6 n6 c6] 40 2 #[.string x.name, .string x.by_, .int .i64 (idxO s.issuers x.by_), .int .i64 x.version, .slice vA1 m1 vc1, .slice vA2 m2 vc2] 1 #[.string ⟨#[]⟩, .string ⟨#[]⟩, .int .i64 0, .int .i64 0, .slice none 0 0, .slice none 0 0] wr ∧
            wr.ownsRow wa2.heap.size 50 4 (.slice vA2 m2 vc2) m2 cr ∧ BRow 4 qDepR (depQ x) x.deps cs2 cr k (hideV (.slice vA2 m2 vc2) (mask lo (w.heap.size + 3) wr)) ∧ wr.ownsRow wa1.heap.size 45 11 (.slice vA1 m1 vc1) m1 cs1)
        case atStart => exact ⟨0, cs2, Nat.zero_le _, rfl, by rw [List.take_zero, List.all_nil, Bool.and_true], rfl, HX2.out, HO2.out, BRow.start HC2.out _, HR1.out⟩
        case round =>
          clear HX2 HO2 HR1
          obtain ⟨k, cr, hk, hq, rfl, rfl, hxr, hoh, hbr, hr1⟩ := hrel
          have HR1 := Lib.hid hr1
          clear hr1
          have HQ := Lib.hid hq
          clear hq
          obtain ⟨ob, hob⟩ : ∃ b, b = (obq && (x.deps.take k).all (depOk x)) := ⟨_, rfl⟩
          rw [← hob]
          have HOB := Lib.hid hob
          clear hob
          have g2 := hxr.x.cell 5
          simp only [List.getElem?_toArray, List.getElem?_cons_zero, List.getElem?_cons_succ] at g2
          have lx := hxr.x.lt
          by_cases hlt : k < m2
          · skip
            rcases own_row hoh with ⟨h, h0⟩ | ⟨H, hcap, h, hH, hHw, hn2⟩
            · exfalso; injection h with _ h; omega
            injection h with h1 h2 h3
            subst h1 h3
            clear h2
            obtain ⟨m, hm⟩ : ∃ m, x.deps[k]? = some m := ⟨x.deps[k]'(by have := HL2.out; omega), List.getElem?_eq_getElem _⟩
            have HM := Lib.hid hm
            have hkn : (k : Int) < (m2 : Int) := by omega
            have hk0 : (0 : Int) ≤ (k : Int) := by omega
            have HXQ := Lib.hid hxr
            have HOQ := Lib.hid hoh
            have HBR := Lib.hid hbr
            obtain ⟨NA, nn, nc, SA, sn, sc, hck, hns, -⟩ := hbr.at_ HC2.out hm
            have hap1 : (Value.slice vA1 m1 vc1).ownBlock ≠ some H := fun e => by have := HRB1.out _ e; omega
            have HNL := Lib.hid hns.1.len
            have HNB := Lib.hid hns.2
            have hnle := hns.1.le
            have HNS := Lib.hid hns
            have HNW : Hid (SlR 1 strR w (.slice NA nn nc) m.names) := Lib.hid (by have h := hns.1; rw [HWM.out] at h; exact h.unm strR_unm)
            have HCHK := Lib.hid hck
            clear hm hxr hoh hbr hns hck g2 lx
            obtain ⟨wq, rfl⟩ : ∃ x, x = wr := ⟨_, rfl⟩
            obtain ⟨cq, rfl⟩ : ∃ x, x = cr := ⟨_, rfl⟩
            have g2 := HXQ.out.x.cell 5
            simp only [List.getElem?_toArray, List.getElem?_cons_zero, List.getElem?_cons_succ] at g2
            have lx := HXQ.out.x.lt
            have lH := own_lt HOQ.out
            have e0 := own_cell HOQ.out hlt (by omega) HCHK.out (j := 0) rfl
            simp only [Nat.add_zero] at e0
            have HE0 := Lib.hid e0
            go_wp2_with fail
            clear g2 lx lH e0
            go_loopg [7, 10, 11] nn (fun q o l i wr => ∃ (j : Nat) (vA : Option Addr) (vm vc : Nat), j ≤ nn ∧ q = nn - j ∧ o = .bool (ob && (m.names.take j).all (fun nm => decide (0 ≤ idxO (fieldNames x) nm))) ∧ l = .slice vA vm vc ∧ i = .int .i64 (j : Int) ∧ Below wq.heap.size wq wr ∧ wr.ownsRow wq.heap.size 3 1 (.slice vA vm vc) j ((m.names.take j).map (fun nm => Value.int .i64 (idxO (fieldNames x) nm))))
            case atStart => exact ⟨0, _, _, _, Nat.zero_le _, rfl, by rw [List.take_zero, List.all_nil, Bool.and_true], rfl, rfl, below_one _ _, World.ownsRow_lit wq #[] 0 (Nat.le_refl _) (Nat.zero_le _) rfl⟩
            case round =>
              obtain ⟨j, vA, vm, vc, hj, hqi, rfl, rfl, rfl, hbv, hov⟩ := hrel
              have HQI := Lib.hid hqi
              have HBV := Lib.hid hbv
              have HOV := Lib.hid hov
              clear hqi hbv hov
              obtain ⟨oi, hoi⟩ : ∃ b, b = (ob && (m.names.take j).all (fun nm => decide (0 ≤ idxO (fieldNames x) nm))) := ⟨_, rfl⟩
              rw [← hoi]
              have HOI2 := Lib.hid hoi
              clear hoi
              obtain ⟨wv, rfl⟩ : ∃ x, x = wr := ⟨_, rfl⟩
              have HXV := Lib.hid (HXQ.out.below HBV.out)
              obtain ⟨k0, k1, k2, k3, k4, k5⟩ := six_cells HXV.out.s (Below.refl _ _)
              have lk := HXV.out.s.lt
              have g2 := HXV.out.x.cell 5
              simp only [List.getElem?_toArray, List.getElem?_cons_zero, List.getElem?_cons_succ] at g2
              have lx := HXV.out.x.lt
              have lH := own_lt (own_below0 HOQ.out HBV.out)
              have e0 := (HBV.out.cell (p := ⟨H, k * 4, none⟩) (own_lt HOQ.out)).trans HE0.out
              by_cases hlj : j < nn
              · obtain ⟨nb, no, nm, rfl, hnb, hnm, n0⟩ := str_at (HNW.out.mono strR_mono HXV.out.bl) hlj
                have HNM := Lib.hid hnm
                clear hnm
                have ln : nb < wv.heap.size := hnb
                have hjn : (j : Int) < (nn : Int) := by omega
                have hj0 : (0 : Int) ≤ (j : Int) := by omega
                have HSQ := Lib.hid (src_parts (qSourceR_mono _ _ HXV.out.bl.drew _ _ HS.out)).2.2.1.1
                go_upto_region 21 with fail
                have HKT : Hid (∀ X : World, Below wv.heap.size wv X → X.cell? ⟨w.heap.size, 0, none⟩ = some (.slice A1 n1 c1) ∧ X.cell? ⟨w.heap.size, 1, none⟩ = some (.slice A2 n2 c2) ∧ X.cell? ⟨w.heap.size, 2, none⟩ = some (.slice (some ⟨b, off, none⟩) n3 c3) ∧ X.cell? ⟨w.heap.size, 3, none⟩ = some (.slice A4 n4 c4) ∧ X.cell? ⟨w.heap.size, 4, none⟩ = some (.slice A5 n5 c5) ∧ X.cell? ⟨w.heap.size, 5, none⟩ = some (.slice A6 n6 c6) ∧ X.cell? ⟨w.heap.size + 2, 5, none⟩ = some (.slice (some ⟨H, 0, none⟩) m2 vc2) ∧ X.cell? ⟨H, k * 4, none⟩ = some (.slice (some ⟨nb, no, none⟩) nn nc) ∧ X.cell? ⟨nb, no + j, none⟩ = some (.string nm)) := Lib.hid (fun X hX => ⟨(hX.cell (p := ⟨w.heap.size, 0, none⟩) lk).trans k0, (hX.cell (p := ⟨w.heap.size, 1, none⟩) lk).trans k1, (hX.cell (p := ⟨w.heap.size, 2, none⟩) lk).trans k2, (hX.cell (p := ⟨w.heap.size, 3, none⟩) lk).trans k3, (hX.cell (p := ⟨w.heap.size, 4, none⟩) lk).trans k4, (hX.cell (p := ⟨w.heap.size, 5, none⟩) lk).trans k5, (hX.cell (p := ⟨w.heap.size + 2, 5, none⟩) lx).trans g2, (hX.cell (p := ⟨H, k * 4, none⟩) lH).trans e0, (hX.cell (p := ⟨nb, no + j, none⟩) ln).trans n0⟩)
                apply wp_viaS (G := fun w3 => Below wv.heap.size wv w3)
                · go_region_held3 (fun w' => w'.cell? ⟨w.heap.size, 0, none⟩ = some (.slice A1 n1 c1) ∧ w'.cell? ⟨w.heap.size, 1, none⟩ = some (.slice A2 n2 c2) ∧ w'.cell? ⟨w.heap.size, 2, none⟩ = some (.slice (some ⟨b, off, none⟩) n3 c3) ∧ w'.cell? ⟨w.heap.size, 3, none⟩ = some (.slice A4 n4 c4) ∧ w'.cell? ⟨w.heap.size, 4, none⟩ = some (.slice A5 n5 c5) ∧ w'.cell? ⟨w.heap.size, 5, none⟩ = some (.slice A6 n6 c6) ∧ w'.cell? ⟨w.heap.size + 2, 5, none⟩ = some (.slice (some ⟨H, 0, none⟩) m2 vc2) ∧ w'.cell? ⟨H, k * 4, none⟩ = some (.slice (some ⟨nb, no, none⟩) nn nc) ∧ w'.cell? ⟨nb, no + j, none⟩ = some (.string nm))
                    (first | exact HKT.out _ HBC.out | exact HKT.out _ (Below.refl _ _).drew | exact HKT.out _ (Below.refl _ _))
                    (first
                      | (go_at_call 61; ((with_reducible refine (HFC.out _ HSQ.out).mono ?_)); rintro e wc ⟨xA, xc, rfl, hsl, hbc⟩
                         have hbz : Below wv.heap.size wv wc := Below.trans (Below.refl _ _).drew hbc
                         have HSL := Lib.hid hsl.1
                         have HBC := Lib.hid hbz
                         clear hsl hbc hbz)
                      | (go_at_call 54; ((with_reducible refine (refFind_any _ _ _ (fieldNames x) (nm) _ HSL.out).mono ?_)); rintro e w' ⟨rfl, rfl⟩))
                  all_goals exact ⟨xA, xc, rfl, HBC.out⟩
                rintro xA xc w3 hb3
                clear HKT HSQ k0 k1 k2 k3 k4 k5 lk g2 lx lH e0 n0 ln hnb
                have HB3 := Lib.hid (below_step HBV.out hb3)
                have HOI := Lib.hid (own_below0 HOV.out hb3)
                clear hb3 HBV HOV HXV
                obtain ⟨wv, rfl⟩ : ∃ x, x = w3 := ⟨_, rfl⟩
                go_upto_region 22 with fail
                go_cut [7] from 130 to 134 (fun v wx => v = .bool (oi && decide (0 ≤ idxO (fieldNames x) nm)) ∧ wx = wv)
                case first =>
                  · skip
                    skip
                    cases oi with
                    | false =>
                      have HOK : Hid ((false && decide (0 ≤ idxO (fieldNames x) nm)) = false) := Lib.hid (by first | rfl | (simp; done) | (simp [*]; done) | (simp; omega))
                      go_wp2_with fail
                      go_meet
                      exact ⟨by rw [HOK.out], rfl⟩
                    | true =>
                      by_cases hv1 : (0 : Int) ≤ idxO (fieldNames x) nm
                      · have dv1 : decide ((0 : Int) ≤ idxO (fieldNames x) nm) = true := by simpa using hv1
                        have HOK : Hid ((true && decide (0 ≤ idxO (fieldNames x) nm)) = true) := Lib.hid (by first | rfl | (simp; done) | (simp [*]; done) | (simp; omega))
                        go_wp2_with fail
                        go_meet
                        exact ⟨by rw [HOK.out], rfl⟩
                      · have dv1 : decide ((0 : Int) ≤ idxO (fieldNames x) nm) = false := by simpa using hv1
                        have HOK : Hid ((true && decide (0 ≤ idxO (fieldNames x) nm)) = false) := Lib.hid (by first | rfl | (simp; done) | (simp [*]; done) | (simp; omega))
                        go_wp2_with fail
                        go_meet
                        exact ⟨by rw [HOK.out], rfl⟩
                case rest =>
                  obtain ⟨rfl, rfl⟩ := hcut
                  obtain ⟨wv, rfl⟩ : ∃ x, x = wc := ⟨_, rfl⟩
                  obtain ⟨oi1, hoi1⟩ : ∃ b, b = (oi && decide (0 ≤ idxO (fieldNames x) nm)) := ⟨_, rfl⟩
                  rw [← hoi1]
                  have Hoi1 := Lib.hid hoi1
                  clear hoi1
                  have hjm : j < m.names.length := by have := HNL.out; omega
                  go_wp2_with (at_builtin; refine wpList_append_own_at _ rfl (.tmp 135) (.tmp 137) 48 rfl wq.heap.size 3 ji _ 1 8 Try.underlying48 Ii.out Zi.out.1 Zi.out.2.1 Zi.out.2.2 rfl (by decide) (.slice vA vm vc) j _ rfl (HOI.out.alloc _) ⟨wv.heap.size, 0, none⟩ 1 1 [.int .i64 (idxO (fieldNames x) nm)] rfl rfl (cell_one_new _ _ _) (by simp [Value.oneCell']) (by have := HNB.out; unfold maxLen; omega) (by have := HNB.out; omega) (by have := HB3.out.size; simp; omega) ?_; intro v' W9 hown' hgrow hnil hat
                               obtain ⟨vA', vm', vc', rfl⟩ := own_form hown'
                               have hb9 : Below wq.heap.size wq W9 := Below.grown (HB3.out.alloc HB3.out.size _) hgrow (by have := HB3.out.size; simp; omega) (fun r e => (HOI.out.lt r e).1)
                               have HB9 := Lib.hid hb9
                               have HO9 := Lib.hid hown'
                               clear hown' hgrow hnil hat hb9)
                  go_roundg (nn - (j + 1))
                  case measure => have := HQI.out; omega
                  case rel => exact ⟨j + 1, vA', vm', vc', by omega, rfl, by rw [all_snoc HNM.out, ← Bool.and_assoc, ← HOI2.out, Hoi1.out], rfl, by go_num, HB9.out, by rw [take_snoc HNM.out, List.map_append]; exact HO9.out⟩
              · have hje : j = m.names.length := by have := HNL.out; omega
                have HROW : Hid (wv.ownsRow wq.heap.size 3 1 (.slice vA vm vc) m.names.length ((m.names.map (idxO (fieldNames x))).map i64W)) := Lib.hid (by
                  have h := HOV.out
                  rw [hje, List.take_length] at h
                  rw [List.map_map]
                  exact h)
                have HOI3 : Hid (oi = (ob && m.names.all (fun nm => decide (0 ≤ idxO (fieldNames x) nm)))) := Lib.hid (by rw [HOI2.out, hje, List.take_length])
                clear hje HOV HQI
                have HOQV := Lib.hid (own_below0 HOQ.out HBV.out)
                have g3 := own_cell HOQV.out hlt (by omega) HCHK.out (j := 2) rfl
                have f3 := HOQV.out.frozenAt (k * 4 + 2)
                go_upto_region 25 with fail
                have hg1 : wq.grownBy (wv.setCell ⟨H, k * 4 + 2, none⟩ (.slice vA vm vc)) (some H) := grownb_put HBV.out _ _
                have hxn := HXV.out.far (K := H) (grown_near (World.grownBy.refl _ _) (k * 4 + 2) (.slice vA vm vc)) (by omega) (by omega) (by omega)
                have hon := (HOQV.out.stored (k * 4 + 2) (.slice vA vm vc)).1
                have hrn := own_far HROW.out (p := ⟨H, k * 4 + 2, none⟩) hHw (.slice vA vm vc)
                have hr1 := (own_below0 HR1.out HBV.out).kept (grown_near (World.grownBy.refl _ (some H)) (k * 4 + 2) (.slice vA vm vc)) (.inr hap1)
                have HCHK1 : Hid (chunk (cq.set (k * 4 + 2) (.slice vA vm vc)) 4 k = [.slice NA nn nc, .string m.name, .slice vA vm vc, .int .i64 m.dst]) := Lib.hid (by rw [chunk_set _ (by omega), HCHK.out]; rfl)
                clear k0 k1 k2 k3 k4 k5 lk g2 lx lH e0 g3 f3 HCHK HXV HOQV HROW
                generalize wv.setCell ⟨H, k * 4 + 2, none⟩ (.slice vA vm vc) = wu at hg1 hxn hon hrn hr1 ⊢
                have HG1 := Lib.hid hg1
                have HRW := Lib.hid hrn
                have HXQ2 := Lib.hid hxn
                have HOQ2 := Lib.hid hon
                have HCHK := Lib.hid HCHK1.out
                clear HR1
                have HR1 := Lib.hid hr1
                clear hg1 hxn hon hrn hr1 HCHK1 HBV
                have HSQ := Lib.hid (src_parts (qSourceR_mono _ _ HXQ2.out.bl.drew _ _ HS.out)).2.2.1.1
                obtain ⟨k0, k1, k2, k3, k4, k5⟩ := six_cells HXQ2.out.s (Below.refl _ _)
                have lk := HXQ2.out.s.lt
                have g2 := HXQ2.out.x.cell 5
                simp only [List.getElem?_toArray, List.getElem?_cons_zero, List.getElem?_cons_succ] at g2
                have lx := HXQ2.out.x.lt
                have lH := own_lt HOQ2.out
                have e1 := own_cell HOQ2.out hlt (by omega) HCHK.out (j := 1) rfl
                have e3 := own_cell HOQ2.out hlt (by omega) HCHK.out (j := 3) rfl
                have HKT : Hid (∀ X : World, Below wu.heap.size wu X → (X.cell? ⟨w.heap.size, 0, none⟩ = some (.slice A1 n1 c1) ∧ X.cell? ⟨w.heap.size, 1, none⟩ = some (.slice A2 n2 c2) ∧ X.cell? ⟨w.heap.size, 2, none⟩ = some (.slice (some ⟨b, off, none⟩) n3 c3) ∧ X.cell? ⟨w.heap.size, 3, none⟩ = some (.slice A4 n4 c4) ∧ X.cell? ⟨w.heap.size, 4, none⟩ = some (.slice A5 n5 c5) ∧ X.cell? ⟨w.heap.size, 5, none⟩ = some (.slice A6 n6 c6) ∧ X.cell? ⟨w.heap.size + 2, 5, none⟩ = some (.slice (some ⟨H, 0, none⟩) m2 vc2) ∧ X.cell? ⟨H, k * 4 + 1, none⟩ = some (.string m.name) ∧ wu.grownBy X (some (H))) ∧ ((X.setCell ⟨H, k * 4 + 3, none⟩ (.int .i64 (idxO (fieldNames x) m.name))).cell? ⟨w.heap.size, 0, none⟩ = some (.slice A1 n1 c1) ∧ (X.setCell ⟨H, k * 4 + 3, none⟩ (.int .i64 (idxO (fieldNames x) m.name))).cell? ⟨w.heap.size, 1, none⟩ = some (.slice A2 n2 c2) ∧ (X.setCell ⟨H, k * 4 + 3, none⟩ (.int .i64 (idxO (fieldNames x) m.name))).cell? ⟨w.heap.size, 2, none⟩ = some (.slice (some ⟨b, off, none⟩) n3 c3) ∧ (X.setCell ⟨H, k * 4 + 3, none⟩ (.int .i64 (idxO (fieldNames x) m.name))).cell? ⟨w.heap.size, 3, none⟩ = some (.slice A4 n4 c4) ∧ (X.setCell ⟨H, k * 4 + 3, none⟩ (.int .i64 (idxO (fieldNames x) m.name))).cell? ⟨w.heap.size, 4, none⟩ = some (.slice A5 n5 c5) ∧ (X.setCell ⟨H, k * 4 + 3, none⟩ (.int .i64 (idxO (fieldNames x) m.name))).cell? ⟨w.heap.size, 5, none⟩ = some (.slice A6 n6 c6) ∧ (X.setCell ⟨H, k * 4 + 3, none⟩ (.int .i64 (idxO (fieldNames x) m.name))).cell? ⟨w.heap.size + 2, 5, none⟩ = some (.slice (some ⟨H, 0, none⟩) m2 vc2) ∧ (X.setCell ⟨H, k * 4 + 3, none⟩ (.int .i64 (idxO (fieldNames x) m.name))).cell? ⟨H, k * 4 + 1, none⟩ = some (.string m.name) ∧ wu.grownBy (X.setCell ⟨H, k * 4 + 3, none⟩ (.int .i64 (idxO (fieldNames x) m.name))) (some (H)))) := Lib.hid (fun X hX => ⟨⟨(hX.cell (p := ⟨w.heap.size, 0, none⟩) lk).trans k0, (hX.cell (p := ⟨w.heap.size, 1, none⟩) lk).trans k1, (hX.cell (p := ⟨w.heap.size, 2, none⟩) lk).trans k2, (hX.cell (p := ⟨w.heap.size, 3, none⟩) lk).trans k3, (hX.cell (p := ⟨w.heap.size, 4, none⟩) lk).trans k4, (hX.cell (p := ⟨w.heap.size, 5, none⟩) lk).trans k5, (hX.cell (p := ⟨w.heap.size + 2, 5, none⟩) lx).trans g2, (hX.cell (p := ⟨H, k * 4 + 1, none⟩) lH).trans e1, grown_of_below hX _⟩, ⟨put_ne ((hX.cell (p := ⟨w.heap.size, 0, none⟩) lk).trans k0) (.inl (by omega)), put_ne ((hX.cell (p := ⟨w.heap.size, 1, none⟩) lk).trans k1) (.inl (by omega)), put_ne ((hX.cell (p := ⟨w.heap.size, 2, none⟩) lk).trans k2) (.inl (by omega)), put_ne ((hX.cell (p := ⟨w.heap.size, 3, none⟩) lk).trans k3) (.inl (by omega)), put_ne ((hX.cell (p := ⟨w.heap.size, 4, none⟩) lk).trans k4) (.inl (by omega)), put_ne ((hX.cell (p := ⟨w.heap.size, 5, none⟩) lk).trans k5) (.inl (by omega)), put_ne ((hX.cell (p := ⟨w.heap.size + 2, 5, none⟩) lx).trans g2) (.inl (by omega)), put_ne ((hX.cell (p := ⟨H, k * 4 + 1, none⟩) lH).trans e1) (.inr (by omega)), grownb_put hX _ _⟩⟩)
                apply wp_viaS (G := fun w3 => ∃ w1, Below wu.heap.size wu w1 ∧ w3 = w1.setCell ⟨H, k * 4 + 3, none⟩ (.int .i64 (idxO (fieldNames x) m.name)))
                · go_region_held3 (fun w' => w'.cell? ⟨w.heap.size, 0, none⟩ = some (.slice A1 n1 c1) ∧ w'.cell? ⟨w.heap.size, 1, none⟩ = some (.slice A2 n2 c2) ∧ w'.cell? ⟨w.heap.size, 2, none⟩ = some (.slice (some ⟨b, off, none⟩) n3 c3) ∧ w'.cell? ⟨w.heap.size, 3, none⟩ = some (.slice A4 n4 c4) ∧ w'.cell? ⟨w.heap.size, 4, none⟩ = some (.slice A5 n5 c5) ∧ w'.cell? ⟨w.heap.size, 5, none⟩ = some (.slice A6 n6 c6) ∧ w'.cell? ⟨w.heap.size + 2, 5, none⟩ = some (.slice (some ⟨H, 0, none⟩) m2 vc2) ∧ w'.cell? ⟨H, k * 4 + 1, none⟩ = some (.string m.name) ∧ wu.grownBy w' (some (H)))
                    (first | exact (HKT.out _ HBC.out).1 | exact (HKT.out _ HBC.out).2 | exact (HKT.out _ (Below.refl _ _).drew).1 | exact (HKT.out _ (Below.refl _ _)).1)
                    (first
                      | (go_at_call 54; ((with_reducible refine (refFind_any _ _ _ (fieldNames x) (m.name) _ HSL.out).mono ?_)); rintro e w' ⟨rfl, rfl⟩)
                      | (go_at_call 61; ((with_reducible refine (HFC.out _ HSQ.out).mono ?_)); rintro e wc ⟨xA, xc, rfl, hsl, hbc⟩
                         have hbz : Below wu.heap.size wu wc := Below.trans (Below.refl _ _).drew hbc
                         have HSL := Lib.hid hsl.1
                         have HBC := Lib.hid hbz
                         have rs := (hbz.cell (p := ⟨H, k * 4 + 3, none⟩) lH).trans e3
                         have fs := (own_below0 HOQ2.out hbz).frozenAt (k * 4 + 3)
                         have lz := Nat.lt_of_lt_of_le lH hbz.size
                         clear hsl hbc hbz))
                  all_goals exact ⟨xA, xc, rfl, _, HBC.out, rfl⟩
                rintro xA xc w3 ⟨w1, hb1, rfl⟩
                clear HKT
                have hg2 : wq.grownBy (w1.setCell ⟨H, k * 4 + 3, none⟩ (.int .i64 (idxO (fieldNames x) m.name))) (some H) := grown_trans HG1.out (grownb_put hb1 _ _)
                have hxn := (HXQ2.out.below hb1).far (K := H) (grown_near (World.grownBy.refl _ _) (k * 4 + 3) (.int .i64 (idxO (fieldNames x) m.name))) (by omega) (by omega) (by omega)
                have hon := ((own_below0 HOQ2.out hb1).stored (k * 4 + 3) (.int .i64 (idxO (fieldNames x) m.name))).1
                have hrn := own_far (own_below0 HRW.out hb1) (p := ⟨H, k * 4 + 3, none⟩) hHw (.int .i64 (idxO (fieldNames x) m.name))
                have hr1 := (own_below0 HR1.out hb1).kept (grown_near (World.grownBy.refl _ (some H)) (k * 4 + 3) (.int .i64 (idxO (fieldNames x) m.name))) (.inr hap1)
                have HCHK1 : Hid (chunk ((cq.set (k * 4 + 2) (.slice vA vm vc)).set (k * 4 + 3) (.int .i64 (idxO (fieldNames x) m.name))) 4 k = [.slice NA nn nc, .string m.name, .slice vA vm vc, .int .i64 (idxO (fieldNames x) m.name)]) := Lib.hid (by rw [chunk_set _ (by omega), HCHK.out]; rfl)
                clear hb1 HSQ k0 k1 k2 k3 k4 k5 lk g2 lx lH e1 e3 HCHK HXQ2 HOQ2 HRW HG1
                generalize w1.setCell ⟨H, k * 4 + 3, none⟩ (.int .i64 (idxO (fieldNames x) m.name)) = wf at hg2 hxn hon hrn hr1 ⊢
                clear HR1
                have HR1 := Lib.hid hr1
                have HCHK := Lib.hid HCHK1.out
                clear hr1 HCHK1
                have hbw : Below w.heap.size w wf := hxn.bl
                have hW : Below (mask lo (w.heap.size + 3) wq).heap.size (hideV (.slice (some ⟨H, 0, none⟩) m2 vc2) (mask lo (w.heap.size + 3) wq)) (hideV (.slice (some ⟨H, 0, none⟩) m2 vc2) (mask lo (w.heap.size + 3) wf)) := by
                  have := hideV_below (v := .slice (some ⟨H, 0, none⟩) m2 vc2) (mask_grown (lo := lo) (M := w.heap.size + 3) hg2)
                  rwa [hideV_size] at this
                have hold : Below Wm.heap.size Wm (hideV (.slice (some ⟨H, 0, none⟩) m2 vc2) (mask lo (w.heap.size + 3) wf)) := by
                  have hwm : Wm.heap.size = w.heap.size := by rw [HWM.out, mask_size]
                  refine hideV_old ?_ (fun H' e => by have e2 : some H = some H' := e; injection e2 with e2; omega)
                  rw [mask_split hlo (show w.heap.size ≤ w.heap.size + 3 by omega), HWM.out]
                  exact mask_old _ (mask_below0 hbw) (by rw [mask_size]; exact Nat.le_refl _)
                have hsrc : SlB 1 8 iR (hideV (.slice (some ⟨H, 0, none⟩) m2 vc2) (mask lo (w.heap.size + 3) wf)) (.slice vA vm vc) (m.names.map (idxO (fieldNames x))) := by
                  refine ⟨slR_of_row (hideV_own (mask_own hrn (by have := HXQ.out.lt'; omega)) (fun H' e => by injection e with e; subst e; exact hHw)) (cellsI _ _) (by rw [List.length_map]), by have := HNB.out; rw [List.length_map]; omega⟩
                have hel : qDepR (hideV (.slice (some ⟨H, 0, none⟩) m2 vc2) (mask lo (w.heap.size + 3) wf)) (chunk ((cq.set (k * 4 + 2) (.slice vA vm vc)).set (k * 4 + 3) (.int .i64 (idxO (fieldNames x) m.name))) 4 k) (depQ x m) := by
                  rw [HCHK.out]
                  exact ⟨NA, nn, nc, vA, vm, vc, rfl, HNS.out.mono strR_mono hold, hsrc⟩
                have hbr : BRow 4 qDepR (depQ x) x.deps cs2 ((cq.set (k * 4 + 2) (.slice vA vm vc)).set (k * 4 + 3) (.int .i64 (idxO (fieldNames x) m.name))) (k + 1) (hideV (.slice (some ⟨H, 0, none⟩) m2 vc2) (mask lo (w.heap.size + 3) wf)) :=
                  (HBR.out.mono qDepR_mono (by rw [hideV_size]; exact hW)).step HM.out (by simp) (fun i hi => by rw [chunk_other _ (by omega) hi, chunk_other _ (by omega) hi]) hel
                clear hbw hW hold hsrc hel hrn hg2 HBR
                generalize (cq.set (k * 4 + 2) (.slice vA vm vc)).set (k * 4 + 3) (.int .i64 (idxO (fieldNames x) m.name)) = cf at hon hbr HCHK
                have HBR := Lib.hid hbr
                clear HXQ HOQ
                have HXQ := Lib.hid hxn
                have HOQ := Lib.hid hon
                clear hbr hxn hon
                have g2 := HXQ.out.x.cell 5
                simp only [List.getElem?_toArray, List.getElem?_cons_zero, List.getElem?_cons_succ] at g2
                have lx := HXQ.out.x.lt
                have lH := own_lt HOQ.out
                have e3 := own_cell HOQ.out hlt (by omega) HCHK.out (j := 3) rfl
                cases oi with
                | false =>
                  have HOK : Hid ((obq && (x.deps.take (k + 1)).all (depOk x)) = false) := Lib.hid (by rw [all_snoc HM.out, ← Bool.and_assoc, ← HOB.out]; unfold depOk; rw [← Bool.and_assoc, ← HOI3.out]; first | rfl | (simp; done) | (simp [*]; done) | (simp; omega))
                  go_wp2_with fail
                  go_roundg (m2 - (k + 1))
                  case measure => have := HQ.out; omega
                  case rel => exact ⟨k + 1, _, by omega, rfl, by rw [HOK.out], by go_num, HXQ.out, HOQ.out, HBR.out, HR1.out⟩
                | true =>
                  by_cases hv1 : (0 : Int) ≤ idxO (fieldNames x) m.name
                  · have dv1 : decide ((0 : Int) ≤ idxO (fieldNames x) m.name) = true := by simpa using hv1
                    have HOK : Hid ((obq && (x.deps.take (k + 1)).all (depOk x)) = true) := Lib.hid (by rw [all_snoc HM.out, ← Bool.and_assoc, ← HOB.out]; unfold depOk; rw [← Bool.and_assoc, ← HOI3.out]; first | rfl | (simp; done) | (simp [*]; done) | (simp; omega))
                    go_wp2_with fail
                    go_roundg (m2 - (k + 1))
                    case measure => have := HQ.out; omega
                    case rel => exact ⟨k + 1, _, by omega, rfl, by rw [HOK.out], by go_num, HXQ.out, HOQ.out, HBR.out, HR1.out⟩
                  · have dv1 : decide ((0 : Int) ≤ idxO (fieldNames x) m.name) = false := by simpa using hv1
                    have HOK : Hid ((obq && (x.deps.take (k + 1)).all (depOk x)) = false) := Lib.hid (by rw [all_snoc HM.out, ← Bool.and_assoc, ← HOB.out]; unfold depOk; rw [← Bool.and_assoc, ← HOI3.out]; first | rfl | (simp; done) | (simp [*]; done) | (simp; omega))
                    go_wp2_with fail
                    go_roundg (m2 - (k + 1))
                    case measure => have := HQ.out; omega
                    case rel => exact ⟨k + 1, _, by omega, rfl, by rw [HOK.out], by go_num, HXQ.out, HOQ.out, HBR.out, HR1.out⟩
          · have hke : k = x.deps.length := by have := HL2.out; omega
            have HOK3 : Hid (ob = schemaOk s x) := Lib.hid (by rw [HOB.out, hke, List.take_length, HOBQ.out, HOBP.out]; rfl)
            have hcd := hideV_unm qDepR_unm (hbr.all hke)
            have HXR := Lib.hid hxr
            have HR2 := Lib.hid hoh
            have HCD := Lib.hid hcd
            have y0 := hxr.x.cell 0
            have y1 := hxr.x.cell 1
            have y2 := hxr.x.cell 2
            have y3 := hxr.x.cell 3
            have y4 := hxr.x.cell 4
            have y5 := hxr.x.cell 5
            have z0 := hxr.r.cell 0
            have u0 := hxr.r.frozen 0
            have z1 := hxr.r.cell 1
            have u1 := hxr.r.frozen 1
            have z2 := hxr.r.cell 2
            have u2 := hxr.r.frozen 2
            have z3 := hxr.r.cell 3
            have u3 := hxr.r.frozen 3
            have z4 := hxr.r.cell 4
            have u4 := hxr.r.frozen 4
            have z5 := hxr.r.cell 5
            have u5 := hxr.r.frozen 5
            simp only [List.getElem?_toArray, List.getElem?_cons_zero, List.getElem?_cons_succ] at y0 y1 y2 y3 y4 y5 z0 z1 z2 z3 z4 z5
            have lz := hxr.r.lt
            clear hxr hoh hbr hke hcd
            go_wp2_with fail
            have hlw := HXR.out.lt'
            have hg5 : wr.grownBy (wr.setCells (w.heap.size + 1) 0 [.string x.name, .string x.by_, .int .i64 (idxO s.issuers x.by_), .int .i64 x.version, .slice vA1 m1 vc1, .slice vA2 m2 vc2]) (some (w.heap.size + 1)) := grown_setL _ _ _ (World.grownBy.refl _ _)
            have r1 := HR1.out.kept hg5 (.inr (fun e => by have := HR1.out.lt _ e; omega))
            have r2 := HR2.out.kept hg5 (.inr (fun e => by have := HR2.out.lt _ e; omega))
            have hbl : Below w.heap.size w (wr.setCells (w.heap.size + 1) 0 [.string x.name, .string x.by_, .int .i64 (idxO s.issuers x.by_), .int .i64 x.version, .slice vA1 m1 vc1, .slice vA2 m2 vc2]) := below_grown HXR.out.bl hg5 (by omega)
            have hmk := mask_below (lo := lo) (M := w.heap.size + 3) hg5 (by omega) (by omega)
            have key : qSchemaR (mask lo w.heap.size (wr.setCells (w.heap.size + 1) 0 [.string x.name, .string x.by_, .int .i64 (idxO s.issuers x.by_), .int .i64 x.version, .slice vA1 m1 vc1, .slice vA2 m2 vc2])) [.string x.name, .string x.by_, .int .i64 (idxO s.issuers x.by_), .int .i64 x.version, .slice vA1 m1 vc1, .slice vA2 m2 vc2] (schemaQ s x) := by
              revert r1 r2 hbl hmk
              clear hg5
              generalize wr.setCells (w.heap.size + 1) 0 [.string x.name, .string x.by_, .int .i64 (idxO s.issuers x.by_), .int .i64 x.version, .slice vA1 m1 vc1, .slice vA2 m2 vc2] = W
              intro r1 r2 hbl hmk
              have t1 : SlB 11 120 qFieldR (mask lo w.heap.size W) (.slice vA1 m1 vc1) (x.fields.map (fieldQ s)) := ⟨slR_of_row (mask_own r1 (by omega)) (HC1.out.mono qFieldR_mono (by rw [HWM.out]; exact mask_below0 hbl)) (by rw [List.length_map]; exact HL1.out), by rw [List.length_map]; exact HB1.out⟩
              have t2 : SlB 4 72 qDepR (mask lo (w.heap.size + 3) W) (.slice vA2 m2 vc2) (x.deps.map (depQ x)) := ⟨slR_of_row (mask_own r2 (by omega)) (HCD.out.mono qDepR_mono hmk) (by rw [List.length_map]; exact HL2.out), by rw [List.length_map]; exact HB2.out⟩
              rw [mask_split hlo (show w.heap.size ≤ w.heap.size + 3 by omega)] at t2
              exact ⟨vA1, m1, vc1, vA2, m2, vc2, rfl, t1, t2.unm qDepR_unm⟩
            refine ⟨rfl, .tuple #[.agg #[.string x.name, .string x.by_, .int .i64 (idxO s.issuers x.by_), .int .i64 x.version, .slice vA1 m1 vc1, .slice vA2 m2 vc2], .bool ob], ?_, [.string x.name, .string x.by_, .int .i64 (idxO s.issuers x.by_), .int .i64 x.version, .slice vA1 m1 vc1, .slice vA2 m2 vc2], by rw [HOK3.out], key, hbl⟩
            simp [results, Try.results41, go_sem, *]
end Go.Proofs.Ytkkkephjljiplaa
