/- The reference's rule. Written by genref8.py. -/
import Derived.Test.YtkkkephjljiplaaMgC
namespace Go.Proofs.Ytkkkephjljiplaa
open Go.RowKit
theorem drop_at {α : Type} {out l : List α} {k : Nat} {x : α} (hk : out.length = k) (hx : l[k]? = some x) : (out ++ l.drop k)[k]? = some x := by
  rw [List.getElem?_append_right (by omega), List.getElem?_drop, hk]
  simpa using hx
theorem mid_at {α : Type} {out r : List α} {k : Nat} {x : α} (hk : out.length = k) : ((out ++ [x]) ++ r)[k]? = some x := by
  rw [List.append_assoc, List.getElem?_append_right (by omega), hk, Nat.sub_self]
  rfl
theorem set_mid {α : Type} {out r : List α} {k : Nat} {x y : α} (hk : out.length = k) : ((out ++ [x]) ++ r).set k y = (out ++ [y]) ++ r := by
  subst hk
  simp
theorem take_out {α : Type} {out r : List α} {k : Nat} {x : α} (hk : out.length = k) : ((out ++ [x]) ++ r).take k = out := by
  subst hk
  simp
theorem map_snoc {α β : Type} {f : α → β} {l : List α} {k : Nat} {x : α} (hx : l[k]? = some x) : (l.take k).map f ++ [f x] = (l.take (k + 1)).map f := by
  rw [take_snoc hx, List.map_append]
  rfl
set_option maxHeartbeats 8000000 in
set_option maxRecDepth 100000 in
theorem refRuleX_any (A1 A2 A3 A4 A5 A6 : Option Addr) (n1 c1 n2 c2 n3 c3 n4 c4 n5 c5 n6 c6 : Nat) (B1 B2 B3 : Option Addr) (m1 d1 m2 d2 m3 d3 : Nat) (s : QSource) (p : QRule) (w : World) (hs : qSourceR w [.slice A1 n1 c1, .slice A2 n2 c2, .slice A3 n3 c3, .slice A4 n4 c4, .slice A5 n5 c5, .slice A6 n6 c6] s) (hp1 : SlB 8 96 qFromR w (.slice B1 m1 d1) p.froms) (hp2 : SlB 11 120 qAtomR w (.slice B2 m2 d2) p.where_) (hp3 : SlB 7 80 qSetR w (.slice B3 m3 d3) p.sets) :
    Calls Try.prog 42 #[.agg #[.slice A1 n1 c1, .slice A2 n2 c2, .slice A3 n3 c3, .slice A4 n4 c4, .slice A5 n5 c5, .slice A6 n6 c6], .agg #[.string p.head, .int .i64 (p.schema), .slice B1 m1 d1, .slice B2 m2 d2, .slice B3 m3 d3]] w (RetPair qRuleR 0 (ruleQ s p) (ruleOk s p) w) := by
  have HS := Lib.hid hs
  have HL1 := Lib.hid hp1.1.len
  have HB1 := Lib.hid hp1.2
  have H1 := Lib.hid hp1.1
  have HL2 := Lib.hid hp2.1.len
  have HB2 := Lib.hid hp2.2
  have H2 := Lib.hid hp2.1
  have HL3 := Lib.hid hp3.1.len
  have HB3 := Lib.hid hp3.2
  have H3 := Lib.hid hp3.1
  clear hs hp1 hp2 hp3
  obtain ⟨j1, i1, z10, z11, z12⟩ := info_parts Try.infoFrom
  have I1 := Lib.hid i1
  have Z1 := Lib.hid (And.intro z10 (And.intro z11 z12))
  clear i1 z10 z11 z12
  obtain ⟨j2, i2, z20, z21, z22⟩ := info_parts Try.infoAtom
  have I2 := Lib.hid i2
  have Z2 := Lib.hid (And.intro z20 (And.intro z21 z22))
  clear i2 z20 z21 z22
  obtain ⟨j3, i3, z30, z31, z32⟩ := info_parts Try.infoSet
  have I3 := Lib.hid i3
  have Z3 := Lib.hid (And.intro z30 (And.intro z31 z32))
  clear i3 z30 z31 z32
  go_enter Try.func42, Try.ntmps42
  go_upto_region 3 with fail
  have hxt := XT.new w #[.slice A1 n1 c1, .slice A2 n2 c2, .slice A3 n3 c3, .slice A4 n4 c4, .slice A5 n5 c5, .slice A6 n6 c6] 56 #[.string p.head, .int .i64 (p.schema), .slice B1 m1 d1, .slice B2 m2 d2, .slice B3 m3 d3] #[.string ⟨#[]⟩, .int .i64 0, .slice none 0 0, .slice none 0 0, .slice none 0 0]
  generalize ((w.alloc (.cells #[.slice A1 n1 c1, .slice A2 n2 c2, .slice A3 n3 c3, .slice A4 n4 c4, .slice A5 n5 c5, .slice A6 n6 c6] 29)).alloc (.cells #[.string p.head, .int .i64 (p.schema), .slice B1 m1 d1, .slice B2 m2 d2, .slice B3 m3 d3] 56)).alloc (.cells #[.string ⟨#[]⟩, .int .i64 0, .slice none 0 0, .slice none 0 0, .slice none 0 0] 56) = wq at hxt ⊢
  have HXQ := Lib.hid hxt
  clear hxt
  obtain ⟨k0, k1, k2, k3, k4, k5⟩ := six_cells HXQ.out.s (Below.refl _ _)
  have lk := HXQ.out.s.lt
  have lx := HXQ.out.x.lt
  have x0 := HXQ.out.x.cell 0
  have x1 := HXQ.out.x.cell 1
  simp only [List.getElem?_toArray, List.getElem?_cons_zero, List.getElem?_cons_succ] at x0 x1
  have HSP := Lib.hid (src_parts (qSourceR_mono _ _ HXQ.out.bl.drew _ _ HS.out)).2.2.1
  go_upto_region 3 with fail
  have HKT : Hid (∀ X : World, Below wq.heap.size wq X → (X.cell? ⟨w.heap.size, 0, none⟩ = some (.slice A1 n1 c1) ∧ X.cell? ⟨w.heap.size, 1, none⟩ = some (.slice A2 n2 c2) ∧ X.cell? ⟨w.heap.size, 2, none⟩ = some (.slice A3 n3 c3) ∧ X.cell? ⟨w.heap.size, 3, none⟩ = some (.slice A4 n4 c4) ∧ X.cell? ⟨w.heap.size, 4, none⟩ = some (.slice A5 n5 c5) ∧ X.cell? ⟨w.heap.size, 5, none⟩ = some (.slice A6 n6 c6) ∧ X.cell? ⟨w.heap.size + 1, 0, none⟩ = some (.string p.head) ∧ wq.grownBy X (some (w.heap.size + 1))) ∧ ((X.setCell ⟨w.heap.size + 1, 1, none⟩ (.int .i64 (idxO (schemaNames s) p.head))).cell? ⟨w.heap.size, 0, none⟩ = some (.slice A1 n1 c1) ∧ (X.setCell ⟨w.heap.size + 1, 1, none⟩ (.int .i64 (idxO (schemaNames s) p.head))).cell? ⟨w.heap.size, 1, none⟩ = some (.slice A2 n2 c2) ∧ (X.setCell ⟨w.heap.size + 1, 1, none⟩ (.int .i64 (idxO (schemaNames s) p.head))).cell? ⟨w.heap.size, 2, none⟩ = some (.slice A3 n3 c3) ∧ (X.setCell ⟨w.heap.size + 1, 1, none⟩ (.int .i64 (idxO (schemaNames s) p.head))).cell? ⟨w.heap.size, 3, none⟩ = some (.slice A4 n4 c4) ∧ (X.setCell ⟨w.heap.size + 1, 1, none⟩ (.int .i64 (idxO (schemaNames s) p.head))).cell? ⟨w.heap.size, 4, none⟩ = some (.slice A5 n5 c5) ∧ (X.setCell ⟨w.heap.size + 1, 1, none⟩ (.int .i64 (idxO (schemaNames s) p.head))).cell? ⟨w.heap.size, 5, none⟩ = some (.slice A6 n6 c6) ∧ (X.setCell ⟨w.heap.size + 1, 1, none⟩ (.int .i64 (idxO (schemaNames s) p.head))).cell? ⟨w.heap.size + 1, 0, none⟩ = some (.string p.head) ∧ wq.grownBy (X.setCell ⟨w.heap.size + 1, 1, none⟩ (.int .i64 (idxO (schemaNames s) p.head))) (some (w.heap.size + 1)))) := Lib.hid (fun X hX => ⟨⟨(hX.cell (p := ⟨w.heap.size, 0, none⟩) lk).trans k0, (hX.cell (p := ⟨w.heap.size, 1, none⟩) lk).trans k1, (hX.cell (p := ⟨w.heap.size, 2, none⟩) lk).trans k2, (hX.cell (p := ⟨w.heap.size, 3, none⟩) lk).trans k3, (hX.cell (p := ⟨w.heap.size, 4, none⟩) lk).trans k4, (hX.cell (p := ⟨w.heap.size, 5, none⟩) lk).trans k5, (hX.cell (p := ⟨w.heap.size + 1, 0, none⟩) lx).trans x0, grown_of_below hX _⟩, ⟨put_ne ((hX.cell (p := ⟨w.heap.size, 0, none⟩) lk).trans k0) (.inl (by omega)), put_ne ((hX.cell (p := ⟨w.heap.size, 1, none⟩) lk).trans k1) (.inl (by omega)), put_ne ((hX.cell (p := ⟨w.heap.size, 2, none⟩) lk).trans k2) (.inl (by omega)), put_ne ((hX.cell (p := ⟨w.heap.size, 3, none⟩) lk).trans k3) (.inl (by omega)), put_ne ((hX.cell (p := ⟨w.heap.size, 4, none⟩) lk).trans k4) (.inl (by omega)), put_ne ((hX.cell (p := ⟨w.heap.size, 5, none⟩) lk).trans k5) (.inl (by omega)), put_ne ((hX.cell (p := ⟨w.heap.size + 1, 0, none⟩) lx).trans x0) (.inr (by omega)), grownb_put hX _ _⟩⟩)
  apply wp_viaS (G := fun w3 => ∃ w1, Below wq.heap.size wq w1 ∧ w3 = w1.setCell ⟨w.heap.size + 1, 1, none⟩ (.int .i64 (idxO (schemaNames s) p.head)))
  · go_region_held3 (fun w' => w'.cell? ⟨w.heap.size, 0, none⟩ = some (.slice A1 n1 c1) ∧ w'.cell? ⟨w.heap.size, 1, none⟩ = some (.slice A2 n2 c2) ∧ w'.cell? ⟨w.heap.size, 2, none⟩ = some (.slice A3 n3 c3) ∧ w'.cell? ⟨w.heap.size, 3, none⟩ = some (.slice A4 n4 c4) ∧ w'.cell? ⟨w.heap.size, 4, none⟩ = some (.slice A5 n5 c5) ∧ w'.cell? ⟨w.heap.size, 5, none⟩ = some (.slice A6 n6 c6) ∧ w'.cell? ⟨w.heap.size + 1, 0, none⟩ = some (.string p.head) ∧ wq.grownBy w' (some (w.heap.size + 1)))
      (first | exact (HKT.out _ HBC.out).1 | exact (HKT.out _ HBC.out).2 | exact (HKT.out _ (Below.refl _ _).drew).1 | exact (HKT.out _ (Below.refl _ _)).1)
      (first
        | (go_at_call 54; ((with_reducible refine (refFind_any _ _ _ (schemaNames s) (p.head) _ HSL.out).mono ?_)); rintro e w' ⟨rfl, rfl⟩)
        | (go_at_call 55; ((with_reducible refine (refSchemas_any A1 A2 A3 A4 A5 A6 n1 c1 n2 c2 n3 c3 n4 c4 n5 c5 n6 c6 s _ HSP.out).mono ?_)); rintro e wc ⟨xA, xc, rfl, hsl, hbc⟩
           have hbz : Below wq.heap.size wq wc := Below.trans (Below.refl _ _).drew hbc
           have HSL := Lib.hid hsl.1
           have HBC := Lib.hid hbz
           have rs := (hbz.cell (p := ⟨w.heap.size + 1, 1, none⟩) lx).trans x1
           have fs := ((HXQ.out.x.below hbz lx).frozen 1)
           have lz := Nat.lt_of_lt_of_le lx hbz.size
           clear hsl hbc hbz))
    all_goals exact ⟨xA, xc, rfl, _, HBC.out, rfl⟩
  rintro xA xc w3 ⟨w1, hb1, rfl⟩
  clear HKT
  have hxn := (HXQ.out.below hb1).put (by omega) (by omega) 1 (.int .i64 (idxO (schemaNames s) p.head))
  simp only [List.setIfInBounds_toArray, List.set_cons_zero, List.set_cons_succ] at hxn
  generalize w1.setCell ⟨w.heap.size + 1, 1, none⟩ (.int .i64 (idxO (schemaNames s) p.head)) = wq2 at hxn ⊢
  clear hb1 k0 k1 k2 k3 k4 k5 lk lx x0 x1 HXQ HSP
  have HXQ := Lib.hid hxn
  clear hxn
  obtain ⟨wq, rfl⟩ : ∃ x, x = wq2 := ⟨_, rfl⟩
  go_upto_region 4 with fail
  go_cut [6] from 17 to 22 (fun v wx => v = .bool (decide (0 ≤ idxO (schemaNames s) p.head)) ∧ wx = wq)
  case first =>
    · have x1 := HXQ.out.x.cell 1
      have lx := HXQ.out.x.lt
      simp only [List.getElem?_toArray, List.getElem?_cons_zero, List.getElem?_cons_succ] at x1
      by_cases hv1 : (0 : Int) ≤ idxO (schemaNames s) p.head
      · have dv1 : decide ((0 : Int) ≤ idxO (schemaNames s) p.head) = true := by simpa using hv1
        have HOK : Hid ((decide (0 ≤ idxO (schemaNames s) p.head)) = true) := Lib.hid (by first | rfl | (simp; done) | (simp [*]; done) | (simp; omega))
        go_wp2_with fail
        go_meet
        exact ⟨by rw [HOK.out], rfl⟩
      · have dv1 : decide ((0 : Int) ≤ idxO (schemaNames s) p.head) = false := by simpa using hv1
        have HOK : Hid ((decide (0 ≤ idxO (schemaNames s) p.head)) = false) := Lib.hid (by first | rfl | (simp; done) | (simp [*]; done) | (simp; omega))
        go_wp2_with fail
        go_meet
        exact ⟨by rw [HOK.out], rfl⟩
  case rest =>
    obtain ⟨rfl, rfl⟩ := hcut
    obtain ⟨obp, hobp⟩ : ∃ b, b = (decide (0 ≤ idxO (schemaNames s) p.head)) := ⟨_, rfl⟩
    rw [← hobp]
    have HOBP := Lib.hid hobp
    clear hobp
    obtain ⟨wa1, rfl⟩ : ∃ x, x = wc := ⟨_, rfl⟩
    have q2 := HXQ.out.x.cell 2
    simp only [List.getElem?_toArray, List.getElem?_cons_zero, List.getElem?_cons_succ] at q2
    have lx := HXQ.out.x.lt
    have HXR := Lib.hid HXQ.out
    clear HXQ
    go_wp2_with (at_builtin; refine wpList_append_row _ rfl (.tmp 23) (.tmp 25) 52 61 rfl j1 _ 96 Try.underlying52 I1.out Z1.out.1 Z1.out.2.1 Z1.out.2.2 rfl (by decide) (R := fun _ => qFromR w) (fun _ => qFromR_one w) wa1.heap.size (.slice (some ⟨wa1.heap.size, 0, none⟩) 0 0) 0 [] rfl (World.ownsRow_lit wa1 #[] 0 (Nat.le_refl _) (Nat.zero_le _) rfl) B1 m1 d1 p.froms rfl (H1.out.fix (HXR.out.bl.alloc HXR.out.bl.size _)) (by have := HB1.out; have := HL1.out; unfold maxLen; omega) (by have := HB1.out; have := HL1.out; omega) (by simp) ?_
                 intro v1 w1 cs1 hcs1 ho1 hgr1 hat1
                 have hcs1 : CellsR 8 qFromR w cs1 p.froms := ⟨hcs1.1, hcs1.2⟩
                 have hb1 : Below wa1.heap.size wa1 w1 := ((Below.refl _ _).alloc (Nat.le_refl _) _).grown hgr1 (by simp) (by simp [Value.ownBlock])
                 obtain ⟨vA1, vn, vc1, rfl, hvn⟩ := own_form' ho1
                 have hx1 := HXR.out.below hb1
                 have q21 := hx1.x.cell 2
                 have f21 := hx1.x.frozen 2
                 simp only [List.getElem?_toArray, List.getElem?_cons_zero, List.getElem?_cons_succ] at q21
                 have lx1 := hx1.x.lt
                 have HX1 := Lib.hid hx1
                 have HO1 := Lib.hid ho1
                 have HC1 := Lib.hid hcs1
                 have HBW1 := Lib.hid hb1
                 have HVN := Lib.hid hvn
                 clear hx1 ho1 hcs1 hb1 hgr1 hat1 hvn)
    obtain rfl : m1 = vn := by have := HVN.out; omega
    have hx2 := HX1.out.put (by omega) (by omega) 2 (.slice vA1 m1 vc1)
    simp only [List.setIfInBounds_toArray, List.set_cons_zero, List.set_cons_succ] at hx2
    have ho2 : (w1.setCell ⟨w.heap.size + 1, 2, none⟩ (.slice vA1 m1 vc1)).ownsRow wa1.heap.size 61 8 (.slice vA1 m1 vc1) m1 cs1 := by
      have := HO1.out
      rw [Nat.zero_add, List.nil_append] at this
      exact own_far this (by have := HXR.out.x.lt; simpa using this) _
    generalize w1.setCell ⟨w.heap.size + 1, 2, none⟩ (.slice vA1 m1 vc1) = w2 at hx2 ho2 ⊢
    have HX2 := Lib.hid hx2
    have HO2 := Lib.hid ho2
    have hwa1 := HXR.out.lt
    clear hx2 ho2 q2 lx q21 f21 lx1 HXR HX1 HO1 HBW1 HVN
    go_loopg [6, 8] m1 (fun q o j wr => ∃ (k : Nat) (cr : List Value), k ≤ m1 ∧ q = m1 - k ∧ o = .bool (obp && fromsOk s p.froms k) ∧ j = .int .i64 k ∧ XT w #[.slice A1 n1 c1, .slice A2 n2 c2, .slice A3 n3 c3, .slice A4 n4 c4, .slice A5 n5 c5, .slice A6 n6 c6] 56 1 #[.string p.head, .int .i64 (idxO (schemaNames s) p.head), .slice vA1 m1 vc1, .slice B2 m2 d2, .slice B3 m3 d3] 2 #[.string ⟨#[]⟩, .int .i64 0, .slice none 0 0, .slice none 0 0, .slice none 0 0] wr ∧
        wr.ownsRow wa1.heap.size 61 8 (.slice vA1 m1 vc1) m1 cr ∧ CellsR 8 qFromR w cr (fromsQ s p.froms k ++ p.froms.drop k))
    case atStart => exact ⟨0, cs1, Nat.zero_le _, rfl, by rw [show fromsOk s p.froms 0 = true from rfl, Bool.and_true], rfl, HX2.out, HO2.out, HC1.out⟩
    case round =>
      clear HX2 HO2 HC1 
      obtain ⟨k, cr, hk, hq, rfl, rfl, hxr, hoh, hcr⟩ := hrel
      have HQ := Lib.hid hq
      clear hq
      obtain ⟨ob, hob⟩ : ∃ b, b = (obp && fromsOk s p.froms k) := ⟨_, rfl⟩
      rw [← hob]
      have HOB := Lib.hid hob
      clear hob
      have g2 := hxr.x.cell 2
      simp only [List.getElem?_toArray, List.getElem?_cons_zero, List.getElem?_cons_succ] at g2
      have lx := hxr.x.lt
      by_cases hlt : k < m1
      · rcases own_row hoh with ⟨h, h0⟩ | ⟨H, hcap, h, hH, hHw, hn2⟩
        · exfalso; injection h with _ h; omega
        injection h with h1 h2 h3
        subst h1 h3
        clear h2
        obtain ⟨m, hm⟩ : ∃ m, p.froms[k]? = some m := ⟨p.froms[k]'(by have := HL1.out; omega), List.getElem?_eq_getElem _⟩
        have HM := Lib.hid hm
        have HLEN : Hid ((fromsQ s p.froms k).length = k) := Lib.hid (fromsQ_len s p.froms k (by have := HL1.out; omega))
        have HATK := Lib.hid (drop_at HLEN.out hm)
        have hkn : (k : Int) < (m1 : Int) := by omega
        have hk0 : (0 : Int) ≤ (k : Int) := by omega
        have HXQ := Lib.hid hxr
        have HOQ := Lib.hid hoh
        have HCQ := Lib.hid hcr
        clear hm hxr hoh hcr g2 lx
        obtain ⟨wq, rfl⟩ : ∃ x, x = wr := ⟨_, rfl⟩
        obtain ⟨cq, rfl⟩ : ∃ x, x = cr := ⟨_, rfl⟩
        obtain ⟨k0, k1, k2, k3, k4, k5⟩ := six_cells HXQ.out.s (Below.refl _ _)
        have lk := HXQ.out.s.lt
        have g2 := HXQ.out.x.cell 2
        simp only [List.getElem?_toArray, List.getElem?_cons_zero, List.getElem?_cons_succ] at g2
        have lx := HXQ.out.x.lt
        have lH := own_lt HOQ.out
        have hck : chunk cq 8 k = _ := HCQ.out.chunk HATK.out
        have e0 := own_cell HOQ.out hlt (by omega) hck (j := 0) rfl
        have e1 := own_cell HOQ.out hlt (by omega) hck (j := 1) rfl
        have e2 := own_cell HOQ.out hlt (by omega) hck (j := 2) rfl
        simp only [Nat.add_zero] at e0
        clear hck
        have HSP := Lib.hid (src_parts (qSourceR_mono _ _ HXQ.out.bl.drew _ _ HS.out)).2.2.1
        have HSQ := Lib.hid HSP.out.1
        go_upto_region 9 with fail
        have HKT : Hid (∀ X : World, Below wq.heap.size wq X → (X.cell? ⟨w.heap.size, 0, none⟩ = some (.slice A1 n1 c1) ∧ X.cell? ⟨w.heap.size, 1, none⟩ = some (.slice A2 n2 c2) ∧ X.cell? ⟨w.heap.size, 2, none⟩ = some (.slice A3 n3 c3) ∧ X.cell? ⟨w.heap.size, 3, none⟩ = some (.slice A4 n4 c4) ∧ X.cell? ⟨w.heap.size, 4, none⟩ = some (.slice A5 n5 c5) ∧ X.cell? ⟨w.heap.size, 5, none⟩ = some (.slice A6 n6 c6) ∧ X.cell? ⟨w.heap.size + 1, 2, none⟩ = some (.slice (some ⟨H, 0, none⟩) m1 vc1) ∧ X.cell? ⟨H, k * 8 + 1, none⟩ = some (.string m.kind) ∧ wq.grownBy X (some (H))) ∧ ((X.setCell ⟨H, k * 8 + 2, none⟩ (.int .i64 (idxO (schemaNames s) m.kind))).cell? ⟨w.heap.size, 0, none⟩ = some (.slice A1 n1 c1) ∧ (X.setCell ⟨H, k * 8 + 2, none⟩ (.int .i64 (idxO (schemaNames s) m.kind))).cell? ⟨w.heap.size, 1, none⟩ = some (.slice A2 n2 c2) ∧ (X.setCell ⟨H, k * 8 + 2, none⟩ (.int .i64 (idxO (schemaNames s) m.kind))).cell? ⟨w.heap.size, 2, none⟩ = some (.slice A3 n3 c3) ∧ (X.setCell ⟨H, k * 8 + 2, none⟩ (.int .i64 (idxO (schemaNames s) m.kind))).cell? ⟨w.heap.size, 3, none⟩ = some (.slice A4 n4 c4) ∧ (X.setCell ⟨H, k * 8 + 2, none⟩ (.int .i64 (idxO (schemaNames s) m.kind))).cell? ⟨w.heap.size, 4, none⟩ = some (.slice A5 n5 c5) ∧ (X.setCell ⟨H, k * 8 + 2, none⟩ (.int .i64 (idxO (schemaNames s) m.kind))).cell? ⟨w.heap.size, 5, none⟩ = some (.slice A6 n6 c6) ∧ (X.setCell ⟨H, k * 8 + 2, none⟩ (.int .i64 (idxO (schemaNames s) m.kind))).cell? ⟨w.heap.size + 1, 2, none⟩ = some (.slice (some ⟨H, 0, none⟩) m1 vc1) ∧ (X.setCell ⟨H, k * 8 + 2, none⟩ (.int .i64 (idxO (schemaNames s) m.kind))).cell? ⟨H, k * 8 + 1, none⟩ = some (.string m.kind) ∧ wq.grownBy (X.setCell ⟨H, k * 8 + 2, none⟩ (.int .i64 (idxO (schemaNames s) m.kind))) (some (H)))) := Lib.hid (fun X hX => ⟨⟨(hX.cell (p := ⟨w.heap.size, 0, none⟩) lk).trans k0, (hX.cell (p := ⟨w.heap.size, 1, none⟩) lk).trans k1, (hX.cell (p := ⟨w.heap.size, 2, none⟩) lk).trans k2, (hX.cell (p := ⟨w.heap.size, 3, none⟩) lk).trans k3, (hX.cell (p := ⟨w.heap.size, 4, none⟩) lk).trans k4, (hX.cell (p := ⟨w.heap.size, 5, none⟩) lk).trans k5, (hX.cell (p := ⟨w.heap.size + 1, 2, none⟩) lx).trans g2, (hX.cell (p := ⟨H, k * 8 + 1, none⟩) lH).trans e1, grown_of_below hX _⟩, ⟨put_ne ((hX.cell (p := ⟨w.heap.size, 0, none⟩) lk).trans k0) (.inl (by omega)), put_ne ((hX.cell (p := ⟨w.heap.size, 1, none⟩) lk).trans k1) (.inl (by omega)), put_ne ((hX.cell (p := ⟨w.heap.size, 2, none⟩) lk).trans k2) (.inl (by omega)), put_ne ((hX.cell (p := ⟨w.heap.size, 3, none⟩) lk).trans k3) (.inl (by omega)), put_ne ((hX.cell (p := ⟨w.heap.size, 4, none⟩) lk).trans k4) (.inl (by omega)), put_ne ((hX.cell (p := ⟨w.heap.size, 5, none⟩) lk).trans k5) (.inl (by omega)), put_ne ((hX.cell (p := ⟨w.heap.size + 1, 2, none⟩) lx).trans g2) (.inl (by omega)), put_ne ((hX.cell (p := ⟨H, k * 8 + 1, none⟩) lH).trans e1) (.inr (by omega)), grownb_put hX _ _⟩⟩)
        apply wp_viaS (G := fun w3 => ∃ w1, Below wq.heap.size wq w1 ∧ w3 = w1.setCell ⟨H, k * 8 + 2, none⟩ (.int .i64 (idxO (schemaNames s) m.kind)))
        · go_region_held3 (fun w' => w'.cell? ⟨w.heap.size, 0, none⟩ = some (.slice A1 n1 c1) ∧ w'.cell? ⟨w.heap.size, 1, none⟩ = some (.slice A2 n2 c2) ∧ w'.cell? ⟨w.heap.size, 2, none⟩ = some (.slice A3 n3 c3) ∧ w'.cell? ⟨w.heap.size, 3, none⟩ = some (.slice A4 n4 c4) ∧ w'.cell? ⟨w.heap.size, 4, none⟩ = some (.slice A5 n5 c5) ∧ w'.cell? ⟨w.heap.size, 5, none⟩ = some (.slice A6 n6 c6) ∧ w'.cell? ⟨w.heap.size + 1, 2, none⟩ = some (.slice (some ⟨H, 0, none⟩) m1 vc1) ∧ w'.cell? ⟨H, k * 8 + 1, none⟩ = some (.string m.kind) ∧ wq.grownBy w' (some (H)))
            (first | exact (HKT.out _ HBC.out).1 | exact (HKT.out _ HBC.out).2 | exact (HKT.out _ (Below.refl _ _).drew).1 | exact (HKT.out _ (Below.refl _ _)).1)
            (first
              | (go_at_call 54; ((with_reducible refine (refFind_any _ _ _ (schemaNames s) (m.kind) _ HSL.out).mono ?_)); rintro e w' ⟨rfl, rfl⟩)
              | (go_at_call 55; ((with_reducible refine (refSchemas_any A1 A2 A3 A4 A5 A6 n1 c1 n2 c2 n3 c3 n4 c4 n5 c5 n6 c6 s _ HSP.out).mono ?_)); rintro e wc ⟨xA, xc, rfl, hsl, hbc⟩
                 have hbz : Below wq.heap.size wq wc := Below.trans (Below.refl _ _).drew hbc
                 have HSL := Lib.hid hsl.1
                 have HBC := Lib.hid hbz
                 have rs := (hbz.cell (p := ⟨H, k * 8 + 2, none⟩) lH).trans e2
                 have fs := (own_below0 HOQ.out hbz).frozenAt (k * 8 + 2)
                 have lz := Nat.lt_of_lt_of_le lH hbz.size
                 clear hsl hbc hbz))
          all_goals exact ⟨xA, xc, rfl, _, HBC.out, rfl⟩
        rintro xA xc w3 ⟨w1, hb1, rfl⟩
        clear HKT
        have hgn : w1.grownBy (w1.setCell ⟨H, k * 8 + 2, none⟩ (.int .i64 (idxO (schemaNames s) m.kind))) (some H) := grown_near (World.grownBy.refl _ _) _ _
        have hxn := (HXQ.out.below hb1).far (K := H) hgn (by omega) (by omega) (by omega)
        have hon := ((own_below0 HOQ.out hb1).stored (k * 8 + 2) (.int .i64 (idxO (schemaNames s) m.kind))).1
        have hcn := from_put2 HCQ.out HATK.out (idxO (schemaNames s) m.kind)
        generalize w1.setCell ⟨H, k * 8 + 2, none⟩ (.int .i64 (idxO (schemaNames s) m.kind)) = wq2 at hxn hon ⊢
        generalize cq.set (k * 8 + 2) (.int .i64 (idxO (schemaNames s) m.kind)) = cq2 at hon hcn
        clear hb1 HSP HSQ hgn k0 k1 k2 k3 k4 k5 lk g2 lx lH e0 e1 e2 
        rw [set_drop HLEN.out HM.out] at hcn
        clear HXQ HOQ HCQ HATK
        have HXQ := Lib.hid hxn
        have HOQ := Lib.hid hon
        have HCQ := Lib.hid hcn
        clear hxn hon hcn
        obtain ⟨wq, rfl⟩ : ∃ x, x = wq2 := ⟨_, rfl⟩
        obtain ⟨cq, rfl⟩ : ∃ x, x = cq2 := ⟨_, rfl⟩
        have HATK : Hid (((fromsQ s p.froms k ++ [{ m with schema := idxO (schemaNames s) m.kind }]) ++ p.froms.drop (k + 1))[k]? = some ({ m with schema := idxO (schemaNames s) m.kind })) := Lib.hid (mid_at HLEN.out)
        go_upto_region 10 with fail
        go_cut [6] from 49 to 58 (fun v wx => v = .bool (ob && decide (0 ≤ idxO (schemaNames s) m.kind)) ∧ wx = wq)
        case first =>
          · skip
            obtain ⟨k0, k1, k2, k3, k4, k5⟩ := six_cells HXQ.out.s (Below.refl _ _)
            have lk := HXQ.out.s.lt
            have g2 := HXQ.out.x.cell 2
            simp only [List.getElem?_toArray, List.getElem?_cons_zero, List.getElem?_cons_succ] at g2
            have lx := HXQ.out.x.lt
            have lH := own_lt HOQ.out
            have hck : chunk cq 8 k = _ := HCQ.out.chunk HATK.out
            have e2 := own_cell HOQ.out hlt (by omega) hck (j := 2) rfl
            clear hck
            cases ob with
            | false =>
              have HOK : Hid ((false && decide (0 ≤ idxO (schemaNames s) m.kind)) = false) := Lib.hid (by first | rfl | (simp; done) | (simp [*]; done) | (simp; omega))
              go_wp2_with fail
              go_meet
              exact ⟨by rw [HOK.out], rfl⟩
            | true =>
              by_cases hv1 : (0 : Int) ≤ idxO (schemaNames s) m.kind
              · have dv1 : decide ((0 : Int) ≤ idxO (schemaNames s) m.kind) = true := by simpa using hv1
                have HOK : Hid ((true && decide (0 ≤ idxO (schemaNames s) m.kind)) = true) := Lib.hid (by first | rfl | (simp; done) | (simp [*]; done) | (simp; omega))
                go_wp2_with fail
                go_meet
                exact ⟨by rw [HOK.out], rfl⟩
              · have dv1 : decide ((0 : Int) ≤ idxO (schemaNames s) m.kind) = false := by simpa using hv1
                have HOK : Hid ((true && decide (0 ≤ idxO (schemaNames s) m.kind)) = false) := Lib.hid (by first | rfl | (simp; done) | (simp [*]; done) | (simp; omega))
                go_wp2_with fail
                go_meet
                exact ⟨by rw [HOK.out], rfl⟩
        case rest =>
          obtain ⟨rfl, rfl⟩ := hcut
          obtain ⟨wq, rfl⟩ : ∃ x, x = wc := ⟨_, rfl⟩
          obtain ⟨ob1, hob1⟩ : ∃ b, b = (ob && decide (0 ≤ idxO (schemaNames s) m.kind)) := ⟨_, rfl⟩
          rw [← hob1]
          have Hob1 := Lib.hid hob1
          clear hob1
          have hck : chunk cq 8 k = _ := HCQ.out.chunk HATK.out
          obtain ⟨k0, k1, k2, k3, k4, k5⟩ := six_cells HXQ.out.s (Below.refl _ _)
          have lk := HXQ.out.s.lt
          have g2 := HXQ.out.x.cell 2
          have xf := HXQ.out.x.cell 2
          simp only [List.getElem?_toArray, List.getElem?_cons_zero, List.getElem?_cons_succ] at g2 xf
          have lx := HXQ.out.x.lt
          have lH := own_lt HOQ.out
          have hrg : wq.rangeAt H (k * 8 + 3) [.string m.of_.name, .string m.of_.path, .int .i64 m.of_.var, .int .i64 m.of_.field, .int .i64 m.of_.n] := own_range HOQ.out hlt hck (j := 3) (by simp) rfl
          have e3 := hrg 0 _ rfl
          have e4 := hrg 1 _ rfl
          have e5 := hrg 2 _ rfl
          have e6 := hrg 3 _ rfl
          have e7 := hrg 4 _ rfl
          simp only [Nat.add_zero] at e3
          clear hck hrg
          obtain ⟨tq, htq⟩ : ∃ x, x = termQ s (fromsQ s p.froms k) m.of_ := ⟨_, rfl⟩
          obtain ⟨tk, htk⟩ : ∃ x, x = termOk s (fromsQ s p.froms k) m.of_ := ⟨_, rfl⟩
          have HTM : Hid (Calls Try.prog 83 #[.agg #[.slice A1 n1 c1, .slice A2 n2 c2, .slice A3 n3 c3, .slice A4 n4 c4, .slice A5 n5 c5, .slice A6 n6 c6], .slice (some ⟨H, 0, none⟩) m1 vc1, .int .i64 ((k : Nat) : Int), .agg #[.string m.of_.name, .string m.of_.path, .int .i64 m.of_.var, .int .i64 m.of_.field, .int .i64 m.of_.n]] wq.drew (RetTermQ tq tk wq.drew)) := Lib.hid (by
            have h := refTerm_any A1 A2 A3 A4 A5 A6 n1 c1 n2 c2 n3 c3 n4 c4 n5 c5 n6 c6 _ _ _ (k) s (fromsQ s p.froms k ++ [{ m with schema := idxO (schemaNames s) m.kind }] ++ p.froms.drop (k + 1)) m.of_ wq.drew (qSourceR_mono _ _ HXQ.out.bl.drew _ _ HS.out) (slR_of_row (HOQ.out.drew) ⟨HCQ.out.1, HCQ.out.2⟩ (by have := HCQ.out.1; have := HOQ.out.1; have := HL1.out; have := HLEN.out; simp; omega)) (Nat.le_of_lt hlt)
            rw [take_out HLEN.out, ← htq, ← htk] at h
            exact h)
          have HTQ := Lib.hid htq
          have HTK := Lib.hid htk
          clear htq htk
          go_upto_region 11 with fail
          apply wp_via0 (G := fun w3 => ∃ w1, Below wq.heap.size wq w1 ∧ w3 = w1.setCells H (k * 8 + 3) [.string tq.name, .string tq.path, .int .i64 tq.var, .int .i64 tq.field, .int .i64 tq.n])
          · refine wp_region_late (fun w' => w'.cell? ⟨w.heap.size, 0, none⟩ = some (.slice A1 n1 c1) ∧ w'.cell? ⟨w.heap.size, 1, none⟩ = some (.slice A2 n2 c2) ∧ w'.cell? ⟨w.heap.size, 2, none⟩ = some (.slice A3 n3 c3) ∧ w'.cell? ⟨w.heap.size, 3, none⟩ = some (.slice A4 n4 c4) ∧ w'.cell? ⟨w.heap.size, 4, none⟩ = some (.slice A5 n5 c5) ∧ w'.cell? ⟨w.heap.size, 5, none⟩ = some (.slice A6 n6 c6) ∧ w'.cell? ⟨w.heap.size + 1, 2, none⟩ = some (.slice (some ⟨H, 0, none⟩) m1 vc1) ∧ w'.cell? ⟨H, k * 8 + 3, none⟩ = some (.string m.of_.name) ∧ w'.cell? ⟨H, k * 8 + 3 + 1, none⟩ = some (.string m.of_.path) ∧ w'.cell? ⟨H, k * 8 + 3 + 2, none⟩ = some (.int .i64 m.of_.var) ∧ w'.cell? ⟨H, k * 8 + 3 + 3, none⟩ = some (.int .i64 m.of_.field) ∧ w'.cell? ⟨H, k * 8 + 3 + 4, none⟩ = some (.int .i64 m.of_.n)) [19, 20] (by kernel_rfl) ?_
            have HHELD : wq.drew.cell? ⟨w.heap.size, 0, none⟩ = some (.slice A1 n1 c1) ∧ wq.drew.cell? ⟨w.heap.size, 1, none⟩ = some (.slice A2 n2 c2) ∧ wq.drew.cell? ⟨w.heap.size, 2, none⟩ = some (.slice A3 n3 c3) ∧ wq.drew.cell? ⟨w.heap.size, 3, none⟩ = some (.slice A4 n4 c4) ∧ wq.drew.cell? ⟨w.heap.size, 4, none⟩ = some (.slice A5 n5 c5) ∧ wq.drew.cell? ⟨w.heap.size, 5, none⟩ = some (.slice A6 n6 c6) ∧ wq.drew.cell? ⟨w.heap.size + 1, 2, none⟩ = some (.slice (some ⟨H, 0, none⟩) m1 vc1) ∧ wq.drew.cell? ⟨H, k * 8 + 3, none⟩ = some (.string m.of_.name) ∧ wq.drew.cell? ⟨H, k * 8 + 3 + 1, none⟩ = some (.string m.of_.path) ∧ wq.drew.cell? ⟨H, k * 8 + 3 + 2, none⟩ = some (.int .i64 m.of_.var) ∧ wq.drew.cell? ⟨H, k * 8 + 3 + 3, none⟩ = some (.int .i64 m.of_.field) ∧ wq.drew.cell? ⟨H, k * 8 + 3 + 4, none⟩ = some (.int .i64 m.of_.n) := by
              refine ⟨?_, ?_, ?_, ?_, ?_, ?_, ?_, ?_, ?_, ?_, ?_, ?_⟩ <;> (simp only [World.cell?_drew]; assumption)
            refine wpAnyL_take0 (i := 0) (v := ?_) rfl (by kernel_rfl) (by kernel_rfl) (by kernel_rfl) (fun _ _ _ h => h) (Or.inl ⟨by rfl, ?_⟩) ?_
            rotate_left
            · intro w' _
              first | (go_simp; done) | (go_simp; with_reducible rfl)
            try simp only [Act.put]
            refine wpAnyL_take (i := 1) (v := ?_) rfl (by kernel_rfl) (by kernel_rfl) (by kernel_rfl) (by kernel_rfl) (fun _ _ _ h => h) (Or.inl ⟨by rfl, ?_⟩) HHELD ?_
            rotate_left
            · intro w' hSw
              obtain ⟨s0, s1, s2, s3, s4, s5, s6, s7, s8, s9, s10, s11⟩ := hSw
              first | (go_simp; done) | (go_simp; with_reducible rfl)
            try simp only [Act.put]
            refine wpAnyL_take0 (i := 2) (v := ?_) rfl (by kernel_rfl) (by kernel_rfl) (by kernel_rfl) (fun _ _ _ h => h) (Or.inl ⟨by rfl, ?_⟩) ?_
            rotate_left
            · intro w' _
              first | (go_simp; done) | (go_simp; with_reducible rfl)
            try simp only [Act.put]
            refine wpAnyL_take (i := 3) (v := ?_) rfl (by kernel_rfl) (by kernel_rfl) (by kernel_rfl) (by kernel_rfl) (fun _ _ _ h => h) (Or.inl ⟨by rfl, ?_⟩) HHELD ?_
            rotate_left
            · intro w' hSw
              obtain ⟨s0, s1, s2, s3, s4, s5, s6, s7, s8, s9, s10, s11⟩ := hSw
              first | (go_simp; done) | (go_simp; with_reducible rfl)
            try simp only [Act.put]
            refine wpAnyL_take0 (i := 4) (v := ?_) rfl (by kernel_rfl) (by kernel_rfl) (by kernel_rfl) (fun _ _ _ h => h) (Or.inl ⟨by rfl, ?_⟩) ?_
            rotate_left
            · intro w' _
              first | (go_simp; done) | (go_simp; with_reducible rfl)
            try simp only [Act.put]
            refine wpAnyL_take (i := 5) (v := ?_) rfl (by kernel_rfl) (by kernel_rfl) (by kernel_rfl) (by kernel_rfl) (fun _ _ _ h => h) (Or.inl ⟨by rfl, ?_⟩) HHELD ?_
            rotate_left
            · intro w' hSw
              obtain ⟨s0, s1, s2, s3, s4, s5, s6, s7, s8, s9, s10, s11⟩ := hSw
              first | (go_simp; done) | (go_simp; with_reducible rfl)
            try simp only [Act.put]
            refine wpAnyL_take0 (i := 6) (v := ?_) rfl (by kernel_rfl) (by kernel_rfl) (by kernel_rfl) (fun _ _ _ h => h) (Or.inl ⟨by rfl, ?_⟩) ?_
            rotate_left
            · intro w' _
              first | (go_simp; done) | (go_simp; with_reducible rfl)
            try simp only [Act.put]
            refine wpAnyL_take0 (i := 7) (v := ?_) rfl (by kernel_rfl) (by kernel_rfl) (by kernel_rfl) (fun _ _ _ h => h) (Or.inl ⟨by rfl, ?_⟩) ?_
            rotate_left
            · intro w' _
              first | (go_simp; done) | (go_simp; with_reducible rfl)
            try simp only [Act.put]
            refine wpAnyL_take (i := 8) (v := ?_) rfl (by kernel_rfl) (by kernel_rfl) (by kernel_rfl) (by kernel_rfl) (fun _ _ _ h => h) (Or.inl ⟨by rfl, ?_⟩) HHELD ?_
            rotate_left
            · intro w' hSw
              obtain ⟨s0, s1, s2, s3, s4, s5, s6, s7, s8, s9, s10, s11⟩ := hSw
              first | (go_simp; done) | (go_simp; with_reducible rfl)
            try simp only [Act.put]
            refine wpAnyL_take0 (i := 9) (v := ?_) rfl (by kernel_rfl) (by kernel_rfl) (by kernel_rfl) (fun _ _ _ h => h) (Or.inl ⟨by rfl, ?_⟩) ?_
            rotate_left
            · intro w' _
              first | (go_simp; done) | (go_simp; with_reducible rfl)
            try simp only [Act.put]
            refine wpAnyL_take0 (i := 10) (v := ?_) rfl (by kernel_rfl) (by kernel_rfl) (by kernel_rfl) (fun _ _ _ h => h) (Or.inl ⟨by rfl, ?_⟩) ?_
            rotate_left
            · intro w' _
              first | (go_simp; done) | (go_simp; with_reducible rfl)
            try simp only [Act.put]
            refine wpAnyL_take0 (i := 11) (v := ?_) rfl (by kernel_rfl) (by kernel_rfl) (by kernel_rfl) (fun _ _ _ h => h) (Or.inl ⟨by rfl, ?_⟩) ?_
            rotate_left
            · intro w' _
              first | (go_simp; done) | (go_simp; with_reducible rfl)
            try simp only [Act.put]
            refine wpAnyL_take (i := 12) (v := ?_) rfl (by kernel_rfl) (by kernel_rfl) (by kernel_rfl) (by kernel_rfl) (fun _ _ _ h => h) (Or.inl ⟨by rfl, ?_⟩) HHELD ?_
            rotate_left
            · intro w' hSw
              obtain ⟨s0, s1, s2, s3, s4, s5, s6, s7, s8, s9, s10, s11⟩ := hSw
              first | (go_simp; done) | (go_simp; with_reducible rfl)
            try simp only [Act.put]
            refine wpAnyL_one (i := 13) (by kernel_rfl) rfl (fun K hK => ?_)
            go_simp
            refine HTM.out.mono ?_
            rintro e wc ⟨rfl, hbc⟩
            have hbz : Below wq.heap.size wq wc := Below.trans (Below.refl _ _).drew hbc
            have r3 := (hbz.cell (p := ⟨H, k * 8 + 3, none⟩) lH).trans e3
            have r4 := (hbz.cell (p := ⟨H, k * 8 + 3 + 1, none⟩) lH).trans e4
            have r5 := (hbz.cell (p := ⟨H, k * 8 + 3 + 2, none⟩) lH).trans e5
            have r6 := (hbz.cell (p := ⟨H, k * 8 + 3 + 3, none⟩) lH).trans e6
            have r7 := (hbz.cell (p := ⟨H, k * 8 + 3 + 4, none⟩) lH).trans e7
            have f3 := (own_below0 HOQ.out hbz).frozenAt (k * 8 + 3)
            have f4 := (own_below0 HOQ.out hbz).frozenAt (k * 8 + 3 + 1)
            have f5 := (own_below0 HOQ.out hbz).frozenAt (k * 8 + 3 + 2)
            have f6 := (own_below0 HOQ.out hbz).frozenAt (k * 8 + 3 + 3)
            have f7 := (own_below0 HOQ.out hbz).frozenAt (k * 8 + 3 + 4)
            have HBC := Lib.hid hbz
            have HHELD : wc.cell? ⟨w.heap.size, 0, none⟩ = some (.slice A1 n1 c1) ∧ wc.cell? ⟨w.heap.size, 1, none⟩ = some (.slice A2 n2 c2) ∧ wc.cell? ⟨w.heap.size, 2, none⟩ = some (.slice A3 n3 c3) ∧ wc.cell? ⟨w.heap.size, 3, none⟩ = some (.slice A4 n4 c4) ∧ wc.cell? ⟨w.heap.size, 4, none⟩ = some (.slice A5 n5 c5) ∧ wc.cell? ⟨w.heap.size, 5, none⟩ = some (.slice A6 n6 c6) ∧ wc.cell? ⟨w.heap.size + 1, 2, none⟩ = some (.slice (some ⟨H, 0, none⟩) m1 vc1) ∧ wc.cell? ⟨H, k * 8 + 3, none⟩ = some (.string m.of_.name) ∧ wc.cell? ⟨H, k * 8 + 3 + 1, none⟩ = some (.string m.of_.path) ∧ wc.cell? ⟨H, k * 8 + 3 + 2, none⟩ = some (.int .i64 m.of_.var) ∧ wc.cell? ⟨H, k * 8 + 3 + 3, none⟩ = some (.int .i64 m.of_.field) ∧ wc.cell? ⟨H, k * 8 + 3 + 4, none⟩ = some (.int .i64 m.of_.n) := ⟨(hbz.cell (p := ⟨w.heap.size, 0, none⟩) lk).trans k0, (hbz.cell (p := ⟨w.heap.size, 1, none⟩) lk).trans k1, (hbz.cell (p := ⟨w.heap.size, 2, none⟩) lk).trans k2, (hbz.cell (p := ⟨w.heap.size, 3, none⟩) lk).trans k3, (hbz.cell (p := ⟨w.heap.size, 4, none⟩) lk).trans k4, (hbz.cell (p := ⟨w.heap.size, 5, none⟩) lk).trans k5, (hbz.cell (p := ⟨w.heap.size + 1, 2, none⟩) lx).trans g2, (hbz.cell (p := ⟨H, k * 8 + 3, none⟩) lH).trans e3, (hbz.cell (p := ⟨H, k * 8 + 3 + 1, none⟩) lH).trans e4, (hbz.cell (p := ⟨H, k * 8 + 3 + 2, none⟩) lH).trans e5, (hbz.cell (p := ⟨H, k * 8 + 3 + 3, none⟩) lH).trans e6, (hbz.cell (p := ⟨H, k * 8 + 3 + 4, none⟩) lH).trans e7⟩
            clear hbc hbz
            refine hK.out _ _ (.inr (fun _ => HHELD)) ?_
            clear hK K
            try simp only [Act.put]
            refine wpAnyL_take0 (i := 14) (v := ?_) rfl (by kernel_rfl) (by kernel_rfl) (by kernel_rfl) (fun _ _ _ h => h) (Or.inl ⟨by rfl, ?_⟩) ?_
            rotate_left
            · intro w' _
              first | (go_simp; done) | (go_simp; with_reducible rfl)
            try simp only [Act.put]
            refine wpAnyL_take0 (i := 15) (v := ?_) rfl (by kernel_rfl) (by kernel_rfl) (by kernel_rfl) (fun _ _ _ h => h) (Or.inl ⟨by rfl, ?_⟩) ?_
            rotate_left
            · intro w' _
              first | (go_simp; done) | (go_simp; with_reducible rfl)
            try simp only [Act.put]
            refine wpAnyL_take0 (i := 16) (v := ?_) rfl (by kernel_rfl) (by kernel_rfl) (by kernel_rfl) (fun _ _ _ h => h) (Or.inl ⟨by rfl, ?_⟩) ?_
            rotate_left
            · intro w' _
              first | (go_simp; done) | (go_simp; with_reducible rfl)
            try simp only [Act.put]
            refine wpAnyL_take0 (i := 17) (v := ?_) rfl (by kernel_rfl) (by kernel_rfl) (by kernel_rfl) (fun _ _ _ h => h) (Or.inl ⟨by rfl, ?_⟩) ?_
            rotate_left
            · intro w' _
              first | (go_simp; done) | (go_simp; with_reducible rfl)
            try simp only [Act.put]
            refine wpAnyL_take0 (i := 18) (v := ?_) rfl (by kernel_rfl) (by kernel_rfl) (by kernel_rfl) (fun _ _ _ h => h) (Or.inl ⟨by rfl, ?_⟩) ?_
            rotate_left
            · intro w' _
              first | (go_simp; done) | (go_simp; with_reducible rfl)
            try simp only [Act.put]
            clear HHELD
            refine wpAnyL_one (i := 19) (by kernel_rfl) rfl (fun K hK => ?_)
            go_simp
            refine hK.out _ _ (.inl (by rfl)) ?_
            clear hK K
            try simp only [Act.put]
            refine wpAnyL_one (i := 20) (by kernel_rfl) rfl (fun K hK => ?_)
            go_simp
            refine hK.out _ _ (.inl (by rfl)) ?_
            clear hK K
            try simp only [Act.put]
            refine wpAnyL_done (by kernel_rfl) ?_ _
            exact ⟨rfl, _, HBC.out, rfl⟩
          rintro w3 ⟨w1, hb1, rfl⟩
          have hgn := grown_setL [.string tq.name, .string tq.path, .int .i64 tq.var, .int .i64 tq.field, .int .i64 tq.n] (k * 8 + 3) w1 (World.grownBy.refl w1 (some H))
          have hxn := (HXQ.out.below hb1).far (K := H) hgn (by omega) (by omega) (by omega)
          have hon := own_putL [.string tq.name, .string tq.path, .int .i64 tq.var, .int .i64 tq.field, .int .i64 tq.n] (k * 8 + 3) _ w1 (own_below0 HOQ.out hb1)
          have hcn := HCQ.out.putL (i := k) (j := 3) (x' := { m with schema := idxO (schemaNames s) m.kind, of_ := tq }) (vs := [.string tq.name, .string tq.path, .int .i64 tq.var, .int .i64 tq.field, .int .i64 tq.n]) (by simp) (List.getElem?_eq_some_iff.1 HATK.out).1 (by rw [show chunk cq 8 k = _ from HCQ.out.chunk HATK.out]; rfl)
          generalize w1.setCells H (k * 8 + 3) [.string tq.name, .string tq.path, .int .i64 tq.var, .int .i64 tq.field, .int .i64 tq.n] = wq2 at hxn hon ⊢
          generalize setL cq (k * 8 + 3) [.string tq.name, .string tq.path, .int .i64 tq.var, .int .i64 tq.field, .int .i64 tq.n] = cq2 at hon hcn
          clear hb1 hgn k0 k1 k2 k3 k4 k5 lk g2 xf lx lH e3 e4 e5 e6 e7 HTM
          rw [set_mid HLEN.out, show ({ m with schema := idxO (schemaNames s) m.kind, of_ := tq } : QFrom) = fromQ s (fromsQ s p.froms k) m from by rw [HTQ.out]; rfl, ← fromsQ_succ HM.out] at hcn
          clear HXQ HOQ HCQ HATK
          have HXQ := Lib.hid hxn
          have HOQ := Lib.hid hon
          have HCQ := Lib.hid hcn
          clear hxn hon hcn
          obtain ⟨wq, rfl⟩ : ∃ x, x = wq2 := ⟨_, rfl⟩
          obtain ⟨cq, rfl⟩ : ∃ x, x = cq2 := ⟨_, rfl⟩
          cases ob1 with
          | false =>
            have HOK : Hid ((obp && fromsOk s p.froms (k + 1)) = false) := Lib.hid (by rw [fromsOk_succ HM.out, ← Bool.and_assoc, ← HOB.out]; unfold fromOk; rw [← HTK.out, ← Bool.and_assoc, ← Hob1.out]; first | rfl | (simp; done) | (simp [*]; done) | (simp; omega))
            go_wp2_with fail
            go_roundg (m1 - (k + 1))
            case measure => have := HQ.out; omega
            case rel => exact ⟨k + 1, _, by omega, rfl, by rw [HOK.out], by go_num, HXQ.out, HOQ.out, HCQ.out⟩
          | true =>
            cases tk with
            | false =>
              have HOK : Hid ((obp && fromsOk s p.froms (k + 1)) = false) := Lib.hid (by rw [fromsOk_succ HM.out, ← Bool.and_assoc, ← HOB.out]; unfold fromOk; rw [← HTK.out, ← Bool.and_assoc, ← Hob1.out]; first | rfl | (simp; done) | (simp [*]; done) | (simp; omega))
              go_wp2_with fail
              go_roundg (m1 - (k + 1))
              case measure => have := HQ.out; omega
              case rel => exact ⟨k + 1, _, by omega, rfl, by rw [HOK.out], by go_num, HXQ.out, HOQ.out, HCQ.out⟩
            | true =>
              have HOK : Hid ((obp && fromsOk s p.froms (k + 1)) = true) := Lib.hid (by rw [fromsOk_succ HM.out, ← Bool.and_assoc, ← HOB.out]; unfold fromOk; rw [← HTK.out, ← Bool.and_assoc, ← Hob1.out]; first | rfl | (simp; done) | (simp [*]; done) | (simp; omega))
              go_wp2_with fail
              go_roundg (m1 - (k + 1))
              case measure => have := HQ.out; omega
              case rel => exact ⟨k + 1, _, by omega, rfl, by rw [HOK.out], by go_num, HXQ.out, HOQ.out, HCQ.out⟩
      · have hke : k = p.froms.length := by have := HL1.out; omega
        rw [hke, List.drop_length, List.append_nil] at hcr
        have HOK : Hid (ob = (obp && fromsOk s p.froms p.froms.length)) := Lib.hid (by rw [HOB.out, hke])
        have HXQ := Lib.hid hxr
        have HR1 := Lib.hid hoh
        have HC1 : Hid (CellsR 8 qFromR w cr (ruleFo s p)) := Lib.hid hcr
        have HLF : Hid (m1 = (ruleFo s p).length) := Lib.hid (by rw [show (ruleFo s p).length = p.froms.length from fromsQ_len s p.froms _ (Nat.le_refl _)]; exact HL1.out)
        have HTF : Hid ((ruleFo s p).take m1 = ruleFo s p) := Lib.hid (List.take_of_length_le (Nat.le_of_eq HLF.out.symm))
        clear hxr hoh hcr hke HOB
        obtain ⟨cs1, rfl⟩ : ∃ x, x = cr := ⟨_, rfl⟩
        obtain ⟨k1', rfl⟩ : ∃ x, x = k := ⟨_, rfl⟩
        go_upto_region 13 with fail
        clear g2 hk hlt HQ lx
        obtain ⟨obp, hobp⟩ : ∃ x, x = ob := ⟨_, rfl⟩
        rw [← hobp] at HOK ⊢
        have HOBQ := Lib.hid HOK.out
        clear hobp HOK
        obtain ⟨wa2, rfl⟩ : ∃ x, x = wr := ⟨_, rfl⟩
        have q2 := HXQ.out.x.cell 3
        simp only [List.getElem?_toArray, List.getElem?_cons_zero, List.getElem?_cons_succ] at q2
        have lx := HXQ.out.x.lt
        have HXR := Lib.hid HXQ.out
        clear HXQ
        go_wp2_with (at_builtin; refine wpList_append_row _ rfl (.tmp 82) (.tmp 84) 53 64 rfl j2 _ 120 Try.underlying53 I2.out Z2.out.1 Z2.out.2.1 Z2.out.2.2 rfl (by decide) (R := fun _ => qAtomR w) (fun _ => qAtomR_one w) wa2.heap.size (.slice (some ⟨wa2.heap.size, 0, none⟩) 0 0) 0 [] rfl (World.ownsRow_lit wa2 #[] 0 (Nat.le_refl _) (Nat.zero_le _) rfl) B2 m2 d2 p.where_ rfl (H2.out.fix (HXR.out.bl.alloc HXR.out.bl.size _)) (by have := HB2.out; have := HL2.out; unfold maxLen; omega) (by have := HB2.out; have := HL2.out; omega) (by simp) ?_
                     intro v1 w1 cs2 hcs1 ho1 hgr1 hat1
                     have hcs1 : CellsR 11 qAtomR w cs2 p.where_ := ⟨hcs1.1, hcs1.2⟩
                     have hb1 : Below wa2.heap.size wa2 w1 := ((Below.refl _ _).alloc (Nat.le_refl _) _).grown hgr1 (by simp) (by simp [Value.ownBlock])
                     obtain ⟨vA2, vn, vc2, rfl, hvn⟩ := own_form' ho1
                     have hx1 := HXR.out.below hb1
                     have q21 := hx1.x.cell 3
                     have f21 := hx1.x.frozen 3
                     simp only [List.getElem?_toArray, List.getElem?_cons_zero, List.getElem?_cons_succ] at q21
                     have lx1 := hx1.x.lt
                     have HX1 := Lib.hid hx1
                     have HO1 := Lib.hid ho1
                     have HC2 := Lib.hid hcs1
                     have HBW1 := Lib.hid hb1
                     have HVN := Lib.hid hvn
                     clear hx1 ho1 hcs1 hb1 hgr1 hat1 hvn)
        obtain rfl : m2 = vn := by have := HVN.out; omega
        have hx2 := HX1.out.put (by omega) (by omega) 3 (.slice vA2 m2 vc2)
        simp only [List.setIfInBounds_toArray, List.set_cons_zero, List.set_cons_succ] at hx2
        have ho2 : (w1.setCell ⟨w.heap.size + 1, 3, none⟩ (.slice vA2 m2 vc2)).ownsRow wa2.heap.size 64 11 (.slice vA2 m2 vc2) m2 cs2 := by
          have := HO1.out
          rw [Nat.zero_add, List.nil_append] at this
          exact own_far this (by have := HXR.out.x.lt; simpa using this) _
        have hr1 : (w1.setCell ⟨w.heap.size + 1, 3, none⟩ (.slice vA2 m2 vc2)).ownsRow wa1.heap.size 61 8 (.slice vA1 m1 vc1) m1 cs1 := own_far (own_below0 HR1.out HBW1.out) (by have := hwa1; simp; omega) _
        have HRB1 : Hid (∀ r, (Value.slice vA1 m1 vc1).ownBlock = some r → r < wa2.heap.size) := Lib.hid (fun r e => (HR1.out.lt r e).2)
        generalize w1.setCell ⟨w.heap.size + 1, 3, none⟩ (.slice vA2 m2 vc2) = w2 at hx2 ho2 hr1 ⊢
        have HX2 := Lib.hid hx2
        have HO2 := Lib.hid ho2
        have hwa2 := HXR.out.lt
        clear HR1
        have HR1 := Lib.hid hr1
        clear hr1
        clear hx2 ho2 q2 lx q21 f21 lx1 HXR HX1 HO1 HBW1 HVN
        go_loopg [6, 9] m2 (fun q o j wr => ∃ (k : Nat) (cr : List Value), k ≤ m2 ∧ q = m2 - k ∧ o = .bool (obp && (p.where_.take k).all (atomOk s (ruleFo s p))) ∧ j = .int .i64 k ∧ XT w #[.slice A1 n1 c1, .slice A2 n2 c2, .slice A3 n3 c3, .slice A4 n4 c4, .slice A5 n5 c5, .slice A6 n6 c6] 56 1 #[.string p.head, .int .i64 (idxO (schemaNames s) p.head), .slice vA1 m1 vc1, .slice vA2 m2 vc2, .slice B3 m3 d3] 2 #[.string ⟨#[]⟩, .int .i64 0, .slice none 0 0, .slice none 0 0, .slice none 0 0] wr ∧
            wr.ownsRow wa2.heap.size 64 11 (.slice vA2 m2 vc2) m2 cr ∧ CellsR 11 qAtomR w cr ((p.where_.take k).map (atomQ s (ruleFo s p)) ++ p.where_.drop k) ∧ wr.ownsRow wa1.heap.size 61 8 (.slice vA1 m1 vc1) m1 cs1)
        case atStart => exact ⟨0, cs2, Nat.zero_le _, rfl, by rw [List.take_zero, List.all_nil, Bool.and_true], rfl, HX2.out, HO2.out, HC2.out, HR1.out⟩
        case round =>
          clear HX2 HO2 HC2 HR1
          obtain ⟨k, cr, hk, hq, rfl, rfl, hxr, hoh, hcr, hr1⟩ := hrel
          have HQ := Lib.hid hq
          clear hq
          have HR1 := Lib.hid hr1
          clear hr1
          obtain ⟨ob, hob⟩ : ∃ b, b = (obp && (p.where_.take k).all (atomOk s (ruleFo s p))) := ⟨_, rfl⟩
          rw [← hob]
          have HOB := Lib.hid hob
          clear hob
          have g2 := hxr.x.cell 3
          simp only [List.getElem?_toArray, List.getElem?_cons_zero, List.getElem?_cons_succ] at g2
          have lx := hxr.x.lt
          by_cases hlt : k < m2
          · rcases own_row hoh with ⟨h, h0⟩ | ⟨H, hcap, h, hH, hHw, hn2⟩
            · exfalso; injection h with _ h; omega
            injection h with h1 h2 h3
            subst h1 h3
            clear h2
            obtain ⟨m, hm⟩ : ∃ m, p.where_[k]? = some m := ⟨p.where_[k]'(by have := HL2.out; omega), List.getElem?_eq_getElem _⟩
            have HM := Lib.hid hm
            have HLEN : Hid (((p.where_.take k).map (atomQ s (ruleFo s p))).length = k) := Lib.hid (by have := HL2.out; simp; omega)
            have HATK := Lib.hid (drop_at HLEN.out hm)
            have hkn : (k : Int) < (m2 : Int) := by omega
            have hk0 : (0 : Int) ≤ (k : Int) := by omega
            have HXQ := Lib.hid hxr
            have HOQ := Lib.hid hoh
            have HCQ := Lib.hid hcr
            clear hm hxr hoh hcr g2 lx
            have hap1 : (Value.slice vA1 m1 vc1).ownBlock ≠ some H := fun e => by have := HRB1.out _ e; omega
            obtain ⟨wq, rfl⟩ : ∃ x, x = wr := ⟨_, rfl⟩
            obtain ⟨cq, rfl⟩ : ∃ x, x = cr := ⟨_, rfl⟩
            have hck : chunk cq 11 k = _ := HCQ.out.chunk HATK.out
            obtain ⟨k0, k1, k2, k3, k4, k5⟩ := six_cells HXQ.out.s (Below.refl _ _)
            have lk := HXQ.out.s.lt
            have g2 := HXQ.out.x.cell 3
            have xf := HXQ.out.x.cell 2
            simp only [List.getElem?_toArray, List.getElem?_cons_zero, List.getElem?_cons_succ] at g2 xf
            have lx := HXQ.out.x.lt
            have lH := own_lt HOQ.out
            have hrg : wq.rangeAt H (k * 11 + 1) [.string m.a.name, .string m.a.path, .int .i64 m.a.var, .int .i64 m.a.field, .int .i64 m.a.n] := own_range HOQ.out hlt hck (j := 1) (by simp) rfl
            have e3 := hrg 0 _ rfl
            have e4 := hrg 1 _ rfl
            have e5 := hrg 2 _ rfl
            have e6 := hrg 3 _ rfl
            have e7 := hrg 4 _ rfl
            simp only [Nat.add_zero] at e3
            clear hck hrg
            obtain ⟨tq, htq⟩ : ∃ x, x = termQ s (ruleFo s p) m.a := ⟨_, rfl⟩
            obtain ⟨tk, htk⟩ : ∃ x, x = termOk s (ruleFo s p) m.a := ⟨_, rfl⟩
            have HTM : Hid (Calls Try.prog 83 #[.agg #[.slice A1 n1 c1, .slice A2 n2 c2, .slice A3 n3 c3, .slice A4 n4 c4, .slice A5 n5 c5, .slice A6 n6 c6], .slice vA1 m1 vc1, .int .i64 ((m1 : Nat) : Int), .agg #[.string m.a.name, .string m.a.path, .int .i64 m.a.var, .int .i64 m.a.field, .int .i64 m.a.n]] wq.drew (RetTermQ tq tk wq.drew)) := Lib.hid (by
              have h := refTerm_any A1 A2 A3 A4 A5 A6 n1 c1 n2 c2 n3 c3 n4 c4 n5 c5 n6 c6 _ _ _ (m1) s (ruleFo s p) m.a wq.drew (qSourceR_mono _ _ HXQ.out.bl.drew _ _ HS.out) (slR_of_row (HR1.out.drew) ⟨HC1.out.1, HC1.out.2⟩ HLF.out) (Nat.le_refl _)
              rw [HTF.out, ← htq, ← htk] at h
              exact h)
            have HTQ := Lib.hid htq
            have HTK := Lib.hid htk
            clear htq htk
            go_upto_region 17 with fail
            apply wp_via0 (G := fun w3 => ∃ w1, Below wq.heap.size wq w1 ∧ w3 = w1.setCells H (k * 11 + 1) [.string tq.name, .string tq.path, .int .i64 tq.var, .int .i64 tq.field, .int .i64 tq.n])
            · refine wp_region_late (fun w' => w'.cell? ⟨w.heap.size, 0, none⟩ = some (.slice A1 n1 c1) ∧ w'.cell? ⟨w.heap.size, 1, none⟩ = some (.slice A2 n2 c2) ∧ w'.cell? ⟨w.heap.size, 2, none⟩ = some (.slice A3 n3 c3) ∧ w'.cell? ⟨w.heap.size, 3, none⟩ = some (.slice A4 n4 c4) ∧ w'.cell? ⟨w.heap.size, 4, none⟩ = some (.slice A5 n5 c5) ∧ w'.cell? ⟨w.heap.size, 5, none⟩ = some (.slice A6 n6 c6) ∧ w'.cell? ⟨w.heap.size + 1, 3, none⟩ = some (.slice (some ⟨H, 0, none⟩) m2 vc2) ∧ w'.cell? ⟨w.heap.size + 1, 2, none⟩ = some (.slice vA1 m1 vc1) ∧ w'.cell? ⟨H, k * 11 + 1, none⟩ = some (.string m.a.name) ∧ w'.cell? ⟨H, k * 11 + 1 + 1, none⟩ = some (.string m.a.path) ∧ w'.cell? ⟨H, k * 11 + 1 + 2, none⟩ = some (.int .i64 m.a.var) ∧ w'.cell? ⟨H, k * 11 + 1 + 3, none⟩ = some (.int .i64 m.a.field) ∧ w'.cell? ⟨H, k * 11 + 1 + 4, none⟩ = some (.int .i64 m.a.n)) [21, 22] (by kernel_rfl) ?_
              have HHELD : wq.drew.cell? ⟨w.heap.size, 0, none⟩ = some (.slice A1 n1 c1) ∧ wq.drew.cell? ⟨w.heap.size, 1, none⟩ = some (.slice A2 n2 c2) ∧ wq.drew.cell? ⟨w.heap.size, 2, none⟩ = some (.slice A3 n3 c3) ∧ wq.drew.cell? ⟨w.heap.size, 3, none⟩ = some (.slice A4 n4 c4) ∧ wq.drew.cell? ⟨w.heap.size, 4, none⟩ = some (.slice A5 n5 c5) ∧ wq.drew.cell? ⟨w.heap.size, 5, none⟩ = some (.slice A6 n6 c6) ∧ wq.drew.cell? ⟨w.heap.size + 1, 3, none⟩ = some (.slice (some ⟨H, 0, none⟩) m2 vc2) ∧ wq.drew.cell? ⟨w.heap.size + 1, 2, none⟩ = some (.slice vA1 m1 vc1) ∧ wq.drew.cell? ⟨H, k * 11 + 1, none⟩ = some (.string m.a.name) ∧ wq.drew.cell? ⟨H, k * 11 + 1 + 1, none⟩ = some (.string m.a.path) ∧ wq.drew.cell? ⟨H, k * 11 + 1 + 2, none⟩ = some (.int .i64 m.a.var) ∧ wq.drew.cell? ⟨H, k * 11 + 1 + 3, none⟩ = some (.int .i64 m.a.field) ∧ wq.drew.cell? ⟨H, k * 11 + 1 + 4, none⟩ = some (.int .i64 m.a.n) := by
                refine ⟨?_, ?_, ?_, ?_, ?_, ?_, ?_, ?_, ?_, ?_, ?_, ?_, ?_⟩ <;> (simp only [World.cell?_drew]; assumption)
              refine wpAnyL_take0 (i := 0) (v := ?_) rfl (by kernel_rfl) (by kernel_rfl) (by kernel_rfl) (fun _ _ _ h => h) (Or.inl ⟨by rfl, ?_⟩) ?_
              rotate_left
              · intro w' _
                first | (go_simp; done) | (go_simp; with_reducible rfl)
              try simp only [Act.put]
              refine wpAnyL_take (i := 1) (v := ?_) rfl (by kernel_rfl) (by kernel_rfl) (by kernel_rfl) (by kernel_rfl) (fun _ _ _ h => h) (Or.inl ⟨by rfl, ?_⟩) HHELD ?_
              rotate_left
              · intro w' hSw
                obtain ⟨s0, s1, s2, s3, s4, s5, s6, s7, s8, s9, s10, s11, s12⟩ := hSw
                first | (go_simp; done) | (go_simp; with_reducible rfl)
              try simp only [Act.put]
              refine wpAnyL_take0 (i := 2) (v := ?_) rfl (by kernel_rfl) (by kernel_rfl) (by kernel_rfl) (fun _ _ _ h => h) (Or.inl ⟨by rfl, ?_⟩) ?_
              rotate_left
              · intro w' _
                first | (go_simp; done) | (go_simp; with_reducible rfl)
              try simp only [Act.put]
              refine wpAnyL_take (i := 3) (v := ?_) rfl (by kernel_rfl) (by kernel_rfl) (by kernel_rfl) (by kernel_rfl) (fun _ _ _ h => h) (Or.inl ⟨by rfl, ?_⟩) HHELD ?_
              rotate_left
              · intro w' hSw
                obtain ⟨s0, s1, s2, s3, s4, s5, s6, s7, s8, s9, s10, s11, s12⟩ := hSw
                first | (go_simp; done) | (go_simp; with_reducible rfl)
              try simp only [Act.put]
              refine wpAnyL_take0 (i := 4) (v := ?_) rfl (by kernel_rfl) (by kernel_rfl) (by kernel_rfl) (fun _ _ _ h => h) (Or.inl ⟨by rfl, ?_⟩) ?_
              rotate_left
              · intro w' _
                first | (go_simp; done) | (go_simp; with_reducible rfl)
              try simp only [Act.put]
              refine wpAnyL_take (i := 5) (v := ?_) rfl (by kernel_rfl) (by kernel_rfl) (by kernel_rfl) (by kernel_rfl) (fun _ _ _ h => h) (Or.inl ⟨by rfl, ?_⟩) HHELD ?_
              rotate_left
              · intro w' hSw
                obtain ⟨s0, s1, s2, s3, s4, s5, s6, s7, s8, s9, s10, s11, s12⟩ := hSw
                first | (go_simp; done) | (go_simp; with_reducible rfl)
              try simp only [Act.put]
              refine wpAnyL_take0 (i := 6) (v := ?_) rfl (by kernel_rfl) (by kernel_rfl) (by kernel_rfl) (fun _ _ _ h => h) (Or.inl ⟨by rfl, ?_⟩) ?_
              rotate_left
              · intro w' _
                first | (go_simp; done) | (go_simp; with_reducible rfl)
              try simp only [Act.put]
              refine wpAnyL_take (i := 7) (v := ?_) rfl (by kernel_rfl) (by kernel_rfl) (by kernel_rfl) (by kernel_rfl) (fun _ _ _ h => h) (Or.inl ⟨by rfl, ?_⟩) HHELD ?_
              rotate_left
              · intro w' hSw
                obtain ⟨s0, s1, s2, s3, s4, s5, s6, s7, s8, s9, s10, s11, s12⟩ := hSw
                first | (go_simp; done) | (go_simp; with_reducible rfl)
              try simp only [Act.put]
              refine wpAnyL_take0 (i := 8) (v := ?_) rfl (by kernel_rfl) (by kernel_rfl) (by kernel_rfl) (fun _ _ _ h => h) (Or.inl ⟨by rfl, ?_⟩) ?_
              rotate_left
              · intro w' _
                first | (go_simp; done) | (go_simp; with_reducible rfl)
              try simp only [Act.put]
              refine wpAnyL_take0 (i := 9) (v := ?_) rfl (by kernel_rfl) (by kernel_rfl) (by kernel_rfl) (fun _ _ _ h => h) (Or.inl ⟨by rfl, ?_⟩) ?_
              rotate_left
              · intro w' _
                first | (go_simp; done) | (go_simp; with_reducible rfl)
              try simp only [Act.put]
              refine wpAnyL_take (i := 10) (v := ?_) rfl (by kernel_rfl) (by kernel_rfl) (by kernel_rfl) (by kernel_rfl) (fun _ _ _ h => h) (Or.inl ⟨by rfl, ?_⟩) HHELD ?_
              rotate_left
              · intro w' hSw
                obtain ⟨s0, s1, s2, s3, s4, s5, s6, s7, s8, s9, s10, s11, s12⟩ := hSw
                first | (go_simp; done) | (go_simp; with_reducible rfl)
              try simp only [Act.put]
              refine wpAnyL_take0 (i := 11) (v := ?_) rfl (by kernel_rfl) (by kernel_rfl) (by kernel_rfl) (fun _ _ _ h => h) (Or.inl ⟨by rfl, ?_⟩) ?_
              rotate_left
              · intro w' _
                first | (go_simp; done) | (go_simp; with_reducible rfl)
              try simp only [Act.put]
              refine wpAnyL_take0 (i := 12) (v := ?_) rfl (by kernel_rfl) (by kernel_rfl) (by kernel_rfl) (fun _ _ _ h => h) (Or.inl ⟨by rfl, ?_⟩) ?_
              rotate_left
              · intro w' _
                first | (go_simp; done) | (go_simp; with_reducible rfl)
              try simp only [Act.put]
              refine wpAnyL_take0 (i := 13) (v := ?_) rfl (by kernel_rfl) (by kernel_rfl) (by kernel_rfl) (fun _ _ _ h => h) (Or.inl ⟨by rfl, ?_⟩) ?_
              rotate_left
              · intro w' _
                first | (go_simp; done) | (go_simp; with_reducible rfl)
              try simp only [Act.put]
              refine wpAnyL_take (i := 14) (v := ?_) rfl (by kernel_rfl) (by kernel_rfl) (by kernel_rfl) (by kernel_rfl) (fun _ _ _ h => h) (Or.inl ⟨by rfl, ?_⟩) HHELD ?_
              rotate_left
              · intro w' hSw
                obtain ⟨s0, s1, s2, s3, s4, s5, s6, s7, s8, s9, s10, s11, s12⟩ := hSw
                first | (go_simp; done) | (go_simp; with_reducible rfl)
              try simp only [Act.put]
              refine wpAnyL_one (i := 15) (by kernel_rfl) rfl (fun K hK => ?_)
              go_simp
              refine HTM.out.mono ?_
              rintro e wc ⟨rfl, hbc⟩
              have hbz : Below wq.heap.size wq wc := Below.trans (Below.refl _ _).drew hbc
              have r3 := (hbz.cell (p := ⟨H, k * 11 + 1, none⟩) lH).trans e3
              have r4 := (hbz.cell (p := ⟨H, k * 11 + 1 + 1, none⟩) lH).trans e4
              have r5 := (hbz.cell (p := ⟨H, k * 11 + 1 + 2, none⟩) lH).trans e5
              have r6 := (hbz.cell (p := ⟨H, k * 11 + 1 + 3, none⟩) lH).trans e6
              have r7 := (hbz.cell (p := ⟨H, k * 11 + 1 + 4, none⟩) lH).trans e7
              have f3 := (own_below0 HOQ.out hbz).frozenAt (k * 11 + 1)
              have f4 := (own_below0 HOQ.out hbz).frozenAt (k * 11 + 1 + 1)
              have f5 := (own_below0 HOQ.out hbz).frozenAt (k * 11 + 1 + 2)
              have f6 := (own_below0 HOQ.out hbz).frozenAt (k * 11 + 1 + 3)
              have f7 := (own_below0 HOQ.out hbz).frozenAt (k * 11 + 1 + 4)
              have HBC := Lib.hid hbz
              have HHELD : wc.cell? ⟨w.heap.size, 0, none⟩ = some (.slice A1 n1 c1) ∧ wc.cell? ⟨w.heap.size, 1, none⟩ = some (.slice A2 n2 c2) ∧ wc.cell? ⟨w.heap.size, 2, none⟩ = some (.slice A3 n3 c3) ∧ wc.cell? ⟨w.heap.size, 3, none⟩ = some (.slice A4 n4 c4) ∧ wc.cell? ⟨w.heap.size, 4, none⟩ = some (.slice A5 n5 c5) ∧ wc.cell? ⟨w.heap.size, 5, none⟩ = some (.slice A6 n6 c6) ∧ wc.cell? ⟨w.heap.size + 1, 3, none⟩ = some (.slice (some ⟨H, 0, none⟩) m2 vc2) ∧ wc.cell? ⟨w.heap.size + 1, 2, none⟩ = some (.slice vA1 m1 vc1) ∧ wc.cell? ⟨H, k * 11 + 1, none⟩ = some (.string m.a.name) ∧ wc.cell? ⟨H, k * 11 + 1 + 1, none⟩ = some (.string m.a.path) ∧ wc.cell? ⟨H, k * 11 + 1 + 2, none⟩ = some (.int .i64 m.a.var) ∧ wc.cell? ⟨H, k * 11 + 1 + 3, none⟩ = some (.int .i64 m.a.field) ∧ wc.cell? ⟨H, k * 11 + 1 + 4, none⟩ = some (.int .i64 m.a.n) := ⟨(hbz.cell (p := ⟨w.heap.size, 0, none⟩) lk).trans k0, (hbz.cell (p := ⟨w.heap.size, 1, none⟩) lk).trans k1, (hbz.cell (p := ⟨w.heap.size, 2, none⟩) lk).trans k2, (hbz.cell (p := ⟨w.heap.size, 3, none⟩) lk).trans k3, (hbz.cell (p := ⟨w.heap.size, 4, none⟩) lk).trans k4, (hbz.cell (p := ⟨w.heap.size, 5, none⟩) lk).trans k5, (hbz.cell (p := ⟨w.heap.size + 1, 3, none⟩) lx).trans g2, (hbz.cell (p := ⟨w.heap.size + 1, 2, none⟩) lx).trans xf, (hbz.cell (p := ⟨H, k * 11 + 1, none⟩) lH).trans e3, (hbz.cell (p := ⟨H, k * 11 + 1 + 1, none⟩) lH).trans e4, (hbz.cell (p := ⟨H, k * 11 + 1 + 2, none⟩) lH).trans e5, (hbz.cell (p := ⟨H, k * 11 + 1 + 3, none⟩) lH).trans e6, (hbz.cell (p := ⟨H, k * 11 + 1 + 4, none⟩) lH).trans e7⟩
              clear hbc hbz
              refine hK.out _ _ (.inr (fun _ => HHELD)) ?_
              clear hK K
              try simp only [Act.put]
              refine wpAnyL_take0 (i := 16) (v := ?_) rfl (by kernel_rfl) (by kernel_rfl) (by kernel_rfl) (fun _ _ _ h => h) (Or.inl ⟨by rfl, ?_⟩) ?_
              rotate_left
              · intro w' _
                first | (go_simp; done) | (go_simp; with_reducible rfl)
              try simp only [Act.put]
              refine wpAnyL_take0 (i := 17) (v := ?_) rfl (by kernel_rfl) (by kernel_rfl) (by kernel_rfl) (fun _ _ _ h => h) (Or.inl ⟨by rfl, ?_⟩) ?_
              rotate_left
              · intro w' _
                first | (go_simp; done) | (go_simp; with_reducible rfl)
              try simp only [Act.put]
              refine wpAnyL_take0 (i := 18) (v := ?_) rfl (by kernel_rfl) (by kernel_rfl) (by kernel_rfl) (fun _ _ _ h => h) (Or.inl ⟨by rfl, ?_⟩) ?_
              rotate_left
              · intro w' _
                first | (go_simp; done) | (go_simp; with_reducible rfl)
              try simp only [Act.put]
              refine wpAnyL_take0 (i := 19) (v := ?_) rfl (by kernel_rfl) (by kernel_rfl) (by kernel_rfl) (fun _ _ _ h => h) (Or.inl ⟨by rfl, ?_⟩) ?_
              rotate_left
              · intro w' _
                first | (go_simp; done) | (go_simp; with_reducible rfl)
              try simp only [Act.put]
              refine wpAnyL_take0 (i := 20) (v := ?_) rfl (by kernel_rfl) (by kernel_rfl) (by kernel_rfl) (fun _ _ _ h => h) (Or.inl ⟨by rfl, ?_⟩) ?_
              rotate_left
              · intro w' _
                first | (go_simp; done) | (go_simp; with_reducible rfl)
              try simp only [Act.put]
              clear HHELD
              refine wpAnyL_one (i := 21) (by kernel_rfl) rfl (fun K hK => ?_)
              go_simp
              refine hK.out _ _ (.inl (by rfl)) ?_
              clear hK K
              try simp only [Act.put]
              refine wpAnyL_one (i := 22) (by kernel_rfl) rfl (fun K hK => ?_)
              go_simp
              refine hK.out _ _ (.inl (by rfl)) ?_
              clear hK K
              try simp only [Act.put]
              refine wpAnyL_done (by kernel_rfl) ?_ _
              exact ⟨rfl, _, HBC.out, rfl⟩
            rintro w3 ⟨w1, hb1, rfl⟩
            have hgn := grown_setL [.string tq.name, .string tq.path, .int .i64 tq.var, .int .i64 tq.field, .int .i64 tq.n] (k * 11 + 1) w1 (World.grownBy.refl w1 (some H))
            have hxn := (HXQ.out.below hb1).far (K := H) hgn (by omega) (by omega) (by omega)
            have hon := own_putL [.string tq.name, .string tq.path, .int .i64 tq.var, .int .i64 tq.field, .int .i64 tq.n] (k * 11 + 1) _ w1 (own_below0 HOQ.out hb1)
            have hcn := HCQ.out.putL (i := k) (j := 1) (x' := { m with a := tq }) (vs := [.string tq.name, .string tq.path, .int .i64 tq.var, .int .i64 tq.field, .int .i64 tq.n]) (by simp) (List.getElem?_eq_some_iff.1 HATK.out).1 (by rw [show chunk cq 11 k = _ from HCQ.out.chunk HATK.out]; rfl)
            have hr1 := (own_below0 HR1.out hb1).kept hgn (.inr hap1)
            clear HR1
            generalize w1.setCells H (k * 11 + 1) [.string tq.name, .string tq.path, .int .i64 tq.var, .int .i64 tq.field, .int .i64 tq.n] = wq2 at hxn hon hr1 ⊢
            have HR1 := Lib.hid hr1
            clear hr1
            generalize setL cq (k * 11 + 1) [.string tq.name, .string tq.path, .int .i64 tq.var, .int .i64 tq.field, .int .i64 tq.n] = cq2 at hon hcn
            clear hb1 hgn k0 k1 k2 k3 k4 k5 lk g2 xf lx lH e3 e4 e5 e6 e7 HTM
            rw [show (List.map (atomQ s (ruleFo s p)) (List.take k p.where_) ++ List.drop k p.where_).set k ({ m with a := tq }) = _ from set_drop HLEN.out HM.out] at hcn
            obtain ⟨ta, hta⟩ : ∃ x, x = tq := ⟨_, rfl⟩
            rw [← hta] at hcn HTQ ⊢
            obtain ⟨ka, hka⟩ : ∃ x, x = tk := ⟨_, rfl⟩
            rw [← hka] at HTK ⊢
            have HTQA := Lib.hid HTQ.out
            have HTKA := Lib.hid HTK.out
            clear HTQ HTK hta hka
            clear HXQ HOQ HCQ HATK
            have HXQ := Lib.hid hxn
            have HOQ := Lib.hid hon
            have HCQ := Lib.hid hcn
            clear hxn hon hcn
            obtain ⟨wq, rfl⟩ : ∃ x, x = wq2 := ⟨_, rfl⟩
            obtain ⟨cq, rfl⟩ : ∃ x, x = cq2 := ⟨_, rfl⟩
            have HATK : Hid ((((p.where_.take k).map (atomQ s (ruleFo s p)) ++ [{ m with a := ta }]) ++ p.where_.drop (k + 1))[k]? = some ({ m with a := ta })) := Lib.hid (mid_at HLEN.out)
            go_upto_region 18 with fail
            go_cut [6] from 115 to 118 (fun v wx => v = .bool (ob && ka) ∧ wx = wq)
            case first =>
              · skip
                skip
                cases ob with
                | false =>
                  have HOK : Hid ((false && ka) = false) := Lib.hid (by first | rfl | (simp; done) | (simp [*]; done) | (simp; omega))
                  go_wp2_with fail
                  go_meet
                  exact ⟨by rw [HOK.out], rfl⟩
                | true =>
                  cases ka with
                  | false =>
                    have HOK : Hid ((true && false) = false) := Lib.hid (by first | rfl | (simp; done) | (simp [*]; done) | (simp; omega))
                    go_wp2_with fail
                    go_meet
                    exact ⟨by rw [HOK.out], rfl⟩
                  | true =>
                    have HOK : Hid ((true && true) = true) := Lib.hid (by first | rfl | (simp; done) | (simp [*]; done) | (simp; omega))
                    go_wp2_with fail
                    go_meet
                    exact ⟨by rw [HOK.out], rfl⟩
            case rest =>
              obtain ⟨rfl, rfl⟩ := hcut
              obtain ⟨wq, rfl⟩ : ∃ x, x = wc := ⟨_, rfl⟩
              obtain ⟨ob1, hob1⟩ : ∃ b, b = (ob && ka) := ⟨_, rfl⟩
              rw [← hob1]
              have Hob1 := Lib.hid hob1
              clear hob1
              have hck : chunk cq 11 k = _ := HCQ.out.chunk HATK.out
              obtain ⟨k0, k1, k2, k3, k4, k5⟩ := six_cells HXQ.out.s (Below.refl _ _)
              have lk := HXQ.out.s.lt
              have g2 := HXQ.out.x.cell 3
              have xf := HXQ.out.x.cell 2
              simp only [List.getElem?_toArray, List.getElem?_cons_zero, List.getElem?_cons_succ] at g2 xf
              have lx := HXQ.out.x.lt
              have lH := own_lt HOQ.out
              have hrg : wq.rangeAt H (k * 11 + 6) [.string m.b.name, .string m.b.path, .int .i64 m.b.var, .int .i64 m.b.field, .int .i64 m.b.n] := own_range HOQ.out hlt hck (j := 6) (by simp) rfl
              have e3 := hrg 0 _ rfl
              have e4 := hrg 1 _ rfl
              have e5 := hrg 2 _ rfl
              have e6 := hrg 3 _ rfl
              have e7 := hrg 4 _ rfl
              simp only [Nat.add_zero] at e3
              clear hck hrg
              obtain ⟨tq, htq⟩ : ∃ x, x = termQ s (ruleFo s p) m.b := ⟨_, rfl⟩
              obtain ⟨tk, htk⟩ : ∃ x, x = termOk s (ruleFo s p) m.b := ⟨_, rfl⟩
              have HTM : Hid (Calls Try.prog 83 #[.agg #[.slice A1 n1 c1, .slice A2 n2 c2, .slice A3 n3 c3, .slice A4 n4 c4, .slice A5 n5 c5, .slice A6 n6 c6], .slice vA1 m1 vc1, .int .i64 ((m1 : Nat) : Int), .agg #[.string m.b.name, .string m.b.path, .int .i64 m.b.var, .int .i64 m.b.field, .int .i64 m.b.n]] wq.drew (RetTermQ tq tk wq.drew)) := Lib.hid (by
                have h := refTerm_any A1 A2 A3 A4 A5 A6 n1 c1 n2 c2 n3 c3 n4 c4 n5 c5 n6 c6 _ _ _ (m1) s (ruleFo s p) m.b wq.drew (qSourceR_mono _ _ HXQ.out.bl.drew _ _ HS.out) (slR_of_row (HR1.out.drew) ⟨HC1.out.1, HC1.out.2⟩ HLF.out) (Nat.le_refl _)
                rw [HTF.out, ← htq, ← htk] at h
                exact h)
              have HTQ := Lib.hid htq
              have HTK := Lib.hid htk
              clear htq htk
              go_upto_region 19 with fail
              apply wp_via0 (G := fun w3 => ∃ w1, Below wq.heap.size wq w1 ∧ w3 = w1.setCells H (k * 11 + 6) [.string tq.name, .string tq.path, .int .i64 tq.var, .int .i64 tq.field, .int .i64 tq.n])
              · refine wp_region_late (fun w' => w'.cell? ⟨w.heap.size, 0, none⟩ = some (.slice A1 n1 c1) ∧ w'.cell? ⟨w.heap.size, 1, none⟩ = some (.slice A2 n2 c2) ∧ w'.cell? ⟨w.heap.size, 2, none⟩ = some (.slice A3 n3 c3) ∧ w'.cell? ⟨w.heap.size, 3, none⟩ = some (.slice A4 n4 c4) ∧ w'.cell? ⟨w.heap.size, 4, none⟩ = some (.slice A5 n5 c5) ∧ w'.cell? ⟨w.heap.size, 5, none⟩ = some (.slice A6 n6 c6) ∧ w'.cell? ⟨w.heap.size + 1, 3, none⟩ = some (.slice (some ⟨H, 0, none⟩) m2 vc2) ∧ w'.cell? ⟨w.heap.size + 1, 2, none⟩ = some (.slice vA1 m1 vc1) ∧ w'.cell? ⟨H, k * 11 + 6, none⟩ = some (.string m.b.name) ∧ w'.cell? ⟨H, k * 11 + 6 + 1, none⟩ = some (.string m.b.path) ∧ w'.cell? ⟨H, k * 11 + 6 + 2, none⟩ = some (.int .i64 m.b.var) ∧ w'.cell? ⟨H, k * 11 + 6 + 3, none⟩ = some (.int .i64 m.b.field) ∧ w'.cell? ⟨H, k * 11 + 6 + 4, none⟩ = some (.int .i64 m.b.n)) [21, 22] (by kernel_rfl) ?_
                have HHELD : wq.drew.cell? ⟨w.heap.size, 0, none⟩ = some (.slice A1 n1 c1) ∧ wq.drew.cell? ⟨w.heap.size, 1, none⟩ = some (.slice A2 n2 c2) ∧ wq.drew.cell? ⟨w.heap.size, 2, none⟩ = some (.slice A3 n3 c3) ∧ wq.drew.cell? ⟨w.heap.size, 3, none⟩ = some (.slice A4 n4 c4) ∧ wq.drew.cell? ⟨w.heap.size, 4, none⟩ = some (.slice A5 n5 c5) ∧ wq.drew.cell? ⟨w.heap.size, 5, none⟩ = some (.slice A6 n6 c6) ∧ wq.drew.cell? ⟨w.heap.size + 1, 3, none⟩ = some (.slice (some ⟨H, 0, none⟩) m2 vc2) ∧ wq.drew.cell? ⟨w.heap.size + 1, 2, none⟩ = some (.slice vA1 m1 vc1) ∧ wq.drew.cell? ⟨H, k * 11 + 6, none⟩ = some (.string m.b.name) ∧ wq.drew.cell? ⟨H, k * 11 + 6 + 1, none⟩ = some (.string m.b.path) ∧ wq.drew.cell? ⟨H, k * 11 + 6 + 2, none⟩ = some (.int .i64 m.b.var) ∧ wq.drew.cell? ⟨H, k * 11 + 6 + 3, none⟩ = some (.int .i64 m.b.field) ∧ wq.drew.cell? ⟨H, k * 11 + 6 + 4, none⟩ = some (.int .i64 m.b.n) := by
                  refine ⟨?_, ?_, ?_, ?_, ?_, ?_, ?_, ?_, ?_, ?_, ?_, ?_, ?_⟩ <;> (simp only [World.cell?_drew]; assumption)
                refine wpAnyL_take0 (i := 0) (v := ?_) rfl (by kernel_rfl) (by kernel_rfl) (by kernel_rfl) (fun _ _ _ h => h) (Or.inl ⟨by rfl, ?_⟩) ?_
                rotate_left
                · intro w' _
                  first | (go_simp; done) | (go_simp; with_reducible rfl)
                try simp only [Act.put]
                refine wpAnyL_take (i := 1) (v := ?_) rfl (by kernel_rfl) (by kernel_rfl) (by kernel_rfl) (by kernel_rfl) (fun _ _ _ h => h) (Or.inl ⟨by rfl, ?_⟩) HHELD ?_
                rotate_left
                · intro w' hSw
                  obtain ⟨s0, s1, s2, s3, s4, s5, s6, s7, s8, s9, s10, s11, s12⟩ := hSw
                  first | (go_simp; done) | (go_simp; with_reducible rfl)
                try simp only [Act.put]
                refine wpAnyL_take0 (i := 2) (v := ?_) rfl (by kernel_rfl) (by kernel_rfl) (by kernel_rfl) (fun _ _ _ h => h) (Or.inl ⟨by rfl, ?_⟩) ?_
                rotate_left
                · intro w' _
                  first | (go_simp; done) | (go_simp; with_reducible rfl)
                try simp only [Act.put]
                refine wpAnyL_take (i := 3) (v := ?_) rfl (by kernel_rfl) (by kernel_rfl) (by kernel_rfl) (by kernel_rfl) (fun _ _ _ h => h) (Or.inl ⟨by rfl, ?_⟩) HHELD ?_
                rotate_left
                · intro w' hSw
                  obtain ⟨s0, s1, s2, s3, s4, s5, s6, s7, s8, s9, s10, s11, s12⟩ := hSw
                  first | (go_simp; done) | (go_simp; with_reducible rfl)
                try simp only [Act.put]
                refine wpAnyL_take0 (i := 4) (v := ?_) rfl (by kernel_rfl) (by kernel_rfl) (by kernel_rfl) (fun _ _ _ h => h) (Or.inl ⟨by rfl, ?_⟩) ?_
                rotate_left
                · intro w' _
                  first | (go_simp; done) | (go_simp; with_reducible rfl)
                try simp only [Act.put]
                refine wpAnyL_take (i := 5) (v := ?_) rfl (by kernel_rfl) (by kernel_rfl) (by kernel_rfl) (by kernel_rfl) (fun _ _ _ h => h) (Or.inl ⟨by rfl, ?_⟩) HHELD ?_
                rotate_left
                · intro w' hSw
                  obtain ⟨s0, s1, s2, s3, s4, s5, s6, s7, s8, s9, s10, s11, s12⟩ := hSw
                  first | (go_simp; done) | (go_simp; with_reducible rfl)
                try simp only [Act.put]
                refine wpAnyL_take0 (i := 6) (v := ?_) rfl (by kernel_rfl) (by kernel_rfl) (by kernel_rfl) (fun _ _ _ h => h) (Or.inl ⟨by rfl, ?_⟩) ?_
                rotate_left
                · intro w' _
                  first | (go_simp; done) | (go_simp; with_reducible rfl)
                try simp only [Act.put]
                refine wpAnyL_take (i := 7) (v := ?_) rfl (by kernel_rfl) (by kernel_rfl) (by kernel_rfl) (by kernel_rfl) (fun _ _ _ h => h) (Or.inl ⟨by rfl, ?_⟩) HHELD ?_
                rotate_left
                · intro w' hSw
                  obtain ⟨s0, s1, s2, s3, s4, s5, s6, s7, s8, s9, s10, s11, s12⟩ := hSw
                  first | (go_simp; done) | (go_simp; with_reducible rfl)
                try simp only [Act.put]
                refine wpAnyL_take0 (i := 8) (v := ?_) rfl (by kernel_rfl) (by kernel_rfl) (by kernel_rfl) (fun _ _ _ h => h) (Or.inl ⟨by rfl, ?_⟩) ?_
                rotate_left
                · intro w' _
                  first | (go_simp; done) | (go_simp; with_reducible rfl)
                try simp only [Act.put]
                refine wpAnyL_take0 (i := 9) (v := ?_) rfl (by kernel_rfl) (by kernel_rfl) (by kernel_rfl) (fun _ _ _ h => h) (Or.inl ⟨by rfl, ?_⟩) ?_
                rotate_left
                · intro w' _
                  first | (go_simp; done) | (go_simp; with_reducible rfl)
                try simp only [Act.put]
                refine wpAnyL_take (i := 10) (v := ?_) rfl (by kernel_rfl) (by kernel_rfl) (by kernel_rfl) (by kernel_rfl) (fun _ _ _ h => h) (Or.inl ⟨by rfl, ?_⟩) HHELD ?_
                rotate_left
                · intro w' hSw
                  obtain ⟨s0, s1, s2, s3, s4, s5, s6, s7, s8, s9, s10, s11, s12⟩ := hSw
                  first | (go_simp; done) | (go_simp; with_reducible rfl)
                try simp only [Act.put]
                refine wpAnyL_take0 (i := 11) (v := ?_) rfl (by kernel_rfl) (by kernel_rfl) (by kernel_rfl) (fun _ _ _ h => h) (Or.inl ⟨by rfl, ?_⟩) ?_
                rotate_left
                · intro w' _
                  first | (go_simp; done) | (go_simp; with_reducible rfl)
                try simp only [Act.put]
                refine wpAnyL_take0 (i := 12) (v := ?_) rfl (by kernel_rfl) (by kernel_rfl) (by kernel_rfl) (fun _ _ _ h => h) (Or.inl ⟨by rfl, ?_⟩) ?_
                rotate_left
                · intro w' _
                  first | (go_simp; done) | (go_simp; with_reducible rfl)
                try simp only [Act.put]
                refine wpAnyL_take0 (i := 13) (v := ?_) rfl (by kernel_rfl) (by kernel_rfl) (by kernel_rfl) (fun _ _ _ h => h) (Or.inl ⟨by rfl, ?_⟩) ?_
                rotate_left
                · intro w' _
                  first | (go_simp; done) | (go_simp; with_reducible rfl)
                try simp only [Act.put]
                refine wpAnyL_take (i := 14) (v := ?_) rfl (by kernel_rfl) (by kernel_rfl) (by kernel_rfl) (by kernel_rfl) (fun _ _ _ h => h) (Or.inl ⟨by rfl, ?_⟩) HHELD ?_
                rotate_left
                · intro w' hSw
                  obtain ⟨s0, s1, s2, s3, s4, s5, s6, s7, s8, s9, s10, s11, s12⟩ := hSw
                  first | (go_simp; done) | (go_simp; with_reducible rfl)
                try simp only [Act.put]
                refine wpAnyL_one (i := 15) (by kernel_rfl) rfl (fun K hK => ?_)
                go_simp
                refine HTM.out.mono ?_
                rintro e wc ⟨rfl, hbc⟩
                have hbz : Below wq.heap.size wq wc := Below.trans (Below.refl _ _).drew hbc
                have r3 := (hbz.cell (p := ⟨H, k * 11 + 6, none⟩) lH).trans e3
                have r4 := (hbz.cell (p := ⟨H, k * 11 + 6 + 1, none⟩) lH).trans e4
                have r5 := (hbz.cell (p := ⟨H, k * 11 + 6 + 2, none⟩) lH).trans e5
                have r6 := (hbz.cell (p := ⟨H, k * 11 + 6 + 3, none⟩) lH).trans e6
                have r7 := (hbz.cell (p := ⟨H, k * 11 + 6 + 4, none⟩) lH).trans e7
                have f3 := (own_below0 HOQ.out hbz).frozenAt (k * 11 + 6)
                have f4 := (own_below0 HOQ.out hbz).frozenAt (k * 11 + 6 + 1)
                have f5 := (own_below0 HOQ.out hbz).frozenAt (k * 11 + 6 + 2)
                have f6 := (own_below0 HOQ.out hbz).frozenAt (k * 11 + 6 + 3)
                have f7 := (own_below0 HOQ.out hbz).frozenAt (k * 11 + 6 + 4)
                have HBC := Lib.hid hbz
                have HHELD : wc.cell? ⟨w.heap.size, 0, none⟩ = some (.slice A1 n1 c1) ∧ wc.cell? ⟨w.heap.size, 1, none⟩ = some (.slice A2 n2 c2) ∧ wc.cell? ⟨w.heap.size, 2, none⟩ = some (.slice A3 n3 c3) ∧ wc.cell? ⟨w.heap.size, 3, none⟩ = some (.slice A4 n4 c4) ∧ wc.cell? ⟨w.heap.size, 4, none⟩ = some (.slice A5 n5 c5) ∧ wc.cell? ⟨w.heap.size, 5, none⟩ = some (.slice A6 n6 c6) ∧ wc.cell? ⟨w.heap.size + 1, 3, none⟩ = some (.slice (some ⟨H, 0, none⟩) m2 vc2) ∧ wc.cell? ⟨w.heap.size + 1, 2, none⟩ = some (.slice vA1 m1 vc1) ∧ wc.cell? ⟨H, k * 11 + 6, none⟩ = some (.string m.b.name) ∧ wc.cell? ⟨H, k * 11 + 6 + 1, none⟩ = some (.string m.b.path) ∧ wc.cell? ⟨H, k * 11 + 6 + 2, none⟩ = some (.int .i64 m.b.var) ∧ wc.cell? ⟨H, k * 11 + 6 + 3, none⟩ = some (.int .i64 m.b.field) ∧ wc.cell? ⟨H, k * 11 + 6 + 4, none⟩ = some (.int .i64 m.b.n) := ⟨(hbz.cell (p := ⟨w.heap.size, 0, none⟩) lk).trans k0, (hbz.cell (p := ⟨w.heap.size, 1, none⟩) lk).trans k1, (hbz.cell (p := ⟨w.heap.size, 2, none⟩) lk).trans k2, (hbz.cell (p := ⟨w.heap.size, 3, none⟩) lk).trans k3, (hbz.cell (p := ⟨w.heap.size, 4, none⟩) lk).trans k4, (hbz.cell (p := ⟨w.heap.size, 5, none⟩) lk).trans k5, (hbz.cell (p := ⟨w.heap.size + 1, 3, none⟩) lx).trans g2, (hbz.cell (p := ⟨w.heap.size + 1, 2, none⟩) lx).trans xf, (hbz.cell (p := ⟨H, k * 11 + 6, none⟩) lH).trans e3, (hbz.cell (p := ⟨H, k * 11 + 6 + 1, none⟩) lH).trans e4, (hbz.cell (p := ⟨H, k * 11 + 6 + 2, none⟩) lH).trans e5, (hbz.cell (p := ⟨H, k * 11 + 6 + 3, none⟩) lH).trans e6, (hbz.cell (p := ⟨H, k * 11 + 6 + 4, none⟩) lH).trans e7⟩
                clear hbc hbz
                refine hK.out _ _ (.inr (fun _ => HHELD)) ?_
                clear hK K
                try simp only [Act.put]
                refine wpAnyL_take0 (i := 16) (v := ?_) rfl (by kernel_rfl) (by kernel_rfl) (by kernel_rfl) (fun _ _ _ h => h) (Or.inl ⟨by rfl, ?_⟩) ?_
                rotate_left
                · intro w' _
                  first | (go_simp; done) | (go_simp; with_reducible rfl)
                try simp only [Act.put]
                refine wpAnyL_take0 (i := 17) (v := ?_) rfl (by kernel_rfl) (by kernel_rfl) (by kernel_rfl) (fun _ _ _ h => h) (Or.inl ⟨by rfl, ?_⟩) ?_
                rotate_left
                · intro w' _
                  first | (go_simp; done) | (go_simp; with_reducible rfl)
                try simp only [Act.put]
                refine wpAnyL_take0 (i := 18) (v := ?_) rfl (by kernel_rfl) (by kernel_rfl) (by kernel_rfl) (fun _ _ _ h => h) (Or.inl ⟨by rfl, ?_⟩) ?_
                rotate_left
                · intro w' _
                  first | (go_simp; done) | (go_simp; with_reducible rfl)
                try simp only [Act.put]
                refine wpAnyL_take0 (i := 19) (v := ?_) rfl (by kernel_rfl) (by kernel_rfl) (by kernel_rfl) (fun _ _ _ h => h) (Or.inl ⟨by rfl, ?_⟩) ?_
                rotate_left
                · intro w' _
                  first | (go_simp; done) | (go_simp; with_reducible rfl)
                try simp only [Act.put]
                refine wpAnyL_take0 (i := 20) (v := ?_) rfl (by kernel_rfl) (by kernel_rfl) (by kernel_rfl) (fun _ _ _ h => h) (Or.inl ⟨by rfl, ?_⟩) ?_
                rotate_left
                · intro w' _
                  first | (go_simp; done) | (go_simp; with_reducible rfl)
                try simp only [Act.put]
                clear HHELD
                refine wpAnyL_one (i := 21) (by kernel_rfl) rfl (fun K hK => ?_)
                go_simp
                refine hK.out _ _ (.inl (by rfl)) ?_
                clear hK K
                try simp only [Act.put]
                refine wpAnyL_one (i := 22) (by kernel_rfl) rfl (fun K hK => ?_)
                go_simp
                refine hK.out _ _ (.inl (by rfl)) ?_
                clear hK K
                try simp only [Act.put]
                refine wpAnyL_done (by kernel_rfl) ?_ _
                exact ⟨rfl, _, HBC.out, rfl⟩
              rintro w3 ⟨w1, hb1, rfl⟩
              have hgn := grown_setL [.string tq.name, .string tq.path, .int .i64 tq.var, .int .i64 tq.field, .int .i64 tq.n] (k * 11 + 6) w1 (World.grownBy.refl w1 (some H))
              have hxn := (HXQ.out.below hb1).far (K := H) hgn (by omega) (by omega) (by omega)
              have hon := own_putL [.string tq.name, .string tq.path, .int .i64 tq.var, .int .i64 tq.field, .int .i64 tq.n] (k * 11 + 6) _ w1 (own_below0 HOQ.out hb1)
              have hcn := HCQ.out.putL (i := k) (j := 6) (x' := { m with a := ta, b := tq }) (vs := [.string tq.name, .string tq.path, .int .i64 tq.var, .int .i64 tq.field, .int .i64 tq.n]) (by simp) (List.getElem?_eq_some_iff.1 HATK.out).1 (by rw [show chunk cq 11 k = _ from HCQ.out.chunk HATK.out]; rfl)
              have hr1 := (own_below0 HR1.out hb1).kept hgn (.inr hap1)
              clear HR1
              generalize w1.setCells H (k * 11 + 6) [.string tq.name, .string tq.path, .int .i64 tq.var, .int .i64 tq.field, .int .i64 tq.n] = wq2 at hxn hon hr1 ⊢
              have HR1 := Lib.hid hr1
              clear hr1
              generalize setL cq (k * 11 + 6) [.string tq.name, .string tq.path, .int .i64 tq.var, .int .i64 tq.field, .int .i64 tq.n] = cq2 at hon hcn
              clear hb1 hgn k0 k1 k2 k3 k4 k5 lk g2 xf lx lH e3 e4 e5 e6 e7 HTM
              rw [set_mid HLEN.out, show ({ m with a := ta, b := tq } : QAtom) = atomQ s (ruleFo s p) m from by rw [HTQA.out, HTQ.out]; rfl, map_snoc HM.out] at hcn
              clear HXQ HOQ HCQ HATK
              have HXQ := Lib.hid hxn
              have HOQ := Lib.hid hon
              have HCQ := Lib.hid hcn
              clear hxn hon hcn
              obtain ⟨wq, rfl⟩ : ∃ x, x = wq2 := ⟨_, rfl⟩
              obtain ⟨cq, rfl⟩ : ∃ x, x = cq2 := ⟨_, rfl⟩
              cases ob1 with
              | false =>
                have HOK : Hid ((obp && (p.where_.take (k + 1)).all (atomOk s (ruleFo s p))) = false) := Lib.hid (by rw [all_snoc HM.out, ← Bool.and_assoc, ← HOB.out]; unfold atomOk; rw [← HTKA.out, ← HTK.out, ← Bool.and_assoc, ← Hob1.out]; first | rfl | (simp; done) | (simp [*]; done) | (simp; omega))
                go_wp2_with fail
                go_roundg (m2 - (k + 1))
                case measure => have := HQ.out; omega
                case rel => exact ⟨k + 1, _, by omega, rfl, by rw [HOK.out], by go_num, HXQ.out, HOQ.out, HCQ.out, HR1.out⟩
              | true =>
                cases tk with
                | false =>
                  have HOK : Hid ((obp && (p.where_.take (k + 1)).all (atomOk s (ruleFo s p))) = false) := Lib.hid (by rw [all_snoc HM.out, ← Bool.and_assoc, ← HOB.out]; unfold atomOk; rw [← HTKA.out, ← HTK.out, ← Bool.and_assoc, ← Hob1.out]; first | rfl | (simp; done) | (simp [*]; done) | (simp; omega))
                  go_wp2_with fail
                  go_roundg (m2 - (k + 1))
                  case measure => have := HQ.out; omega
                  case rel => exact ⟨k + 1, _, by omega, rfl, by rw [HOK.out], by go_num, HXQ.out, HOQ.out, HCQ.out, HR1.out⟩
                | true =>
                  have HOK : Hid ((obp && (p.where_.take (k + 1)).all (atomOk s (ruleFo s p))) = true) := Lib.hid (by rw [all_snoc HM.out, ← Bool.and_assoc, ← HOB.out]; unfold atomOk; rw [← HTKA.out, ← HTK.out, ← Bool.and_assoc, ← Hob1.out]; first | rfl | (simp; done) | (simp [*]; done) | (simp; omega))
                  go_wp2_with fail
                  go_roundg (m2 - (k + 1))
                  case measure => have := HQ.out; omega
                  case rel => exact ⟨k + 1, _, by omega, rfl, by rw [HOK.out], by go_num, HXQ.out, HOQ.out, HCQ.out, HR1.out⟩
          · have hke : k = p.where_.length := by have := HL2.out; omega
            rw [take_map_all hke] at hcr
            have HOK2 : Hid (ob = (obp && p.where_.all (atomOk s (ruleFo s p)))) := Lib.hid (by rw [HOB.out, hke, List.take_length])
            have HXQ := Lib.hid hxr
            have HR2 := Lib.hid hoh
            have HC2 := Lib.hid hcr
            clear hxr hoh hcr hke HOB
            obtain ⟨cs2, rfl⟩ : ∃ x, x = cr := ⟨_, rfl⟩
            obtain ⟨k2', rfl⟩ : ∃ x, x = k := ⟨_, rfl⟩
            go_upto_region 21 with fail
            clear g2 hk hlt HQ lx
            obtain ⟨obq, hobq⟩ : ∃ x, x = ob := ⟨_, rfl⟩
            rw [← hobq] at HOK2 ⊢
            have HOBR := Lib.hid HOK2.out
            clear hobq HOK2
            obtain ⟨obp, hobp⟩ : ∃ x, x = obq := ⟨_, rfl⟩
            rw [← hobp] at HOBR ⊢
            clear hobp
            obtain ⟨wa3, rfl⟩ : ∃ x, x = wr := ⟨_, rfl⟩
            have q2 := HXQ.out.x.cell 4
            simp only [List.getElem?_toArray, List.getElem?_cons_zero, List.getElem?_cons_succ] at q2
            have lx := HXQ.out.x.lt
            have HXR := Lib.hid HXQ.out
            clear HXQ
            go_wp2_with (at_builtin; refine wpList_append_row _ rfl (.tmp 144) (.tmp 146) 54 66 rfl j3 _ 80 Try.underlying54 I3.out Z3.out.1 Z3.out.2.1 Z3.out.2.2 rfl (by decide) (R := fun _ => qSetR w) (fun _ => qSetR_one w) wa3.heap.size (.slice (some ⟨wa3.heap.size, 0, none⟩) 0 0) 0 [] rfl (World.ownsRow_lit wa3 #[] 0 (Nat.le_refl _) (Nat.zero_le _) rfl) B3 m3 d3 p.sets rfl (H3.out.fix (HXR.out.bl.alloc HXR.out.bl.size _)) (by have := HB3.out; have := HL3.out; unfold maxLen; omega) (by have := HB3.out; have := HL3.out; omega) (by simp) ?_
                         intro v1 w1 cs3 hcs1 ho1 hgr1 hat1
                         have hcs1 : CellsR 7 qSetR w cs3 p.sets := ⟨hcs1.1, hcs1.2⟩
                         have hb1 : Below wa3.heap.size wa3 w1 := ((Below.refl _ _).alloc (Nat.le_refl _) _).grown hgr1 (by simp) (by simp [Value.ownBlock])
                         obtain ⟨vA3, vn, vc3, rfl, hvn⟩ := own_form' ho1
                         have hx1 := HXR.out.below hb1
                         have q21 := hx1.x.cell 4
                         have f21 := hx1.x.frozen 4
                         simp only [List.getElem?_toArray, List.getElem?_cons_zero, List.getElem?_cons_succ] at q21
                         have lx1 := hx1.x.lt
                         have HX1 := Lib.hid hx1
                         have HO1 := Lib.hid ho1
                         have HC3 := Lib.hid hcs1
                         have HBW1 := Lib.hid hb1
                         have HVN := Lib.hid hvn
                         clear hx1 ho1 hcs1 hb1 hgr1 hat1 hvn)
            obtain rfl : m3 = vn := by have := HVN.out; omega
            have hx2 := HX1.out.put (by omega) (by omega) 4 (.slice vA3 m3 vc3)
            simp only [List.setIfInBounds_toArray, List.set_cons_zero, List.set_cons_succ] at hx2
            have ho2 : (w1.setCell ⟨w.heap.size + 1, 4, none⟩ (.slice vA3 m3 vc3)).ownsRow wa3.heap.size 66 7 (.slice vA3 m3 vc3) m3 cs3 := by
              have := HO1.out
              rw [Nat.zero_add, List.nil_append] at this
              exact own_far this (by have := HXR.out.x.lt; simpa using this) _
            have hr1 : (w1.setCell ⟨w.heap.size + 1, 4, none⟩ (.slice vA3 m3 vc3)).ownsRow wa1.heap.size 61 8 (.slice vA1 m1 vc1) m1 cs1 := own_far (own_below0 HR1.out HBW1.out) (by have := hwa1; simp; omega) _
            have HRB1 : Hid (∀ r, (Value.slice vA1 m1 vc1).ownBlock = some r → r < wa3.heap.size) := Lib.hid (fun r e => (HR1.out.lt r e).2)
            have hr2 : (w1.setCell ⟨w.heap.size + 1, 4, none⟩ (.slice vA3 m3 vc3)).ownsRow wa2.heap.size 64 11 (.slice vA2 m2 vc2) m2 cs2 := own_far (own_below0 HR2.out HBW1.out) (by have := hwa2; simp; omega) _
            have HRB2 : Hid (∀ r, (Value.slice vA2 m2 vc2).ownBlock = some r → r < wa3.heap.size) := Lib.hid (fun r e => (HR2.out.lt r e).2)
            generalize w1.setCell ⟨w.heap.size + 1, 4, none⟩ (.slice vA3 m3 vc3) = w2 at hx2 ho2 hr1 hr2 ⊢
            have HX2 := Lib.hid hx2
            have HO2 := Lib.hid ho2
            have hwa3 := HXR.out.lt
            clear HR1
            have HR1 := Lib.hid hr1
            clear hr1
            clear HR2
            have HR2 := Lib.hid hr2
            clear hr2
            clear hx2 ho2 q2 lx q21 f21 lx1 HXR HX1 HO1 HBW1 HVN
            go_loopg [6, 10] m3 (fun q o j wr => ∃ (k : Nat) (cr : List Value), k ≤ m3 ∧ q = m3 - k ∧ o = .bool (obp && (p.sets.take k).all (setOk s (idxO (schemaNames s) p.head) (ruleFo s p))) ∧ j = .int .i64 k ∧ XT w #[.slice A1 n1 c1, .slice A2 n2 c2, .slice A3 n3 c3, .slice A4 n4 c4, .slice A5 n5 c5, .slice A6 n6 c6] 56 1 #[.string p.head, .int .i64 (idxO (schemaNames s) p.head), .slice vA1 m1 vc1, .slice vA2 m2 vc2, .slice vA3 m3 vc3] 2 #[.string ⟨#[]⟩, .int .i64 0, .slice none 0 0, .slice none 0 0, .slice none 0 0] wr ∧
                wr.ownsRow wa3.heap.size 66 7 (.slice vA3 m3 vc3) m3 cr ∧ CellsR 7 qSetR w cr ((p.sets.take k).map (setQ s (idxO (schemaNames s) p.head) (ruleFo s p)) ++ p.sets.drop k) ∧ wr.ownsRow wa1.heap.size 61 8 (.slice vA1 m1 vc1) m1 cs1 ∧ wr.ownsRow wa2.heap.size 64 11 (.slice vA2 m2 vc2) m2 cs2)
            case atStart => exact ⟨0, cs3, Nat.zero_le _, rfl, by rw [List.take_zero, List.all_nil, Bool.and_true], rfl, HX2.out, HO2.out, HC3.out, HR1.out, HR2.out⟩
            case round =>
              clear HX2 HO2 HC3 HR1 HR2
              obtain ⟨k, cr, hk, hq, rfl, rfl, hxr, hoh, hcr, hr1, hr2⟩ := hrel
              have HQ := Lib.hid hq
              clear hq
              have HR1 := Lib.hid hr1
              clear hr1
              have HR2 := Lib.hid hr2
              clear hr2
              obtain ⟨ob, hob⟩ : ∃ b, b = (obp && (p.sets.take k).all (setOk s (idxO (schemaNames s) p.head) (ruleFo s p))) := ⟨_, rfl⟩
              rw [← hob]
              have HOB := Lib.hid hob
              clear hob
              have g2 := hxr.x.cell 4
              simp only [List.getElem?_toArray, List.getElem?_cons_zero, List.getElem?_cons_succ] at g2
              have lx := hxr.x.lt
              by_cases hlt : k < m3
              · rcases own_row hoh with ⟨h, h0⟩ | ⟨H, hcap, h, hH, hHw, hn2⟩
                · exfalso; injection h with _ h; omega
                injection h with h1 h2 h3
                subst h1 h3
                clear h2
                obtain ⟨m, hm⟩ : ∃ m, p.sets[k]? = some m := ⟨p.sets[k]'(by have := HL3.out; omega), List.getElem?_eq_getElem _⟩
                have HM := Lib.hid hm
                have HLEN : Hid (((p.sets.take k).map (setQ s (idxO (schemaNames s) p.head) (ruleFo s p))).length = k) := Lib.hid (by have := HL3.out; simp; omega)
                have HATK := Lib.hid (drop_at HLEN.out hm)
                have hkn : (k : Int) < (m3 : Int) := by omega
                have hk0 : (0 : Int) ≤ (k : Int) := by omega
                have HXQ := Lib.hid hxr
                have HOQ := Lib.hid hoh
                have HCQ := Lib.hid hcr
                clear hm hxr hoh hcr g2 lx
                have hap1 : (Value.slice vA1 m1 vc1).ownBlock ≠ some H := fun e => by have := HRB1.out _ e; omega
                have hap2 : (Value.slice vA2 m2 vc2).ownBlock ≠ some H := fun e => by have := HRB2.out _ e; omega
                obtain ⟨wq, rfl⟩ : ∃ x, x = wr := ⟨_, rfl⟩
                obtain ⟨cq, rfl⟩ : ∃ x, x = cr := ⟨_, rfl⟩
                obtain ⟨k0, k1, k2, k3, k4, k5⟩ := six_cells HXQ.out.s (Below.refl _ _)
                have lk := HXQ.out.s.lt
                have g2 := HXQ.out.x.cell 4
                simp only [List.getElem?_toArray, List.getElem?_cons_zero, List.getElem?_cons_succ] at g2
                have lx := HXQ.out.x.lt
                have lH := own_lt HOQ.out
                have x1 := HXQ.out.x.cell 1
                simp only [List.getElem?_toArray, List.getElem?_cons_zero, List.getElem?_cons_succ] at x1
                have hck : chunk cq 7 k = _ := HCQ.out.chunk HATK.out
                have e0 := own_cell HOQ.out hlt (by omega) hck (j := 0) rfl
                have e1 := own_cell HOQ.out hlt (by omega) hck (j := 1) rfl
                simp only [Nat.add_zero] at e0
                clear hck
                have HSP := Lib.hid (src_parts (qSourceR_mono _ _ HXQ.out.bl.drew _ _ HS.out)).2.2.1
                have HSQ := Lib.hid HSP.out.1
                go_upto_region 25 with fail
                have HKT : Hid (∀ X : World, Below wq.heap.size wq X → (X.cell? ⟨w.heap.size, 0, none⟩ = some (.slice A1 n1 c1) ∧ X.cell? ⟨w.heap.size, 1, none⟩ = some (.slice A2 n2 c2) ∧ X.cell? ⟨w.heap.size, 2, none⟩ = some (.slice A3 n3 c3) ∧ X.cell? ⟨w.heap.size, 3, none⟩ = some (.slice A4 n4 c4) ∧ X.cell? ⟨w.heap.size, 4, none⟩ = some (.slice A5 n5 c5) ∧ X.cell? ⟨w.heap.size, 5, none⟩ = some (.slice A6 n6 c6) ∧ X.cell? ⟨w.heap.size + 1, 4, none⟩ = some (.slice (some ⟨H, 0, none⟩) m3 vc3) ∧ X.cell? ⟨w.heap.size + 1, 1, none⟩ = some (.int .i64 (idxO (schemaNames s) p.head)) ∧ X.cell? ⟨H, k * 7, none⟩ = some (.string m.path) ∧ wq.grownBy X (some (H))) ∧ ((X.setCell ⟨H, k * 7 + 1, none⟩ (.int .i64 (idxO (fieldNo s (idxO (schemaNames s) p.head)) m.path))).cell? ⟨w.heap.size, 0, none⟩ = some (.slice A1 n1 c1) ∧ (X.setCell ⟨H, k * 7 + 1, none⟩ (.int .i64 (idxO (fieldNo s (idxO (schemaNames s) p.head)) m.path))).cell? ⟨w.heap.size, 1, none⟩ = some (.slice A2 n2 c2) ∧ (X.setCell ⟨H, k * 7 + 1, none⟩ (.int .i64 (idxO (fieldNo s (idxO (schemaNames s) p.head)) m.path))).cell? ⟨w.heap.size, 2, none⟩ = some (.slice A3 n3 c3) ∧ (X.setCell ⟨H, k * 7 + 1, none⟩ (.int .i64 (idxO (fieldNo s (idxO (schemaNames s) p.head)) m.path))).cell? ⟨w.heap.size, 3, none⟩ = some (.slice A4 n4 c4) ∧ (X.setCell ⟨H, k * 7 + 1, none⟩ (.int .i64 (idxO (fieldNo s (idxO (schemaNames s) p.head)) m.path))).cell? ⟨w.heap.size, 4, none⟩ = some (.slice A5 n5 c5) ∧ (X.setCell ⟨H, k * 7 + 1, none⟩ (.int .i64 (idxO (fieldNo s (idxO (schemaNames s) p.head)) m.path))).cell? ⟨w.heap.size, 5, none⟩ = some (.slice A6 n6 c6) ∧ (X.setCell ⟨H, k * 7 + 1, none⟩ (.int .i64 (idxO (fieldNo s (idxO (schemaNames s) p.head)) m.path))).cell? ⟨w.heap.size + 1, 4, none⟩ = some (.slice (some ⟨H, 0, none⟩) m3 vc3) ∧ (X.setCell ⟨H, k * 7 + 1, none⟩ (.int .i64 (idxO (fieldNo s (idxO (schemaNames s) p.head)) m.path))).cell? ⟨w.heap.size + 1, 1, none⟩ = some (.int .i64 (idxO (schemaNames s) p.head)) ∧ (X.setCell ⟨H, k * 7 + 1, none⟩ (.int .i64 (idxO (fieldNo s (idxO (schemaNames s) p.head)) m.path))).cell? ⟨H, k * 7, none⟩ = some (.string m.path) ∧ wq.grownBy (X.setCell ⟨H, k * 7 + 1, none⟩ (.int .i64 (idxO (fieldNo s (idxO (schemaNames s) p.head)) m.path))) (some (H)))) := Lib.hid (fun X hX => ⟨⟨(hX.cell (p := ⟨w.heap.size, 0, none⟩) lk).trans k0, (hX.cell (p := ⟨w.heap.size, 1, none⟩) lk).trans k1, (hX.cell (p := ⟨w.heap.size, 2, none⟩) lk).trans k2, (hX.cell (p := ⟨w.heap.size, 3, none⟩) lk).trans k3, (hX.cell (p := ⟨w.heap.size, 4, none⟩) lk).trans k4, (hX.cell (p := ⟨w.heap.size, 5, none⟩) lk).trans k5, (hX.cell (p := ⟨w.heap.size + 1, 4, none⟩) lx).trans g2, (hX.cell (p := ⟨w.heap.size + 1, 1, none⟩) lx).trans x1, (hX.cell (p := ⟨H, k * 7, none⟩) lH).trans e0, grown_of_below hX _⟩, ⟨put_ne ((hX.cell (p := ⟨w.heap.size, 0, none⟩) lk).trans k0) (.inl (by omega)), put_ne ((hX.cell (p := ⟨w.heap.size, 1, none⟩) lk).trans k1) (.inl (by omega)), put_ne ((hX.cell (p := ⟨w.heap.size, 2, none⟩) lk).trans k2) (.inl (by omega)), put_ne ((hX.cell (p := ⟨w.heap.size, 3, none⟩) lk).trans k3) (.inl (by omega)), put_ne ((hX.cell (p := ⟨w.heap.size, 4, none⟩) lk).trans k4) (.inl (by omega)), put_ne ((hX.cell (p := ⟨w.heap.size, 5, none⟩) lk).trans k5) (.inl (by omega)), put_ne ((hX.cell (p := ⟨w.heap.size + 1, 4, none⟩) lx).trans g2) (.inl (by omega)), put_ne ((hX.cell (p := ⟨w.heap.size + 1, 1, none⟩) lx).trans x1) (.inl (by omega)), put_ne ((hX.cell (p := ⟨H, k * 7, none⟩) lH).trans e0) (.inr (by omega)), grownb_put hX _ _⟩⟩)
                apply wp_viaS (G := fun w3 => ∃ w1, Below wq.heap.size wq w1 ∧ w3 = w1.setCell ⟨H, k * 7 + 1, none⟩ (.int .i64 (idxO (fieldNo s (idxO (schemaNames s) p.head)) m.path)))
                · go_region_held3 (fun w' => w'.cell? ⟨w.heap.size, 0, none⟩ = some (.slice A1 n1 c1) ∧ w'.cell? ⟨w.heap.size, 1, none⟩ = some (.slice A2 n2 c2) ∧ w'.cell? ⟨w.heap.size, 2, none⟩ = some (.slice A3 n3 c3) ∧ w'.cell? ⟨w.heap.size, 3, none⟩ = some (.slice A4 n4 c4) ∧ w'.cell? ⟨w.heap.size, 4, none⟩ = some (.slice A5 n5 c5) ∧ w'.cell? ⟨w.heap.size, 5, none⟩ = some (.slice A6 n6 c6) ∧ w'.cell? ⟨w.heap.size + 1, 4, none⟩ = some (.slice (some ⟨H, 0, none⟩) m3 vc3) ∧ w'.cell? ⟨w.heap.size + 1, 1, none⟩ = some (.int .i64 (idxO (schemaNames s) p.head)) ∧ w'.cell? ⟨H, k * 7, none⟩ = some (.string m.path) ∧ wq.grownBy w' (some (H)))
                    (first | exact (HKT.out _ HBC.out).1 | exact (HKT.out _ HBC.out).2 | exact (HKT.out _ (Below.refl _ _).drew).1 | exact (HKT.out _ (Below.refl _ _)).1)
                    (first
                      | (go_at_call 54; ((with_reducible refine (refFind_any _ _ _ (fieldNo s (idxO (schemaNames s) p.head)) (m.path) _ HSL.out).mono ?_)); rintro e w' ⟨rfl, rfl⟩)
                      | (go_at_call 61; ((with_reducible refine (refFields_any A1 A2 A3 A4 A5 A6 n1 c1 n2 c2 n3 c3 n4 c4 n5 c5 n6 c6 s (idxO (schemaNames s) p.head) _ HSQ.out).mono ?_)); rintro e wc ⟨xA, xc, rfl, hsl, hbc⟩
                         have hbz : Below wq.heap.size wq wc := Below.trans (Below.refl _ _).drew hbc
                         have HSL := Lib.hid hsl.1
                         have HBC := Lib.hid hbz
                         have rs := (hbz.cell (p := ⟨H, k * 7 + 1, none⟩) lH).trans e1
                         have fs := (own_below0 HOQ.out hbz).frozenAt (k * 7 + 1)
                         have lz := Nat.lt_of_lt_of_le lH hbz.size
                         clear hsl hbc hbz))
                  all_goals exact ⟨xA, xc, rfl, _, HBC.out, rfl⟩
                rintro xA xc w3 ⟨w1, hb1, rfl⟩
                clear HKT
                have hgn : w1.grownBy (w1.setCell ⟨H, k * 7 + 1, none⟩ (.int .i64 (idxO (fieldNo s (idxO (schemaNames s) p.head)) m.path))) (some H) := grown_near (World.grownBy.refl _ _) _ _
                have hxn := (HXQ.out.below hb1).far (K := H) hgn (by omega) (by omega) (by omega)
                have hon := ((own_below0 HOQ.out hb1).stored (k * 7 + 1) (.int .i64 (idxO (fieldNo s (idxO (schemaNames s) p.head)) m.path))).1
                have hcn := set_put1 HCQ.out HATK.out (idxO (fieldNo s (idxO (schemaNames s) p.head)) m.path)
                have hr1 := (own_below0 HR1.out hb1).kept hgn (.inr hap1)
                clear HR1
                have hr2 := (own_below0 HR2.out hb1).kept hgn (.inr hap2)
                clear HR2
                generalize w1.setCell ⟨H, k * 7 + 1, none⟩ (.int .i64 (idxO (fieldNo s (idxO (schemaNames s) p.head)) m.path)) = wq2 at hxn hon hr1 hr2 ⊢
                have HR1 := Lib.hid hr1
                clear hr1
                have HR2 := Lib.hid hr2
                clear hr2
                generalize cq.set (k * 7 + 1) (.int .i64 (idxO (fieldNo s (idxO (schemaNames s) p.head)) m.path)) = cq2 at hon hcn
                clear hb1 HSP HSQ hgn k0 k1 k2 k3 k4 k5 lk g2 lx lH e0 e1 x1
                rw [set_drop HLEN.out HM.out] at hcn
                clear HXQ HOQ HCQ HATK
                have HXQ := Lib.hid hxn
                have HOQ := Lib.hid hon
                have HCQ := Lib.hid hcn
                clear hxn hon hcn
                obtain ⟨wq, rfl⟩ : ∃ x, x = wq2 := ⟨_, rfl⟩
                obtain ⟨cq, rfl⟩ : ∃ x, x = cq2 := ⟨_, rfl⟩
                have HATK : Hid ((((p.sets.take k).map (setQ s (idxO (schemaNames s) p.head) (ruleFo s p)) ++ [{ m with field := idxO (fieldNo s (idxO (schemaNames s) p.head)) m.path }]) ++ p.sets.drop (k + 1))[k]? = some ({ m with field := idxO (fieldNo s (idxO (schemaNames s) p.head)) m.path })) := Lib.hid (mid_at HLEN.out)
                have hck : chunk cq 7 k = _ := HCQ.out.chunk HATK.out
                obtain ⟨k0, k1, k2, k3, k4, k5⟩ := six_cells HXQ.out.s (Below.refl _ _)
                have lk := HXQ.out.s.lt
                have g2 := HXQ.out.x.cell 4
                have xf := HXQ.out.x.cell 2
                simp only [List.getElem?_toArray, List.getElem?_cons_zero, List.getElem?_cons_succ] at g2 xf
                have lx := HXQ.out.x.lt
                have lH := own_lt HOQ.out
                have hrg : wq.rangeAt H (k * 7 + 2) [.string m.term.name, .string m.term.path, .int .i64 m.term.var, .int .i64 m.term.field, .int .i64 m.term.n] := own_range HOQ.out hlt hck (j := 2) (by simp) rfl
                have e3 := hrg 0 _ rfl
                have e4 := hrg 1 _ rfl
                have e5 := hrg 2 _ rfl
                have e6 := hrg 3 _ rfl
                have e7 := hrg 4 _ rfl
                simp only [Nat.add_zero] at e3
                clear hck hrg
                obtain ⟨tq, htq⟩ : ∃ x, x = termQ s (ruleFo s p) m.term := ⟨_, rfl⟩
                obtain ⟨tk, htk⟩ : ∃ x, x = termOk s (ruleFo s p) m.term := ⟨_, rfl⟩
                have HTM : Hid (Calls Try.prog 83 #[.agg #[.slice A1 n1 c1, .slice A2 n2 c2, .slice A3 n3 c3, .slice A4 n4 c4, .slice A5 n5 c5, .slice A6 n6 c6], .slice vA1 m1 vc1, .int .i64 ((m1 : Nat) : Int), .agg #[.string m.term.name, .string m.term.path, .int .i64 m.term.var, .int .i64 m.term.field, .int .i64 m.term.n]] wq.drew (RetTermQ tq tk wq.drew)) := Lib.hid (by
                  have h := refTerm_any A1 A2 A3 A4 A5 A6 n1 c1 n2 c2 n3 c3 n4 c4 n5 c5 n6 c6 _ _ _ (m1) s (ruleFo s p) m.term wq.drew (qSourceR_mono _ _ HXQ.out.bl.drew _ _ HS.out) (slR_of_row (HR1.out.drew) ⟨HC1.out.1, HC1.out.2⟩ HLF.out) (Nat.le_refl _)
                  rw [HTF.out, ← htq, ← htk] at h
                  exact h)
                have HTQ := Lib.hid htq
                have HTK := Lib.hid htk
                clear htq htk
                go_upto_region 26 with fail
                apply wp_via0 (G := fun w3 => ∃ w1, Below wq.heap.size wq w1 ∧ w3 = w1.setCells H (k * 7 + 2) [.string tq.name, .string tq.path, .int .i64 tq.var, .int .i64 tq.field, .int .i64 tq.n])
                · refine wp_region_late (fun w' => w'.cell? ⟨w.heap.size, 0, none⟩ = some (.slice A1 n1 c1) ∧ w'.cell? ⟨w.heap.size, 1, none⟩ = some (.slice A2 n2 c2) ∧ w'.cell? ⟨w.heap.size, 2, none⟩ = some (.slice A3 n3 c3) ∧ w'.cell? ⟨w.heap.size, 3, none⟩ = some (.slice A4 n4 c4) ∧ w'.cell? ⟨w.heap.size, 4, none⟩ = some (.slice A5 n5 c5) ∧ w'.cell? ⟨w.heap.size, 5, none⟩ = some (.slice A6 n6 c6) ∧ w'.cell? ⟨w.heap.size + 1, 4, none⟩ = some (.slice (some ⟨H, 0, none⟩) m3 vc3) ∧ w'.cell? ⟨w.heap.size + 1, 2, none⟩ = some (.slice vA1 m1 vc1) ∧ w'.cell? ⟨H, k * 7 + 2, none⟩ = some (.string m.term.name) ∧ w'.cell? ⟨H, k * 7 + 2 + 1, none⟩ = some (.string m.term.path) ∧ w'.cell? ⟨H, k * 7 + 2 + 2, none⟩ = some (.int .i64 m.term.var) ∧ w'.cell? ⟨H, k * 7 + 2 + 3, none⟩ = some (.int .i64 m.term.field) ∧ w'.cell? ⟨H, k * 7 + 2 + 4, none⟩ = some (.int .i64 m.term.n)) [21, 22] (by kernel_rfl) ?_
                  have HHELD : wq.drew.cell? ⟨w.heap.size, 0, none⟩ = some (.slice A1 n1 c1) ∧ wq.drew.cell? ⟨w.heap.size, 1, none⟩ = some (.slice A2 n2 c2) ∧ wq.drew.cell? ⟨w.heap.size, 2, none⟩ = some (.slice A3 n3 c3) ∧ wq.drew.cell? ⟨w.heap.size, 3, none⟩ = some (.slice A4 n4 c4) ∧ wq.drew.cell? ⟨w.heap.size, 4, none⟩ = some (.slice A5 n5 c5) ∧ wq.drew.cell? ⟨w.heap.size, 5, none⟩ = some (.slice A6 n6 c6) ∧ wq.drew.cell? ⟨w.heap.size + 1, 4, none⟩ = some (.slice (some ⟨H, 0, none⟩) m3 vc3) ∧ wq.drew.cell? ⟨w.heap.size + 1, 2, none⟩ = some (.slice vA1 m1 vc1) ∧ wq.drew.cell? ⟨H, k * 7 + 2, none⟩ = some (.string m.term.name) ∧ wq.drew.cell? ⟨H, k * 7 + 2 + 1, none⟩ = some (.string m.term.path) ∧ wq.drew.cell? ⟨H, k * 7 + 2 + 2, none⟩ = some (.int .i64 m.term.var) ∧ wq.drew.cell? ⟨H, k * 7 + 2 + 3, none⟩ = some (.int .i64 m.term.field) ∧ wq.drew.cell? ⟨H, k * 7 + 2 + 4, none⟩ = some (.int .i64 m.term.n) := by
                    refine ⟨?_, ?_, ?_, ?_, ?_, ?_, ?_, ?_, ?_, ?_, ?_, ?_, ?_⟩ <;> (simp only [World.cell?_drew]; assumption)
                  refine wpAnyL_take0 (i := 0) (v := ?_) rfl (by kernel_rfl) (by kernel_rfl) (by kernel_rfl) (fun _ _ _ h => h) (Or.inl ⟨by rfl, ?_⟩) ?_
                  rotate_left
                  · intro w' _
                    first | (go_simp; done) | (go_simp; with_reducible rfl)
                  try simp only [Act.put]
                  refine wpAnyL_take (i := 1) (v := ?_) rfl (by kernel_rfl) (by kernel_rfl) (by kernel_rfl) (by kernel_rfl) (fun _ _ _ h => h) (Or.inl ⟨by rfl, ?_⟩) HHELD ?_
                  rotate_left
                  · intro w' hSw
                    obtain ⟨s0, s1, s2, s3, s4, s5, s6, s7, s8, s9, s10, s11, s12⟩ := hSw
                    first | (go_simp; done) | (go_simp; with_reducible rfl)
                  try simp only [Act.put]
                  refine wpAnyL_take0 (i := 2) (v := ?_) rfl (by kernel_rfl) (by kernel_rfl) (by kernel_rfl) (fun _ _ _ h => h) (Or.inl ⟨by rfl, ?_⟩) ?_
                  rotate_left
                  · intro w' _
                    first | (go_simp; done) | (go_simp; with_reducible rfl)
                  try simp only [Act.put]
                  refine wpAnyL_take (i := 3) (v := ?_) rfl (by kernel_rfl) (by kernel_rfl) (by kernel_rfl) (by kernel_rfl) (fun _ _ _ h => h) (Or.inl ⟨by rfl, ?_⟩) HHELD ?_
                  rotate_left
                  · intro w' hSw
                    obtain ⟨s0, s1, s2, s3, s4, s5, s6, s7, s8, s9, s10, s11, s12⟩ := hSw
                    first | (go_simp; done) | (go_simp; with_reducible rfl)
                  try simp only [Act.put]
                  refine wpAnyL_take0 (i := 4) (v := ?_) rfl (by kernel_rfl) (by kernel_rfl) (by kernel_rfl) (fun _ _ _ h => h) (Or.inl ⟨by rfl, ?_⟩) ?_
                  rotate_left
                  · intro w' _
                    first | (go_simp; done) | (go_simp; with_reducible rfl)
                  try simp only [Act.put]
                  refine wpAnyL_take (i := 5) (v := ?_) rfl (by kernel_rfl) (by kernel_rfl) (by kernel_rfl) (by kernel_rfl) (fun _ _ _ h => h) (Or.inl ⟨by rfl, ?_⟩) HHELD ?_
                  rotate_left
                  · intro w' hSw
                    obtain ⟨s0, s1, s2, s3, s4, s5, s6, s7, s8, s9, s10, s11, s12⟩ := hSw
                    first | (go_simp; done) | (go_simp; with_reducible rfl)
                  try simp only [Act.put]
                  refine wpAnyL_take0 (i := 6) (v := ?_) rfl (by kernel_rfl) (by kernel_rfl) (by kernel_rfl) (fun _ _ _ h => h) (Or.inl ⟨by rfl, ?_⟩) ?_
                  rotate_left
                  · intro w' _
                    first | (go_simp; done) | (go_simp; with_reducible rfl)
                  try simp only [Act.put]
                  refine wpAnyL_take (i := 7) (v := ?_) rfl (by kernel_rfl) (by kernel_rfl) (by kernel_rfl) (by kernel_rfl) (fun _ _ _ h => h) (Or.inl ⟨by rfl, ?_⟩) HHELD ?_
                  rotate_left
                  · intro w' hSw
                    obtain ⟨s0, s1, s2, s3, s4, s5, s6, s7, s8, s9, s10, s11, s12⟩ := hSw
                    first | (go_simp; done) | (go_simp; with_reducible rfl)
                  try simp only [Act.put]
                  refine wpAnyL_take0 (i := 8) (v := ?_) rfl (by kernel_rfl) (by kernel_rfl) (by kernel_rfl) (fun _ _ _ h => h) (Or.inl ⟨by rfl, ?_⟩) ?_
                  rotate_left
                  · intro w' _
                    first | (go_simp; done) | (go_simp; with_reducible rfl)
                  try simp only [Act.put]
                  refine wpAnyL_take0 (i := 9) (v := ?_) rfl (by kernel_rfl) (by kernel_rfl) (by kernel_rfl) (fun _ _ _ h => h) (Or.inl ⟨by rfl, ?_⟩) ?_
                  rotate_left
                  · intro w' _
                    first | (go_simp; done) | (go_simp; with_reducible rfl)
                  try simp only [Act.put]
                  refine wpAnyL_take (i := 10) (v := ?_) rfl (by kernel_rfl) (by kernel_rfl) (by kernel_rfl) (by kernel_rfl) (fun _ _ _ h => h) (Or.inl ⟨by rfl, ?_⟩) HHELD ?_
                  rotate_left
                  · intro w' hSw
                    obtain ⟨s0, s1, s2, s3, s4, s5, s6, s7, s8, s9, s10, s11, s12⟩ := hSw
                    first | (go_simp; done) | (go_simp; with_reducible rfl)
                  try simp only [Act.put]
                  refine wpAnyL_take0 (i := 11) (v := ?_) rfl (by kernel_rfl) (by kernel_rfl) (by kernel_rfl) (fun _ _ _ h => h) (Or.inl ⟨by rfl, ?_⟩) ?_
                  rotate_left
                  · intro w' _
                    first | (go_simp; done) | (go_simp; with_reducible rfl)
                  try simp only [Act.put]
                  refine wpAnyL_take0 (i := 12) (v := ?_) rfl (by kernel_rfl) (by kernel_rfl) (by kernel_rfl) (fun _ _ _ h => h) (Or.inl ⟨by rfl, ?_⟩) ?_
                  rotate_left
                  · intro w' _
                    first | (go_simp; done) | (go_simp; with_reducible rfl)
                  try simp only [Act.put]
                  refine wpAnyL_take0 (i := 13) (v := ?_) rfl (by kernel_rfl) (by kernel_rfl) (by kernel_rfl) (fun _ _ _ h => h) (Or.inl ⟨by rfl, ?_⟩) ?_
                  rotate_left
                  · intro w' _
                    first | (go_simp; done) | (go_simp; with_reducible rfl)
                  try simp only [Act.put]
                  refine wpAnyL_take (i := 14) (v := ?_) rfl (by kernel_rfl) (by kernel_rfl) (by kernel_rfl) (by kernel_rfl) (fun _ _ _ h => h) (Or.inl ⟨by rfl, ?_⟩) HHELD ?_
                  rotate_left
                  · intro w' hSw
                    obtain ⟨s0, s1, s2, s3, s4, s5, s6, s7, s8, s9, s10, s11, s12⟩ := hSw
                    first | (go_simp; done) | (go_simp; with_reducible rfl)
                  try simp only [Act.put]
                  refine wpAnyL_one (i := 15) (by kernel_rfl) rfl (fun K hK => ?_)
                  go_simp
                  refine HTM.out.mono ?_
                  rintro e wc ⟨rfl, hbc⟩
                  have hbz : Below wq.heap.size wq wc := Below.trans (Below.refl _ _).drew hbc
                  have r3 := (hbz.cell (p := ⟨H, k * 7 + 2, none⟩) lH).trans e3
                  have r4 := (hbz.cell (p := ⟨H, k * 7 + 2 + 1, none⟩) lH).trans e4
                  have r5 := (hbz.cell (p := ⟨H, k * 7 + 2 + 2, none⟩) lH).trans e5
                  have r6 := (hbz.cell (p := ⟨H, k * 7 + 2 + 3, none⟩) lH).trans e6
                  have r7 := (hbz.cell (p := ⟨H, k * 7 + 2 + 4, none⟩) lH).trans e7
                  have f3 := (own_below0 HOQ.out hbz).frozenAt (k * 7 + 2)
                  have f4 := (own_below0 HOQ.out hbz).frozenAt (k * 7 + 2 + 1)
                  have f5 := (own_below0 HOQ.out hbz).frozenAt (k * 7 + 2 + 2)
                  have f6 := (own_below0 HOQ.out hbz).frozenAt (k * 7 + 2 + 3)
                  have f7 := (own_below0 HOQ.out hbz).frozenAt (k * 7 + 2 + 4)
                  have HBC := Lib.hid hbz
                  have HHELD : wc.cell? ⟨w.heap.size, 0, none⟩ = some (.slice A1 n1 c1) ∧ wc.cell? ⟨w.heap.size, 1, none⟩ = some (.slice A2 n2 c2) ∧ wc.cell? ⟨w.heap.size, 2, none⟩ = some (.slice A3 n3 c3) ∧ wc.cell? ⟨w.heap.size, 3, none⟩ = some (.slice A4 n4 c4) ∧ wc.cell? ⟨w.heap.size, 4, none⟩ = some (.slice A5 n5 c5) ∧ wc.cell? ⟨w.heap.size, 5, none⟩ = some (.slice A6 n6 c6) ∧ wc.cell? ⟨w.heap.size + 1, 4, none⟩ = some (.slice (some ⟨H, 0, none⟩) m3 vc3) ∧ wc.cell? ⟨w.heap.size + 1, 2, none⟩ = some (.slice vA1 m1 vc1) ∧ wc.cell? ⟨H, k * 7 + 2, none⟩ = some (.string m.term.name) ∧ wc.cell? ⟨H, k * 7 + 2 + 1, none⟩ = some (.string m.term.path) ∧ wc.cell? ⟨H, k * 7 + 2 + 2, none⟩ = some (.int .i64 m.term.var) ∧ wc.cell? ⟨H, k * 7 + 2 + 3, none⟩ = some (.int .i64 m.term.field) ∧ wc.cell? ⟨H, k * 7 + 2 + 4, none⟩ = some (.int .i64 m.term.n) := ⟨(hbz.cell (p := ⟨w.heap.size, 0, none⟩) lk).trans k0, (hbz.cell (p := ⟨w.heap.size, 1, none⟩) lk).trans k1, (hbz.cell (p := ⟨w.heap.size, 2, none⟩) lk).trans k2, (hbz.cell (p := ⟨w.heap.size, 3, none⟩) lk).trans k3, (hbz.cell (p := ⟨w.heap.size, 4, none⟩) lk).trans k4, (hbz.cell (p := ⟨w.heap.size, 5, none⟩) lk).trans k5, (hbz.cell (p := ⟨w.heap.size + 1, 4, none⟩) lx).trans g2, (hbz.cell (p := ⟨w.heap.size + 1, 2, none⟩) lx).trans xf, (hbz.cell (p := ⟨H, k * 7 + 2, none⟩) lH).trans e3, (hbz.cell (p := ⟨H, k * 7 + 2 + 1, none⟩) lH).trans e4, (hbz.cell (p := ⟨H, k * 7 + 2 + 2, none⟩) lH).trans e5, (hbz.cell (p := ⟨H, k * 7 + 2 + 3, none⟩) lH).trans e6, (hbz.cell (p := ⟨H, k * 7 + 2 + 4, none⟩) lH).trans e7⟩
                  clear hbc hbz
                  refine hK.out _ _ (.inr (fun _ => HHELD)) ?_
                  clear hK K
                  try simp only [Act.put]
                  refine wpAnyL_take0 (i := 16) (v := ?_) rfl (by kernel_rfl) (by kernel_rfl) (by kernel_rfl) (fun _ _ _ h => h) (Or.inl ⟨by rfl, ?_⟩) ?_
                  rotate_left
                  · intro w' _
                    first | (go_simp; done) | (go_simp; with_reducible rfl)
                  try simp only [Act.put]
                  refine wpAnyL_take0 (i := 17) (v := ?_) rfl (by kernel_rfl) (by kernel_rfl) (by kernel_rfl) (fun _ _ _ h => h) (Or.inl ⟨by rfl, ?_⟩) ?_
                  rotate_left
                  · intro w' _
                    first | (go_simp; done) | (go_simp; with_reducible rfl)
                  try simp only [Act.put]
                  refine wpAnyL_take0 (i := 18) (v := ?_) rfl (by kernel_rfl) (by kernel_rfl) (by kernel_rfl) (fun _ _ _ h => h) (Or.inl ⟨by rfl, ?_⟩) ?_
                  rotate_left
                  · intro w' _
                    first | (go_simp; done) | (go_simp; with_reducible rfl)
                  try simp only [Act.put]
                  refine wpAnyL_take0 (i := 19) (v := ?_) rfl (by kernel_rfl) (by kernel_rfl) (by kernel_rfl) (fun _ _ _ h => h) (Or.inl ⟨by rfl, ?_⟩) ?_
                  rotate_left
                  · intro w' _
                    first | (go_simp; done) | (go_simp; with_reducible rfl)
                  try simp only [Act.put]
                  refine wpAnyL_take0 (i := 20) (v := ?_) rfl (by kernel_rfl) (by kernel_rfl) (by kernel_rfl) (fun _ _ _ h => h) (Or.inl ⟨by rfl, ?_⟩) ?_
                  rotate_left
                  · intro w' _
                    first | (go_simp; done) | (go_simp; with_reducible rfl)
                  try simp only [Act.put]
                  clear HHELD
                  refine wpAnyL_one (i := 21) (by kernel_rfl) rfl (fun K hK => ?_)
                  go_simp
                  refine hK.out _ _ (.inl (by rfl)) ?_
                  clear hK K
                  try simp only [Act.put]
                  refine wpAnyL_one (i := 22) (by kernel_rfl) rfl (fun K hK => ?_)
                  go_simp
                  refine hK.out _ _ (.inl (by rfl)) ?_
                  clear hK K
                  try simp only [Act.put]
                  refine wpAnyL_done (by kernel_rfl) ?_ _
                  exact ⟨rfl, _, HBC.out, rfl⟩
                rintro w3 ⟨w1, hb1, rfl⟩
                have hgn := grown_setL [.string tq.name, .string tq.path, .int .i64 tq.var, .int .i64 tq.field, .int .i64 tq.n] (k * 7 + 2) w1 (World.grownBy.refl w1 (some H))
                have hxn := (HXQ.out.below hb1).far (K := H) hgn (by omega) (by omega) (by omega)
                have hon := own_putL [.string tq.name, .string tq.path, .int .i64 tq.var, .int .i64 tq.field, .int .i64 tq.n] (k * 7 + 2) _ w1 (own_below0 HOQ.out hb1)
                have hcn := HCQ.out.putL (i := k) (j := 2) (x' := { m with field := idxO (fieldNo s (idxO (schemaNames s) p.head)) m.path, term := tq }) (vs := [.string tq.name, .string tq.path, .int .i64 tq.var, .int .i64 tq.field, .int .i64 tq.n]) (by simp) (List.getElem?_eq_some_iff.1 HATK.out).1 (by rw [show chunk cq 7 k = _ from HCQ.out.chunk HATK.out]; rfl)
                have hr1 := (own_below0 HR1.out hb1).kept hgn (.inr hap1)
                clear HR1
                have hr2 := (own_below0 HR2.out hb1).kept hgn (.inr hap2)
                clear HR2
                generalize w1.setCells H (k * 7 + 2) [.string tq.name, .string tq.path, .int .i64 tq.var, .int .i64 tq.field, .int .i64 tq.n] = wq2 at hxn hon hr1 hr2 ⊢
                have HR1 := Lib.hid hr1
                clear hr1
                have HR2 := Lib.hid hr2
                clear hr2
                generalize setL cq (k * 7 + 2) [.string tq.name, .string tq.path, .int .i64 tq.var, .int .i64 tq.field, .int .i64 tq.n] = cq2 at hon hcn
                clear hb1 hgn k0 k1 k2 k3 k4 k5 lk g2 xf lx lH e3 e4 e5 e6 e7 HTM
                rw [set_mid HLEN.out, show ({ m with field := idxO (fieldNo s (idxO (schemaNames s) p.head)) m.path, term := tq } : QSet) = setQ s (idxO (schemaNames s) p.head) (ruleFo s p) m from by rw [HTQ.out]; rfl, map_snoc HM.out] at hcn
                clear HXQ HOQ HCQ HATK
                have HXQ := Lib.hid hxn
                have HOQ := Lib.hid hon
                have HCQ := Lib.hid hcn
                clear hxn hon hcn
                obtain ⟨wq, rfl⟩ : ∃ x, x = wq2 := ⟨_, rfl⟩
                obtain ⟨cq, rfl⟩ : ∃ x, x = cq2 := ⟨_, rfl⟩
                have HATK : Hid (((p.sets.take (k + 1)).map (setQ s (idxO (schemaNames s) p.head) (ruleFo s p)) ++ p.sets.drop (k + 1))[k]? = some (setQ s (idxO (schemaNames s) p.head) (ruleFo s p) m)) := Lib.hid (by
                  rw [List.getElem?_append_left (by have := (List.getElem?_eq_some_iff.1 HM.out).1; simp; omega), List.getElem?_map, List.getElem?_take_of_lt (by omega), HM.out]; rfl)
                obtain ⟨k0, k1, k2, k3, k4, k5⟩ := six_cells HXQ.out.s (Below.refl _ _)
                have lk := HXQ.out.s.lt
                have g2 := HXQ.out.x.cell 4
                simp only [List.getElem?_toArray, List.getElem?_cons_zero, List.getElem?_cons_succ] at g2
                have lx := HXQ.out.x.lt
                have lH := own_lt HOQ.out
                have hck : chunk cq 7 k = _ := HCQ.out.chunk HATK.out
                have e1 := own_cell HOQ.out hlt (by omega) hck (j := 1) rfl
                clear hck
                cases ob with
                | false =>
                  have HOK : Hid ((obp && (p.sets.take (k + 1)).all (setOk s (idxO (schemaNames s) p.head) (ruleFo s p))) = false) := Lib.hid (by rw [all_snoc HM.out, ← Bool.and_assoc, ← HOB.out]; unfold setOk; rw [← HTK.out]; try rw [show (setQ s (idxO (schemaNames s) p.head) (ruleFo s p) m).field = idxO (fieldNo s (idxO (schemaNames s) p.head)) m.path from rfl] at *; first | rfl | (simp; done) | (simp [*]; done) | (simp; omega))
                  go_wp2_with fail
                  go_roundg (m3 - (k + 1))
                  case measure => have := HQ.out; omega
                  case rel => exact ⟨k + 1, _, by omega, rfl, by rw [HOK.out], by go_num, HXQ.out, HOQ.out, HCQ.out, HR1.out, HR2.out⟩
                | true =>
                  cases tk with
                  | false =>
                    have HOK : Hid ((obp && (p.sets.take (k + 1)).all (setOk s (idxO (schemaNames s) p.head) (ruleFo s p))) = false) := Lib.hid (by rw [all_snoc HM.out, ← Bool.and_assoc, ← HOB.out]; unfold setOk; rw [← HTK.out]; try rw [show (setQ s (idxO (schemaNames s) p.head) (ruleFo s p) m).field = idxO (fieldNo s (idxO (schemaNames s) p.head)) m.path from rfl] at *; first | rfl | (simp; done) | (simp [*]; done) | (simp; omega))
                    go_wp2_with fail
                    go_roundg (m3 - (k + 1))
                    case measure => have := HQ.out; omega
                    case rel => exact ⟨k + 1, _, by omega, rfl, by rw [HOK.out], by go_num, HXQ.out, HOQ.out, HCQ.out, HR1.out, HR2.out⟩
                  | true =>
                    by_cases hv1 : (0 : Int) ≤ (setQ s (idxO (schemaNames s) p.head) (ruleFo s p) m).field
                    · have dv1 : decide ((0 : Int) ≤ (setQ s (idxO (schemaNames s) p.head) (ruleFo s p) m).field) = true := by simpa using hv1
                      have dv2 : decide ((0 : Int) ≤ idxO (fieldNo s (idxO (schemaNames s) p.head)) m.path) = true := dv1
                      have HOK : Hid ((obp && (p.sets.take (k + 1)).all (setOk s (idxO (schemaNames s) p.head) (ruleFo s p))) = true) := Lib.hid (by rw [all_snoc HM.out, ← Bool.and_assoc, ← HOB.out]; unfold setOk; rw [← HTK.out]; try rw [show (setQ s (idxO (schemaNames s) p.head) (ruleFo s p) m).field = idxO (fieldNo s (idxO (schemaNames s) p.head)) m.path from rfl] at *; first | rfl | (simp; done) | (simp [*]; done) | (simp; omega))
                      go_wp2_with fail
                      go_roundg (m3 - (k + 1))
                      case measure => have := HQ.out; omega
                      case rel => exact ⟨k + 1, _, by omega, rfl, by rw [HOK.out], by go_num, HXQ.out, HOQ.out, HCQ.out, HR1.out, HR2.out⟩
                    · have dv1 : decide ((0 : Int) ≤ (setQ s (idxO (schemaNames s) p.head) (ruleFo s p) m).field) = false := by simpa using hv1
                      have dv2 : decide ((0 : Int) ≤ idxO (fieldNo s (idxO (schemaNames s) p.head)) m.path) = false := dv1
                      have HOK : Hid ((obp && (p.sets.take (k + 1)).all (setOk s (idxO (schemaNames s) p.head) (ruleFo s p))) = false) := Lib.hid (by rw [all_snoc HM.out, ← Bool.and_assoc, ← HOB.out]; unfold setOk; rw [← HTK.out]; try rw [show (setQ s (idxO (schemaNames s) p.head) (ruleFo s p) m).field = idxO (fieldNo s (idxO (schemaNames s) p.head)) m.path from rfl] at *; first | rfl | (simp; done) | (simp [*]; done) | (simp; omega))
                      go_wp2_with fail
                      go_roundg (m3 - (k + 1))
                      case measure => have := HQ.out; omega
                      case rel => exact ⟨k + 1, _, by omega, rfl, by rw [HOK.out], by go_num, HXQ.out, HOQ.out, HCQ.out, HR1.out, HR2.out⟩
              · have hke : k = p.sets.length := by have := HL3.out; omega
                rw [take_map_all hke] at hcr
                have HOK3 : Hid (ob = ruleOk s p) := Lib.hid (by rw [HOB.out, hke, List.take_length, HOBR.out, HOBQ.out, HOBP.out]; unfold ruleOk; rfl)
                have HXR := Lib.hid hxr
                have HR3 := Lib.hid hoh
                have HC3 := Lib.hid hcr
                have y0 := hxr.x.cell 0
                have y1 := hxr.x.cell 1
                have y2 := hxr.x.cell 2
                have y3 := hxr.x.cell 3
                have y4 := hxr.x.cell 4
                have z0 := hxr.r.cell 0
                have u0 := hxr.r.frozen 0
                have z1 := hxr.r.cell 1
                have u1 := hxr.r.frozen 1
                have z2 := hxr.r.cell 2
                have u2 := hxr.r.frozen 2
                have z3 := hxr.r.cell 3
                have u3 := hxr.r.frozen 3
                have z4 := hxr.r.cell 4
                have u4 := hxr.r.frozen 4
                simp only [List.getElem?_toArray, List.getElem?_cons_zero, List.getElem?_cons_succ] at y0 y1 y2 y3 y4 z0 z1 z2 z3 z4
                have lz := hxr.r.lt
                clear hxr hoh hcr hke
                go_wp2_with fail
                have hlw := HXR.out.lt
                have hg5 : wr.grownBy (wr.setCells (w.heap.size + 2) 0 [.string p.head, .int .i64 (idxO (schemaNames s) p.head), .slice vA1 m1 vc1, .slice vA2 m2 vc2, .slice vA3 m3 vc3]) (some (w.heap.size + 2)) := grown_setL _ _ _ (World.grownBy.refl _ _)
                have r1 := HR1.out.kept hg5 (.inr (fun e => by have := HR1.out.lt _ e; omega))
                have r2 := HR2.out.kept hg5 (.inr (fun e => by have := HR2.out.lt _ e; omega))
                have r3 := HR3.out.kept hg5 (.inr (fun e => by have := HR3.out.lt _ e; omega))
                have hbl : Below w.heap.size w (wr.setCells (w.heap.size + 2) 0 [.string p.head, .int .i64 (idxO (schemaNames s) p.head), .slice vA1 m1 vc1, .slice vA2 m2 vc2, .slice vA3 m3 vc3]) := below_grown HXR.out.bl hg5 (by omega)
                have key : qRuleR (mask 0 w.heap.size (wr.setCells (w.heap.size + 2) 0 [.string p.head, .int .i64 (idxO (schemaNames s) p.head), .slice vA1 m1 vc1, .slice vA2 m2 vc2, .slice vA3 m3 vc3])) [.string p.head, .int .i64 (idxO (schemaNames s) p.head), .slice vA1 m1 vc1, .slice vA2 m2 vc2, .slice vA3 m3 vc3] (ruleQ s p) := by
                  revert r1 r2 r3
                  clear hg5 hbl
                  generalize wr.setCells (w.heap.size + 2) 0 [.string p.head, .int .i64 (idxO (schemaNames s) p.head), .slice vA1 m1 vc1, .slice vA2 m2 vc2, .slice vA3 m3 vc3] = W
                  intro r1 r2 r3
                  have t1 : SlB 8 96 qFromR (mask 0 w.heap.size W) (.slice vA1 m1 vc1) (ruleFo s p) := ⟨slR_of_row (mask_own r1 (by omega)) ⟨HC1.out.1, HC1.out.2⟩ HLF.out, by have := HB1.out; have := HLF.out; have := HL1.out; omega⟩
                  have t2 : SlB 11 120 qAtomR (mask 0 w.heap.size W) (.slice vA2 m2 vc2) (p.where_.map (atomQ s (ruleFo s p))) := ⟨slR_of_row (mask_own r2 (by omega)) ⟨HC2.out.1, HC2.out.2⟩ (by rw [List.length_map]; exact HL2.out), by rw [List.length_map]; exact HB2.out⟩
                  have t3 : SlB 7 80 qSetR (mask 0 w.heap.size W) (.slice vA3 m3 vc3) (p.sets.map (setQ s (idxO (schemaNames s) p.head) (ruleFo s p))) := ⟨slR_of_row (mask_own r3 (by omega)) ⟨HC3.out.1, HC3.out.2⟩ (by rw [List.length_map]; exact HL3.out), by rw [List.length_map]; exact HB3.out⟩
                  exact ⟨vA1, m1, vc1, vA2, m2, vc2, vA3, m3, vc3, rfl, t1, t2, t3⟩
                refine ⟨rfl, .tuple #[.agg #[.string p.head, .int .i64 (idxO (schemaNames s) p.head), .slice vA1 m1 vc1, .slice vA2 m2 vc2, .slice vA3 m3 vc3], .bool ob], ?_, [.string p.head, .int .i64 (idxO (schemaNames s) p.head), .slice vA1 m1 vc1, .slice vA2 m2 vc2, .slice vA3 m3 vc3], by rw [HOK3.out], key, hbl⟩
                simp [results, Try.results42, go_sem, *]
end Go.Proofs.Ytkkkephjljiplaa
