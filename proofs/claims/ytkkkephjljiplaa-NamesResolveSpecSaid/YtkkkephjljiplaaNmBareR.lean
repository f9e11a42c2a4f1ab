/- Contract of bareRule. -/
import Derived.Test.YtkkkephjljiplaaNmBareT
import Derived.Test.YtkkkephjljiplaaPut
namespace Go.Proofs.Ytkkkephjljiplaa
open Go.RowKit

/-- What stands while a variable x and the result's variable behind it are filled. -/
structure XR (w0 : World) (T : TypeId) (cs zr : Array Value) (wr : World) : Prop where
  bl : Below w0.heap.size w0 wr
  x : Blk wr w0.heap.size T cs
  r : Blk wr (w0.heap.size + 1) T zr
section
variable {w0 wr wr' : World} {T : TypeId} {cs zr : Array Value}
theorem XR.far (h : XR w0 T cs zr wr) {K : Nat} (hg : wr.grownBy wr' (some K)) (hK : w0.heap.size + 2 ≤ K) : XR w0 T cs zr wr' :=
  ⟨below_grown h.bl hg (by omega), blk_grown h.x hg (by omega), blk_grown h.r hg (by omega)⟩
theorem XR.below (h : XR w0 T cs zr wr) (hb : Below wr.heap.size wr wr') : XR w0 T cs zr wr' :=
  ⟨h.bl.trans (hb.mono h.bl.size), h.x.below hb h.x.lt, h.r.below hb h.r.lt⟩
theorem XR.drew (h : XR w0 T cs zr wr) : XR w0 T cs zr wr.drew := ⟨h.bl.drew, h.x, h.r⟩
theorem XR.put (h : XR w0 T cs zr wr) (i : Nat) (u : Value) : XR w0 T (cs.setIfInBounds i u) zr (wr.setCell ⟨w0.heap.size, i, none⟩ u) :=
  ⟨below_grown h.bl (grown_near (World.grownBy.refl _ _) _ _) (Nat.le_refl _), h.x.put i u, h.r.far (by simp) u⟩
theorem XR.lt (h : XR w0 T cs zr wr) : w0.heap.size + 2 ≤ wr.heap.size := h.r.lt
end

/-- A rule, all of its rows made in the call. -/
def RetRule (x : QRule) (w : World) (e : Ending) (w' : World) : Prop := ∃ cs : List Value, e = .returned (.agg cs.toArray) ∧ qRuleR (mask 0 w.heap.size w') cs x ∧ Below w.heap.size w w'

set_option maxHeartbeats 2000000 in
set_option maxRecDepth 100000 in
theorem bareRule_any (A1 : Option Addr) (n1 c1 : Nat) (A2 : Option Addr) (n2 c2 : Nat) (A3 : Option Addr) (n3 c3 : Nat) (p : QRule) (w : World)
    (h1 : SlB 8 96 qFromR w (.slice A1 n1 c1) p.froms) (h2 : SlB 11 120 qAtomR w (.slice A2 n2 c2) p.where_) (h3 : SlB 7 80 qSetR w (.slice A3 n3 c3) p.sets) :
    Calls Try.prog 50 #[.agg #[.string p.head, .int .i64 p.schema, .slice A1 n1 c1, .slice A2 n2 c2, .slice A3 n3 c3]] w (RetRule (bareRule p) w) := by
  have hl1 := h1.1.len
  have hl2 := h2.1.len
  have hl3 := h3.1.len
  have HB1 := Lib.hid h1.2
  have HB2 := Lib.hid h2.2
  have HB3 := Lib.hid h3.2
  have H1 := Lib.hid h1.1
  have H2 := Lib.hid h2.1
  have H3 := Lib.hid h3.1
  have HL1 := Lib.hid hl1
  have HL2 := Lib.hid hl2
  have HL3 := Lib.hid hl3
  clear h1 h2 h3 hl1 hl2 hl3
  obtain ⟨j1, i1, z10, z11, z12⟩ := info_parts Try.infoFrom
  obtain ⟨j2, i2, z20, z21, z22⟩ := info_parts Try.infoAtom
  obtain ⟨j3, i3, z30, z31, z32⟩ := info_parts Try.infoSet
  have I1 := Lib.hid i1
  have I2 := Lib.hid i2
  have I3 := Lib.hid i3
  have Z1 := Lib.hid (And.intro z10 (And.intro z11 z12))
  have Z2 := Lib.hid (And.intro z20 (And.intro z21 z22))
  have Z3 := Lib.hid (And.intro z30 (And.intro z31 z32))
  clear i1 i2 i3 z10 z11 z12 z20 z21 z22 z30 z31 z32
  go_enter Try.func50, Try.ntmps50
  go_upto_region 2 with fail
  have hxr : XR w 56 #[.string p.head, .int .i64 0, .slice A1 n1 c1, .slice A2 n2 c2, .slice A3 n3 c3] #[.string ⟨#[]⟩, .int .i64 0, .slice none 0 0, .slice none 0 0, .slice none 0 0]
    ((w.alloc (.cells #[.string p.head, .int .i64 0, .slice A1 n1 c1, .slice A2 n2 c2, .slice A3 n3 c3] 56)).alloc (.cells #[.string ⟨#[]⟩, .int .i64 0, .slice none 0 0, .slice none 0 0, .slice none 0 0] 56)) :=
    ⟨((Below.refl _ _).alloc (Nat.le_refl _) _).alloc (by simp) _, (Blk.new _ _ _).alloc _, by simpa using Blk.new (w.alloc (.cells #[.string p.head, .int .i64 0, .slice A1 n1 c1, .slice A2 n2 c2, .slice A3 n3 c3] 56)) 56 #[.string ⟨#[]⟩, .int .i64 0, .slice none 0 0, .slice none 0 0, .slice none 0 0]⟩
  generalize (w.alloc (.cells #[.string p.head, .int .i64 0, .slice A1 n1 c1, .slice A2 n2 c2, .slice A3 n3 c3] 56)).alloc (.cells #[.string ⟨#[]⟩, .int .i64 0, .slice none 0 0, .slice none 0 0, .slice none 0 0] 56) = wa1 at hxr ⊢
  have q2 := hxr.x.cell 2
  simp only [List.getElem?_toArray, List.getElem?_cons_zero, List.getElem?_cons_succ] at q2
  have lx := hxr.x.lt
  have HXR := Lib.hid hxr
  clear hxr
  go_wp2_with (at_builtin; refine wpList_append_row _ rfl (.tmp 7) (.tmp 9) 52 61 rfl j1 _ 96 Try.underlying52 I1.out Z1.out.1 Z1.out.2.1 Z1.out.2.2 rfl (by decide) (R := fun _ => qFromR w) (fun _ => qFromR_one w) wa1.heap.size (.slice (some ⟨wa1.heap.size, 0, none⟩) 0 0) 0 [] rfl (World.ownsRow_lit wa1 #[] 0 (Nat.le_refl _) (Nat.zero_le _) rfl) A1 n1 c1 p.froms rfl (H1.out.fix (HXR.out.bl.alloc HXR.out.bl.size _)) (by have := HB1.out; have := HL1.out; unfold maxLen; omega) (by have := HB1.out; have := HL1.out; omega) (by simp) ?_
               intro v1 w1 cs1 hcs1 ho1 hgr1 hat1
               have hb1 : Below wa1.heap.size wa1 w1 := ((Below.refl _ _).alloc (Nat.le_refl _) _).grown hgr1 (by simp) (by simp [Value.ownBlock])
               obtain ⟨vA1, vn, vc1, rfl, hvn⟩ := own_form' ho1
               have hx1 := HXR.out.below hb1
               have q21 := hx1.x.cell 2
               have f21 := hx1.x.frozen 2
               simp only [List.getElem?_toArray, List.getElem?_cons_zero, List.getElem?_cons_succ] at q21
               have lx1 := hx1.x.lt
               have HX1 := Lib.hid hx1
               have HO1 := Lib.hid ho1
               have HC1 := Lib.hid hcs1
               have HBW1 := Lib.hid hb1
               have HVN := Lib.hid hvn
               clear hx1 ho1 hcs1 hb1 hgr1 hat1 hvn)
  obtain rfl : n1 = vn := by have := HVN.out; omega
  have hx2 : XR w 56 #[.string p.head, .int .i64 0, .slice vA1 n1 vc1, .slice A2 n2 c2, .slice A3 n3 c3] #[.string ⟨#[]⟩, .int .i64 0, .slice none 0 0, .slice none 0 0, .slice none 0 0] (w1.setCell ⟨w.heap.size, 2, none⟩ (.slice vA1 n1 vc1)) := HX1.out.put 2 _
  have ho2 : (w1.setCell ⟨w.heap.size, 2, none⟩ (.slice vA1 n1 vc1)).ownsRow wa1.heap.size 61 8 (.slice vA1 n1 vc1) n1 cs1 := by
    have := HO1.out
    rw [Nat.zero_add, List.nil_append] at this
    exact own_far this (by simpa using lx) _
  generalize w1.setCell ⟨w.heap.size, 2, none⟩ (.slice vA1 n1 vc1) = w2 at hx2 ho2 ⊢
  have HX2 := Lib.hid hx2
  have HO2 := Lib.hid ho2
  have hwa1 := HXR.out.lt
  clear hx2 ho2 q2 lx q21 f21 lx1 HXR HX1 HO1 HBW1 HVN
  go_loopg [3] n1 (fun q j wr => ∃ (k : Nat) (cr : List Value), k ≤ n1 ∧ q = n1 - k ∧ j = .int .i64 k ∧ XR w 56 #[.string p.head, .int .i64 0, .slice vA1 n1 vc1, .slice A2 n2 c2, .slice A3 n3 c3] #[.string ⟨#[]⟩, .int .i64 0, .slice none 0 0, .slice none 0 0, .slice none 0 0] wr ∧
      wr.ownsRow wa1.heap.size 61 8 (.slice vA1 n1 vc1) n1 cr ∧ CellsR 8 qFromR w cr ((p.froms.take k).map bareFrom ++ p.froms.drop k))
  case atStart => exact ⟨0, cs1, Nat.zero_le _, rfl, rfl, HX2.out, HO2.out, HC1.out⟩
  case round =>
    clear HX2 HO2 HC1
    obtain ⟨k, cr, hk, hq, rfl, hxr, hoh, hcr⟩ := hrel
    have HQ := Lib.hid hq
    clear hq
    have g2 := hxr.x.cell 2
    simp only [List.getElem?_toArray, List.getElem?_cons_zero, List.getElem?_cons_succ] at g2
    by_cases hlt : k < n1
    · rcases own_row hoh with ⟨h, h0⟩ | ⟨H, hcap, h, hH, hHw, hn2⟩
      · exfalso; injection h with _ h; omega
      injection h with h1 h2 h3
      subst h1 h3
      clear h2
      obtain ⟨m, hm⟩ : ∃ m, p.froms[k]? = some m := ⟨p.froms[k]'(by have := HL1.out; omega), List.getElem?_eq_getElem _⟩
      have hat := take_map_at (f := bareFrom) hm
      have HM := Lib.hid hm
      have hkl : k < ((p.froms.take k).map bareFrom ++ p.froms.drop k).length := (List.getElem?_eq_some_iff.1 hat).1
      have HKL := Lib.hid hkl
      have hkn : (k : Int) < (n1 : Int) := by omega
      have hk0 : (0 : Int) ≤ (k : Int) := by omega
      clear hm hkl
      have hch : chunk cr 8 k = _ := hcr.chunk hat
      have e2 := own_cell hoh hlt (by omega) hch (j := 2) rfl
      have f2 := hoh.frozenAt (k * 8 + 2)
      have HXR := Lib.hid hxr
      have HOH := Lib.hid hoh
      have HCR := Lib.hid hcr
      have HAT := Lib.hid hat
      clear hxr hoh hcr hat hch
      go_upto_region 7 with fail
      have hoq := (HOH.out.stored (k * 8 + 2) (.int .i64 0)).1
      have hgq := grown_near (World.grownBy.refl wr (some H)) (k * 8 + 2) (.int .i64 0)
      have hxq := HXR.out.far (K := H) hgq (by omega)
      have hcq := from_put2 HCR.out HAT.out 0
      have hatk : (((p.froms.take k).map bareFrom ++ p.froms.drop k).set k { m with schema := 0 })[k]? = some { m with schema := 0 } := List.getElem?_set_self HKL.out
      generalize wr.setCell ⟨H, k * 8 + 2, none⟩ (.int .i64 0) = wq at hoq hxq hgq ⊢
      generalize cr.set (k * 8 + 2) (.int .i64 0) = cq at hoq hcq
      clear e2 f2 HOH HXR HCR HAT hgq
      have hck : chunk cq 8 k = _ := hcq.chunk hatk
      have g2 := hxq.x.cell 2
      simp only [List.getElem?_toArray, List.getElem?_cons_zero, List.getElem?_cons_succ] at g2
      have hrg : wq.drew.rangeAt H (k * 8 + 3) [.string m.of_.name, .string m.of_.path, .int .i64 m.of_.var, .int .i64 m.of_.field, .int .i64 m.of_.n] := own_range hoq.drew hlt hck (j := 3) (by simp) rfl
      have e3 := hrg 0 _ rfl
      have e4 := hrg 1 _ rfl
      have e5 := hrg 2 _ rfl
      have e6 := hrg 3 _ rfl
      have e7 := hrg 4 _ rfl
      simp only [World.cell?_drew, Nat.add_zero] at e3 e4 e5 e6 e7
      have HOQ := Lib.hid hoq
      have HXQ := Lib.hid hxq
      have HCQ := Lib.hid hcq
      have HATK := Lib.hid hatk
      have lxq := hxq.x.lt
      have lH := own_lt hoq
      clear hoq hxq hcq hck hatk hrg
      apply wp_via0 (G := fun w3 => ∃ w1, Below wq.heap.size wq w1 ∧ w3 = w1.setCells H (k * 8 + 3) [.string m.of_.name, .string m.of_.path, .int .i64 0, .int .i64 0, .int .i64 m.of_.n])
      · go_region_law (first
          | (refine step_call_any (by rfl) 86 #[.agg #[.string m.of_.name, .string m.of_.path, .int .i64 m.of_.var, .int .i64 m.of_.field, .int .i64 m.of_.n]] (by go_simp) (bareTerm_any m.of_ _) ?_
             rintro e w1 ⟨rfl, hb1⟩
             refine ⟨_, rfl, ?_⟩
             have gw := (hb1.cell (p := ⟨w.heap.size, 2, none⟩) lxq).trans g2
             have r3 := (hb1.cell (p := ⟨H, k * 8 + 3, none⟩) lH).trans e3
             have r4 := (hb1.cell (p := ⟨H, k * 8 + 3 + 1, none⟩) lH).trans e4
             have r5 := (hb1.cell (p := ⟨H, k * 8 + 3 + 2, none⟩) lH).trans e5
             have r6 := (hb1.cell (p := ⟨H, k * 8 + 3 + 3, none⟩) lH).trans e6
             have r7 := (hb1.cell (p := ⟨H, k * 8 + 3 + 4, none⟩) lH).trans e7
             have f3 := (own_below0 HOQ.out.drew hb1).frozenAt (k * 8 + 3)
             have f4 := (own_below0 HOQ.out.drew hb1).frozenAt (k * 8 + 3 + 1)
             have f5 := (own_below0 HOQ.out.drew hb1).frozenAt (k * 8 + 3 + 2)
             have f6 := (own_below0 HOQ.out.drew hb1).frozenAt (k * 8 + 3 + 3)
             have f7 := (own_below0 HOQ.out.drew hb1).frozenAt (k * 8 + 3 + 4)
             have HBC := Lib.hid hb1
             clear hb1))
        all_goals exact ⟨rfl, w1, Below.trans (Below.refl _ _).drew HBC.out, rfl⟩
      rintro w3 ⟨w1, hb1, rfl⟩
      have hgn := grown_setL [.string m.of_.name, .string m.of_.path, .int .i64 0, .int .i64 0, .int .i64 m.of_.n] (k * 8 + 3) w1 (World.grownBy.refl w1 (some H))
      have hxn := (HXQ.out.below hb1).far (K := H) hgn (by omega)
      have hon := own_putL [.string m.of_.name, .string m.of_.path, .int .i64 0, .int .i64 0, .int .i64 m.of_.n] (k * 8 + 3) _ w1 (own_below0 HOQ.out hb1)
      have hcn := HCQ.out.putL (i := k) (j := 3) (x' := bareFrom m) (vs := [.string m.of_.name, .string m.of_.path, .int .i64 0, .int .i64 0, .int .i64 m.of_.n]) (by simp) (by first | exact HKL.out | (rw [List.length_set]; exact HKL.out)) (by rw [show chunk cq 8 k = _ from HCQ.out.chunk HATK.out]; rfl)
      rw [List.set_set, take_map_snoc HM.out] at hcn
      generalize w1.setCells H (k * 8 + 3) [.string m.of_.name, .string m.of_.path, .int .i64 0, .int .i64 0, .int .i64 m.of_.n] = w4 at hxn hon ⊢
      have HXN := Lib.hid hxn
      have HON := Lib.hid hon
      have HCN := Lib.hid hcn
      clear hxn hon hcn hb1 hgn e3 e4 e5 e6 e7 g2 lxq lH HOQ HXQ HCQ HATK HKL
      go_wp2_with fail
      go_roundg (n1 - (k + 1))
      case measure => have := HQ.out; omega
      case rel => exact ⟨k + 1, _, by omega, rfl, by go_num, HXN.out, HON.out, HCN.out⟩
    · have hke : k = p.froms.length := by have := HL1.out; omega
      rw [take_map_all hke] at hcr
      have lx := hxr.x.lt
      have HXR := Lib.hid hxr
      have HR1 := Lib.hid hoh
      have HC1 := Lib.hid hcr
      have q2 := hxr.x.cell 3
      simp only [List.getElem?_toArray, List.getElem?_cons_zero, List.getElem?_cons_succ] at q2
      clear hxr hoh hcr hke
      go_upto_region 8 with fail
      obtain ⟨wa2, rfl⟩ : ∃ x, x = wr := ⟨_, rfl⟩
      obtain ⟨k1, rfl⟩ : ∃ x, x = k := ⟨_, rfl⟩
      obtain ⟨cs1, rfl⟩ : ∃ x, x = cr := ⟨_, rfl⟩
      clear g2 hk hlt HQ
      go_wp2_with (at_builtin; refine wpList_append_row _ rfl (.tmp 36) (.tmp 38) 53 64 rfl j2 _ 120 Try.underlying53 I2.out Z2.out.1 Z2.out.2.1 Z2.out.2.2 rfl (by decide) (R := fun _ => qAtomR w) (fun _ => qAtomR_one w) wa2.heap.size (.slice (some ⟨wa2.heap.size, 0, none⟩) 0 0) 0 [] rfl (World.ownsRow_lit wa2 #[] 0 (Nat.le_refl _) (Nat.zero_le _) rfl) A2 n2 c2 p.where_ rfl (H2.out.fix (HXR.out.bl.alloc HXR.out.bl.size _)) (by have := HB2.out; have := HL2.out; unfold maxLen; omega) (by have := HB2.out; have := HL2.out; omega) (by simp) ?_
                   intro v1 w1 cs2 hcs1 ho1 hgr1 hat1
                   have hb1 : Below wa2.heap.size wa2 w1 := ((Below.refl _ _).alloc (Nat.le_refl _) _).grown hgr1 (by simp) (by simp [Value.ownBlock])
                   obtain ⟨vA2, vn, vc2, rfl, hvn⟩ := own_form' ho1
                   have hx1 := HXR.out.below hb1
                   have q21 := hx1.x.cell 3
                   have f21 := hx1.x.frozen 3
                   simp only [List.getElem?_toArray, List.getElem?_cons_zero, List.getElem?_cons_succ] at q21
                   have lx1 := hx1.x.lt
                   have HX1 := Lib.hid hx1
                   have HO1 := Lib.hid ho1
                   have HC2 := Lib.hid hcs1
                   have HBW1 := Lib.hid hb1
                   have HVN := Lib.hid hvn
                   clear hx1 ho1 hcs1 hb1 hgr1 hat1 hvn)
      obtain rfl : n2 = vn := by have := HVN.out; omega
      have hx2 : XR w 56 #[.string p.head, .int .i64 0, .slice vA1 n1 vc1, .slice vA2 n2 vc2, .slice A3 n3 c3] #[.string ⟨#[]⟩, .int .i64 0, .slice none 0 0, .slice none 0 0, .slice none 0 0] (w1.setCell ⟨w.heap.size, 3, none⟩ (.slice vA2 n2 vc2)) := HX1.out.put 3 _
      have ho2 : (w1.setCell ⟨w.heap.size, 3, none⟩ (.slice vA2 n2 vc2)).ownsRow wa2.heap.size 64 11 (.slice vA2 n2 vc2) n2 cs2 := by
        have := HO1.out
        rw [Nat.zero_add, List.nil_append] at this
        exact own_far this (by simpa using lx) _
      have hr1 : (w1.setCell ⟨w.heap.size, 3, none⟩ (.slice vA2 n2 vc2)).ownsRow wa1.heap.size 61 8 (.slice vA1 n1 vc1) n1 cs1 := own_far (own_below0 HR1.out HBW1.out) (by have := hwa1; simp; omega) _
      have hrb1 : ∀ r, (Value.slice vA1 n1 vc1).ownBlock = some r → r < wa2.heap.size := fun r e => (HR1.out.lt r e).2
      generalize w1.setCell ⟨w.heap.size, 3, none⟩ (.slice vA2 n2 vc2) = w2 at hx2 ho2 hr1 ⊢
      have HX2 := Lib.hid hx2
      have HO2 := Lib.hid ho2
      have hwa2 := HXR.out.lt
      clear HR1
      have HR1 := Lib.hid hr1
      have HRB1 := Lib.hid hrb1
      clear hr1 hrb1
      clear hx2 ho2 q2 lx q21 f21 lx1 HXR HX1 HO1 HBW1 HVN
      go_loopg [4] n2 (fun q j wr => ∃ (k : Nat) (cr : List Value), k ≤ n2 ∧ q = n2 - k ∧ j = .int .i64 k ∧ XR w 56 #[.string p.head, .int .i64 0, .slice vA1 n1 vc1, .slice vA2 n2 vc2, .slice A3 n3 c3] #[.string ⟨#[]⟩, .int .i64 0, .slice none 0 0, .slice none 0 0, .slice none 0 0] wr ∧
          wr.ownsRow wa2.heap.size 64 11 (.slice vA2 n2 vc2) n2 cr ∧ CellsR 11 qAtomR w cr ((p.where_.take k).map bareAtom ++ p.where_.drop k) ∧ wr.ownsRow wa1.heap.size 61 8 (.slice vA1 n1 vc1) n1 cs1)
      case atStart => exact ⟨0, cs2, Nat.zero_le _, rfl, rfl, HX2.out, HO2.out, HC2.out, HR1.out⟩
      case round =>
        clear HX2 HO2 HC2 HR1
        obtain ⟨k, cr, hk, hq, rfl, hxr, hoh, hcr, hr1⟩ := hrel
        have HQ := Lib.hid hq
        clear hq
        have g2 := hxr.x.cell 3
        simp only [List.getElem?_toArray, List.getElem?_cons_zero, List.getElem?_cons_succ] at g2
        have HR1 := Lib.hid hr1
        clear hr1
        by_cases hlt : k < n2
        · rcases own_row hoh with ⟨h, h0⟩ | ⟨H, hcap, h, hH, hHw, hn2⟩
          · exfalso; injection h with _ h; omega
          injection h with h1 h2 h3
          subst h1 h3
          clear h2
          obtain ⟨m, hm⟩ : ∃ m, p.where_[k]? = some m := ⟨p.where_[k]'(by have := HL2.out; omega), List.getElem?_eq_getElem _⟩
          have hat := take_map_at (f := bareAtom) hm
          have HM := Lib.hid hm
          have hkl : k < ((p.where_.take k).map bareAtom ++ p.where_.drop k).length := (List.getElem?_eq_some_iff.1 hat).1
          have HKL := Lib.hid hkl
          have hkn : (k : Int) < (n2 : Int) := by omega
          have hk0 : (0 : Int) ≤ (k : Int) := by omega
          clear hm hkl
          have hap1 : (Value.slice vA1 n1 vc1).ownBlock ≠ some H := fun e => by have := HRB1.out _ e; omega
          have hoq := hoh
          have hxq := hxr
          have hcq := hcr
          have hatk := hat
          clear hoh hxr hcr hat
          obtain ⟨wq, rfl⟩ : ∃ x, x = wr := ⟨_, rfl⟩
          obtain ⟨cq, rfl⟩ : ∃ x, x = cr := ⟨_, rfl⟩
          have HOQ := Lib.hid hoq
          have HXQ := Lib.hid hxq
          have HCQ := Lib.hid hcq
          have HATK := Lib.hid hatk
          clear hoq hxq hcq hatk
          go_upto_region 12 with fail
          have hoq := HOQ.out
          have hxq := HXQ.out
          have hcq := HCQ.out
          have hatk := HATK.out
          clear HOQ HXQ HCQ HATK
          have hck : chunk cq 11 k = _ := hcq.chunk hatk
          have g2 := hxq.x.cell 3
          simp only [List.getElem?_toArray, List.getElem?_cons_zero, List.getElem?_cons_succ] at g2
          have hrg : wq.drew.rangeAt H (k * 11 + 1) [.string m.a.name, .string m.a.path, .int .i64 m.a.var, .int .i64 m.a.field, .int .i64 m.a.n] := own_range hoq.drew hlt hck (j := 1) (by simp) rfl
          have e3 := hrg 0 _ rfl
          have e4 := hrg 1 _ rfl
          have e5 := hrg 2 _ rfl
          have e6 := hrg 3 _ rfl
          have e7 := hrg 4 _ rfl
          simp only [World.cell?_drew, Nat.add_zero] at e3 e4 e5 e6 e7
          have HOQ := Lib.hid hoq
          have HXQ := Lib.hid hxq
          have HCQ := Lib.hid hcq
          have HATK := Lib.hid hatk
          have lxq := hxq.x.lt
          have lH := own_lt hoq
          clear hoq hxq hcq hck hatk hrg
          apply wp_via0 (G := fun w3 => ∃ w1, Below wq.heap.size wq w1 ∧ w3 = w1.setCells H (k * 11 + 1) [.string m.a.name, .string m.a.path, .int .i64 0, .int .i64 0, .int .i64 m.a.n])
          · go_region_law (first
              | (refine step_call_any (by rfl) 86 #[.agg #[.string m.a.name, .string m.a.path, .int .i64 m.a.var, .int .i64 m.a.field, .int .i64 m.a.n]] (by go_simp) (bareTerm_any m.a _) ?_
                 rintro e w1 ⟨rfl, hb1⟩
                 refine ⟨_, rfl, ?_⟩
                 have gw := (hb1.cell (p := ⟨w.heap.size, 3, none⟩) lxq).trans g2
                 have r3 := (hb1.cell (p := ⟨H, k * 11 + 1, none⟩) lH).trans e3
                 have r4 := (hb1.cell (p := ⟨H, k * 11 + 1 + 1, none⟩) lH).trans e4
                 have r5 := (hb1.cell (p := ⟨H, k * 11 + 1 + 2, none⟩) lH).trans e5
                 have r6 := (hb1.cell (p := ⟨H, k * 11 + 1 + 3, none⟩) lH).trans e6
                 have r7 := (hb1.cell (p := ⟨H, k * 11 + 1 + 4, none⟩) lH).trans e7
                 have f3 := (own_below0 HOQ.out.drew hb1).frozenAt (k * 11 + 1)
                 have f4 := (own_below0 HOQ.out.drew hb1).frozenAt (k * 11 + 1 + 1)
                 have f5 := (own_below0 HOQ.out.drew hb1).frozenAt (k * 11 + 1 + 2)
                 have f6 := (own_below0 HOQ.out.drew hb1).frozenAt (k * 11 + 1 + 3)
                 have f7 := (own_below0 HOQ.out.drew hb1).frozenAt (k * 11 + 1 + 4)
                 have HBC := Lib.hid hb1
                 clear hb1))
            all_goals exact ⟨rfl, w1, Below.trans (Below.refl _ _).drew HBC.out, rfl⟩
          rintro w3 ⟨w1, hb1, rfl⟩
          have hgn := grown_setL [.string m.a.name, .string m.a.path, .int .i64 0, .int .i64 0, .int .i64 m.a.n] (k * 11 + 1) w1 (World.grownBy.refl w1 (some H))
          have hxn := (HXQ.out.below hb1).far (K := H) hgn (by omega)
          have hon := own_putL [.string m.a.name, .string m.a.path, .int .i64 0, .int .i64 0, .int .i64 m.a.n] (k * 11 + 1) _ w1 (own_below0 HOQ.out hb1)
          have hcn := HCQ.out.putL (i := k) (j := 1) (x' := { m with a := bareTerm m.a }) (vs := [.string m.a.name, .string m.a.path, .int .i64 0, .int .i64 0, .int .i64 m.a.n]) (by simp) (by first | exact HKL.out | (rw [List.length_set]; exact HKL.out)) (by rw [show chunk cq 11 k = _ from HCQ.out.chunk HATK.out]; rfl)
          have hr1 := (own_below0 HR1.out hb1).kept hgn (.inr hap1)
          clear HR1
          generalize w1.setCells H (k * 11 + 1) [.string m.a.name, .string m.a.path, .int .i64 0, .int .i64 0, .int .i64 m.a.n] = w4 at hxn hon hr1 ⊢
          have HR1 := Lib.hid hr1
          clear hr1
          have hatk : (((p.where_.take k).map bareAtom ++ p.where_.drop k).set k { m with a := bareTerm m.a })[k]? = some { m with a := bareTerm m.a } := List.getElem?_set_self HKL.out
          generalize setL cq (k * 11 + 1) [.string m.a.name, .string m.a.path, .int .i64 0, .int .i64 0, .int .i64 m.a.n] = cq2 at hon hcn
          clear hb1 hgn e3 e4 e5 e6 e7 g2 lxq lH HOQ HXQ HCQ HATK
          have HOQ := Lib.hid hon
          have HXQ := Lib.hid hxn
          have HCQ := Lib.hid hcn
          have HATK := Lib.hid hatk
          clear hon hxn hcn hatk
          go_upto_region 13 with fail
          have hoq := HOQ.out
          have hxq := HXQ.out
          have hcq := HCQ.out
          have hatk := HATK.out
          clear HOQ HXQ HCQ HATK
          obtain ⟨wq, rfl⟩ : ∃ x, x = w4 := ⟨_, rfl⟩
          obtain ⟨cq, rfl⟩ : ∃ x, x = cq2 := ⟨_, rfl⟩
          have hck : chunk cq 11 k = _ := hcq.chunk hatk
          have g2 := hxq.x.cell 3
          simp only [List.getElem?_toArray, List.getElem?_cons_zero, List.getElem?_cons_succ] at g2
          have hrg : wq.drew.rangeAt H (k * 11 + 6) [.string m.b.name, .string m.b.path, .int .i64 m.b.var, .int .i64 m.b.field, .int .i64 m.b.n] := own_range hoq.drew hlt hck (j := 6) (by simp) rfl
          have e3 := hrg 0 _ rfl
          have e4 := hrg 1 _ rfl
          have e5 := hrg 2 _ rfl
          have e6 := hrg 3 _ rfl
          have e7 := hrg 4 _ rfl
          simp only [World.cell?_drew, Nat.add_zero] at e3 e4 e5 e6 e7
          have HOQ := Lib.hid hoq
          have HXQ := Lib.hid hxq
          have HCQ := Lib.hid hcq
          have HATK := Lib.hid hatk
          have lxq := hxq.x.lt
          have lH := own_lt hoq
          clear hoq hxq hcq hck hatk hrg
          apply wp_via0 (G := fun w3 => ∃ w1, Below wq.heap.size wq w1 ∧ w3 = w1.setCells H (k * 11 + 6) [.string m.b.name, .string m.b.path, .int .i64 0, .int .i64 0, .int .i64 m.b.n])
          · go_region_law (first
              | (refine step_call_any (by rfl) 86 #[.agg #[.string m.b.name, .string m.b.path, .int .i64 m.b.var, .int .i64 m.b.field, .int .i64 m.b.n]] (by go_simp) (bareTerm_any m.b _) ?_
                 rintro e w1 ⟨rfl, hb1⟩
                 refine ⟨_, rfl, ?_⟩
                 have gw := (hb1.cell (p := ⟨w.heap.size, 3, none⟩) lxq).trans g2
                 have r3 := (hb1.cell (p := ⟨H, k * 11 + 6, none⟩) lH).trans e3
                 have r4 := (hb1.cell (p := ⟨H, k * 11 + 6 + 1, none⟩) lH).trans e4
                 have r5 := (hb1.cell (p := ⟨H, k * 11 + 6 + 2, none⟩) lH).trans e5
                 have r6 := (hb1.cell (p := ⟨H, k * 11 + 6 + 3, none⟩) lH).trans e6
                 have r7 := (hb1.cell (p := ⟨H, k * 11 + 6 + 4, none⟩) lH).trans e7
                 have f3 := (own_below0 HOQ.out.drew hb1).frozenAt (k * 11 + 6)
                 have f4 := (own_below0 HOQ.out.drew hb1).frozenAt (k * 11 + 6 + 1)
                 have f5 := (own_below0 HOQ.out.drew hb1).frozenAt (k * 11 + 6 + 2)
                 have f6 := (own_below0 HOQ.out.drew hb1).frozenAt (k * 11 + 6 + 3)
                 have f7 := (own_below0 HOQ.out.drew hb1).frozenAt (k * 11 + 6 + 4)
                 have HBC := Lib.hid hb1
                 clear hb1))
            all_goals exact ⟨rfl, w1, Below.trans (Below.refl _ _).drew HBC.out, rfl⟩
          rintro w3 ⟨w1, hb1, rfl⟩
          have hgn := grown_setL [.string m.b.name, .string m.b.path, .int .i64 0, .int .i64 0, .int .i64 m.b.n] (k * 11 + 6) w1 (World.grownBy.refl w1 (some H))
          have hxn := (HXQ.out.below hb1).far (K := H) hgn (by omega)
          have hon := own_putL [.string m.b.name, .string m.b.path, .int .i64 0, .int .i64 0, .int .i64 m.b.n] (k * 11 + 6) _ w1 (own_below0 HOQ.out hb1)
          have hcn := HCQ.out.putL (i := k) (j := 6) (x' := bareAtom m) (vs := [.string m.b.name, .string m.b.path, .int .i64 0, .int .i64 0, .int .i64 m.b.n]) (by simp) (by first | exact HKL.out | (rw [List.length_set]; exact HKL.out)) (by rw [show chunk cq 11 k = _ from HCQ.out.chunk HATK.out]; rfl)
          have hr1 := (own_below0 HR1.out hb1).kept hgn (.inr hap1)
          clear HR1
          rw [List.set_set, take_map_snoc HM.out] at hcn
          generalize w1.setCells H (k * 11 + 6) [.string m.b.name, .string m.b.path, .int .i64 0, .int .i64 0, .int .i64 m.b.n] = w4 at hxn hon hr1 ⊢
          have HR1 := Lib.hid hr1
          clear hr1
          have HXN := Lib.hid hxn
          have HON := Lib.hid hon
          have HCN := Lib.hid hcn
          clear hxn hon hcn hb1 hgn e3 e4 e5 e6 e7 g2 lxq lH HOQ HXQ HCQ HATK HKL
          go_wp2_with fail
          go_roundg (n2 - (k + 1))
          case measure => have := HQ.out; omega
          case rel => exact ⟨k + 1, _, by omega, rfl, by go_num, HXN.out, HON.out, HCN.out, HR1.out⟩
        · have hke : k = p.where_.length := by have := HL2.out; omega
          rw [take_map_all hke] at hcr
          have lx := hxr.x.lt
          have HXR := Lib.hid hxr
          have HR2 := Lib.hid hoh
          have HC2 := Lib.hid hcr
          have q2 := hxr.x.cell 4
          simp only [List.getElem?_toArray, List.getElem?_cons_zero, List.getElem?_cons_succ] at q2
          clear hxr hoh hcr hke
          go_upto_region 14 with fail
          obtain ⟨wa3, rfl⟩ : ∃ x, x = wr := ⟨_, rfl⟩
          obtain ⟨k2, rfl⟩ : ∃ x, x = k := ⟨_, rfl⟩
          obtain ⟨cs2, rfl⟩ : ∃ x, x = cr := ⟨_, rfl⟩
          clear g2 hk hlt HQ
          go_wp2_with (at_builtin; refine wpList_append_row _ rfl (.tmp 72) (.tmp 74) 54 66 rfl j3 _ 80 Try.underlying54 I3.out Z3.out.1 Z3.out.2.1 Z3.out.2.2 rfl (by decide) (R := fun _ => qSetR w) (fun _ => qSetR_one w) wa3.heap.size (.slice (some ⟨wa3.heap.size, 0, none⟩) 0 0) 0 [] rfl (World.ownsRow_lit wa3 #[] 0 (Nat.le_refl _) (Nat.zero_le _) rfl) A3 n3 c3 p.sets rfl (H3.out.fix (HXR.out.bl.alloc HXR.out.bl.size _)) (by have := HB3.out; have := HL3.out; unfold maxLen; omega) (by have := HB3.out; have := HL3.out; omega) (by simp) ?_
                       intro v1 w1 cs3 hcs1 ho1 hgr1 hat1
                       have hb1 : Below wa3.heap.size wa3 w1 := ((Below.refl _ _).alloc (Nat.le_refl _) _).grown hgr1 (by simp) (by simp [Value.ownBlock])
                       obtain ⟨vA3, vn, vc3, rfl, hvn⟩ := own_form' ho1
                       have hx1 := HXR.out.below hb1
                       have q21 := hx1.x.cell 4
                       have f21 := hx1.x.frozen 4
                       simp only [List.getElem?_toArray, List.getElem?_cons_zero, List.getElem?_cons_succ] at q21
                       have lx1 := hx1.x.lt
                       have HX1 := Lib.hid hx1
                       have HO1 := Lib.hid ho1
                       have HC3 := Lib.hid hcs1
                       have HBW1 := Lib.hid hb1
                       have HVN := Lib.hid hvn
                       clear hx1 ho1 hcs1 hb1 hgr1 hat1 hvn)
          obtain rfl : n3 = vn := by have := HVN.out; omega
          have hx2 : XR w 56 #[.string p.head, .int .i64 0, .slice vA1 n1 vc1, .slice vA2 n2 vc2, .slice vA3 n3 vc3] #[.string ⟨#[]⟩, .int .i64 0, .slice none 0 0, .slice none 0 0, .slice none 0 0] (w1.setCell ⟨w.heap.size, 4, none⟩ (.slice vA3 n3 vc3)) := HX1.out.put 4 _
          have ho2 : (w1.setCell ⟨w.heap.size, 4, none⟩ (.slice vA3 n3 vc3)).ownsRow wa3.heap.size 66 7 (.slice vA3 n3 vc3) n3 cs3 := by
            have := HO1.out
            rw [Nat.zero_add, List.nil_append] at this
            exact own_far this (by simpa using lx) _
          have hr1 : (w1.setCell ⟨w.heap.size, 4, none⟩ (.slice vA3 n3 vc3)).ownsRow wa1.heap.size 61 8 (.slice vA1 n1 vc1) n1 cs1 := own_far (own_below0 HR1.out HBW1.out) (by have := hwa1; simp; omega) _
          have hrb1 : ∀ r, (Value.slice vA1 n1 vc1).ownBlock = some r → r < wa3.heap.size := fun r e => (HR1.out.lt r e).2
          have hr2 : (w1.setCell ⟨w.heap.size, 4, none⟩ (.slice vA3 n3 vc3)).ownsRow wa2.heap.size 64 11 (.slice vA2 n2 vc2) n2 cs2 := own_far (own_below0 HR2.out HBW1.out) (by have := hwa2; simp; omega) _
          have hrb2 : ∀ r, (Value.slice vA2 n2 vc2).ownBlock = some r → r < wa3.heap.size := fun r e => (HR2.out.lt r e).2
          generalize w1.setCell ⟨w.heap.size, 4, none⟩ (.slice vA3 n3 vc3) = w2 at hx2 ho2 hr1 hr2 ⊢
          have HX2 := Lib.hid hx2
          have HO2 := Lib.hid ho2
          have hwa3 := HXR.out.lt
          clear HR1
          have HR1 := Lib.hid hr1
          have HRB1 := Lib.hid hrb1
          clear hr1 hrb1
          clear HR2
          have HR2 := Lib.hid hr2
          have HRB2 := Lib.hid hrb2
          clear hr2 hrb2
          clear hx2 ho2 q2 lx q21 f21 lx1 HXR HX1 HO1 HBW1 HVN
          go_loopg [5] n3 (fun q j wr => ∃ (k : Nat) (cr : List Value), k ≤ n3 ∧ q = n3 - k ∧ j = .int .i64 k ∧ XR w 56 #[.string p.head, .int .i64 0, .slice vA1 n1 vc1, .slice vA2 n2 vc2, .slice vA3 n3 vc3] #[.string ⟨#[]⟩, .int .i64 0, .slice none 0 0, .slice none 0 0, .slice none 0 0] wr ∧
              wr.ownsRow wa3.heap.size 66 7 (.slice vA3 n3 vc3) n3 cr ∧ CellsR 7 qSetR w cr ((p.sets.take k).map bareSet ++ p.sets.drop k) ∧ wr.ownsRow wa1.heap.size 61 8 (.slice vA1 n1 vc1) n1 cs1 ∧ wr.ownsRow wa2.heap.size 64 11 (.slice vA2 n2 vc2) n2 cs2)
          case atStart => exact ⟨0, cs3, Nat.zero_le _, rfl, rfl, HX2.out, HO2.out, HC3.out, HR1.out, HR2.out⟩
          case round =>
            clear HX2 HO2 HC3 HR1 HR2
            obtain ⟨k, cr, hk, hq, rfl, hxr, hoh, hcr, hr1, hr2⟩ := hrel
            have HQ := Lib.hid hq
            clear hq
            have g2 := hxr.x.cell 4
            simp only [List.getElem?_toArray, List.getElem?_cons_zero, List.getElem?_cons_succ] at g2
            have HR1 := Lib.hid hr1
            clear hr1
            have HR2 := Lib.hid hr2
            clear hr2
            by_cases hlt : k < n3
            · rcases own_row hoh with ⟨h, h0⟩ | ⟨H, hcap, h, hH, hHw, hn2⟩
              · exfalso; injection h with _ h; omega
              injection h with h1 h2 h3
              subst h1 h3
              clear h2
              obtain ⟨m, hm⟩ : ∃ m, p.sets[k]? = some m := ⟨p.sets[k]'(by have := HL3.out; omega), List.getElem?_eq_getElem _⟩
              have hat := take_map_at (f := bareSet) hm
              have HM := Lib.hid hm
              have hkl : k < ((p.sets.take k).map bareSet ++ p.sets.drop k).length := (List.getElem?_eq_some_iff.1 hat).1
              have HKL := Lib.hid hkl
              have hkn : (k : Int) < (n3 : Int) := by omega
              have hk0 : (0 : Int) ≤ (k : Int) := by omega
              clear hm hkl
              have hap1 : (Value.slice vA1 n1 vc1).ownBlock ≠ some H := fun e => by have := HRB1.out _ e; omega
              have hap2 : (Value.slice vA2 n2 vc2).ownBlock ≠ some H := fun e => by have := HRB2.out _ e; omega
              have hch : chunk cr 7 k = _ := hcr.chunk hat
              have e2 := own_cell hoh hlt (by omega) hch (j := 1) rfl
              have f2 := hoh.frozenAt (k * 7 + 1)
              have HXR := Lib.hid hxr
              have HOH := Lib.hid hoh
              have HCR := Lib.hid hcr
              have HAT := Lib.hid hat
              clear hxr hoh hcr hat hch
              go_upto_region 19 with fail
              have hoq := (HOH.out.stored (k * 7 + 1) (.int .i64 0)).1
              have hgq := grown_near (World.grownBy.refl wr (some H)) (k * 7 + 1) (.int .i64 0)
              have hxq := HXR.out.far (K := H) hgq (by omega)
              have hcq := set_put1 HCR.out HAT.out 0
              have hatk : (((p.sets.take k).map bareSet ++ p.sets.drop k).set k { m with field := 0 })[k]? = some { m with field := 0 } := List.getElem?_set_self HKL.out
              have hr1 := HR1.out.kept hgq (.inr hap1)
              clear HR1
              have hr2 := HR2.out.kept hgq (.inr hap2)
              clear HR2
              generalize wr.setCell ⟨H, k * 7 + 1, none⟩ (.int .i64 0) = wq at hoq hxq hgq hr1 hr2 ⊢
              generalize cr.set (k * 7 + 1) (.int .i64 0) = cq at hoq hcq
              clear e2 f2 HOH HXR HCR HAT hgq
              have HR1 := Lib.hid hr1
              clear hr1
              have HR2 := Lib.hid hr2
              clear hr2
              have hck : chunk cq 7 k = _ := hcq.chunk hatk
              have g2 := hxq.x.cell 4
              simp only [List.getElem?_toArray, List.getElem?_cons_zero, List.getElem?_cons_succ] at g2
              have hrg : wq.drew.rangeAt H (k * 7 + 2) [.string m.term.name, .string m.term.path, .int .i64 m.term.var, .int .i64 m.term.field, .int .i64 m.term.n] := own_range hoq.drew hlt hck (j := 2) (by simp) rfl
              have e3 := hrg 0 _ rfl
              have e4 := hrg 1 _ rfl
              have e5 := hrg 2 _ rfl
              have e6 := hrg 3 _ rfl
              have e7 := hrg 4 _ rfl
              simp only [World.cell?_drew, Nat.add_zero] at e3 e4 e5 e6 e7
              have HOQ := Lib.hid hoq
              have HXQ := Lib.hid hxq
              have HCQ := Lib.hid hcq
              have HATK := Lib.hid hatk
              have lxq := hxq.x.lt
              have lH := own_lt hoq
              clear hoq hxq hcq hck hatk hrg
              apply wp_via0 (G := fun w3 => ∃ w1, Below wq.heap.size wq w1 ∧ w3 = w1.setCells H (k * 7 + 2) [.string m.term.name, .string m.term.path, .int .i64 0, .int .i64 0, .int .i64 m.term.n])
              · go_region_law (first
                  | (refine step_call_any (by rfl) 86 #[.agg #[.string m.term.name, .string m.term.path, .int .i64 m.term.var, .int .i64 m.term.field, .int .i64 m.term.n]] (by go_simp) (bareTerm_any m.term _) ?_
                     rintro e w1 ⟨rfl, hb1⟩
                     refine ⟨_, rfl, ?_⟩
                     have gw := (hb1.cell (p := ⟨w.heap.size, 4, none⟩) lxq).trans g2
                     have r3 := (hb1.cell (p := ⟨H, k * 7 + 2, none⟩) lH).trans e3
                     have r4 := (hb1.cell (p := ⟨H, k * 7 + 2 + 1, none⟩) lH).trans e4
                     have r5 := (hb1.cell (p := ⟨H, k * 7 + 2 + 2, none⟩) lH).trans e5
                     have r6 := (hb1.cell (p := ⟨H, k * 7 + 2 + 3, none⟩) lH).trans e6
                     have r7 := (hb1.cell (p := ⟨H, k * 7 + 2 + 4, none⟩) lH).trans e7
                     have f3 := (own_below0 HOQ.out.drew hb1).frozenAt (k * 7 + 2)
                     have f4 := (own_below0 HOQ.out.drew hb1).frozenAt (k * 7 + 2 + 1)
                     have f5 := (own_below0 HOQ.out.drew hb1).frozenAt (k * 7 + 2 + 2)
                     have f6 := (own_below0 HOQ.out.drew hb1).frozenAt (k * 7 + 2 + 3)
                     have f7 := (own_below0 HOQ.out.drew hb1).frozenAt (k * 7 + 2 + 4)
                     have HBC := Lib.hid hb1
                     clear hb1))
                all_goals exact ⟨rfl, w1, Below.trans (Below.refl _ _).drew HBC.out, rfl⟩
              rintro w3 ⟨w1, hb1, rfl⟩
              have hgn := grown_setL [.string m.term.name, .string m.term.path, .int .i64 0, .int .i64 0, .int .i64 m.term.n] (k * 7 + 2) w1 (World.grownBy.refl w1 (some H))
              have hxn := (HXQ.out.below hb1).far (K := H) hgn (by omega)
              have hon := own_putL [.string m.term.name, .string m.term.path, .int .i64 0, .int .i64 0, .int .i64 m.term.n] (k * 7 + 2) _ w1 (own_below0 HOQ.out hb1)
              have hcn := HCQ.out.putL (i := k) (j := 2) (x' := bareSet m) (vs := [.string m.term.name, .string m.term.path, .int .i64 0, .int .i64 0, .int .i64 m.term.n]) (by simp) (by first | exact HKL.out | (rw [List.length_set]; exact HKL.out)) (by rw [show chunk cq 7 k = _ from HCQ.out.chunk HATK.out]; rfl)
              have hr1 := (own_below0 HR1.out hb1).kept hgn (.inr hap1)
              clear HR1
              have hr2 := (own_below0 HR2.out hb1).kept hgn (.inr hap2)
              clear HR2
              rw [List.set_set, take_map_snoc HM.out] at hcn
              generalize w1.setCells H (k * 7 + 2) [.string m.term.name, .string m.term.path, .int .i64 0, .int .i64 0, .int .i64 m.term.n] = w4 at hxn hon hr1 hr2 ⊢
              have HR1 := Lib.hid hr1
              clear hr1
              have HR2 := Lib.hid hr2
              clear hr2
              have HXN := Lib.hid hxn
              have HON := Lib.hid hon
              have HCN := Lib.hid hcn
              clear hxn hon hcn hb1 hgn e3 e4 e5 e6 e7 g2 lxq lH HOQ HXQ HCQ HATK HKL
              go_wp2_with fail
              go_roundg (n3 - (k + 1))
              case measure => have := HQ.out; omega
              case rel => exact ⟨k + 1, _, by omega, rfl, by go_num, HXN.out, HON.out, HCN.out, HR1.out, HR2.out⟩
            · have hke : k = p.sets.length := by have := HL3.out; omega
              rw [take_map_all hke] at hcr
              have lx := hxr.x.lt
              have HXR := Lib.hid hxr
              have HR3 := Lib.hid hoh
              have HC3 := Lib.hid hcr
              have y0 := hxr.x.cell 0
              have y1 := hxr.x.cell 1
              have y2 := hxr.x.cell 2
              have y3 := hxr.x.cell 3
              have y4 := hxr.x.cell 4
              have z0 := hxr.r.cell 0
              have z1 := hxr.r.cell 1
              have z2 := hxr.r.cell 2
              have z3 := hxr.r.cell 3
              have z4 := hxr.r.cell 4
              simp only [List.getElem?_toArray, List.getElem?_cons_zero, List.getElem?_cons_succ] at y0 y1 y2 y3 y4 z0 z1 z2 z3 z4
              have u0 := hxr.r.frozen 0
              have u1 := hxr.r.frozen 1
              have u2 := hxr.r.frozen 2
              have u3 := hxr.r.frozen 3
              have u4 := hxr.r.frozen 4
              clear hxr hoh hcr hke
              go_wp2_with fail
              have hlw := HXR.out.lt
              have hg5 : wr.grownBy (wr.setCells (w.heap.size + 1) 0 [.string p.head, .int .i64 0, .slice vA1 n1 vc1, .slice vA2 n2 vc2, .slice vA3 n3 vc3]) (some (w.heap.size + 1)) := grown_setL _ _ _ (World.grownBy.refl _ _)
              have r1 := HR1.out.kept hg5 (.inr (fun e => by have := HR1.out.lt _ e; omega))
              have r2 := HR2.out.kept hg5 (.inr (fun e => by have := HR2.out.lt _ e; omega))
              have r3 := HR3.out.kept hg5 (.inr (fun e => by have := HR3.out.lt _ e; omega))
              have hbl : Below w.heap.size w (wr.setCells (w.heap.size + 1) 0 [.string p.head, .int .i64 0, .slice vA1 n1 vc1, .slice vA2 n2 vc2, .slice vA3 n3 vc3]) := below_grown HXR.out.bl hg5 (by omega)
              have key : qRuleR (mask 0 w.heap.size (wr.setCells (w.heap.size + 1) 0 [.string p.head, .int .i64 0, .slice vA1 n1 vc1, .slice vA2 n2 vc2, .slice vA3 n3 vc3])) [.string p.head, .int .i64 0, .slice vA1 n1 vc1, .slice vA2 n2 vc2, .slice vA3 n3 vc3] (bareRule p) := by
                revert r1 r2 r3
                clear hg5 hbl
                generalize wr.setCells (w.heap.size + 1) 0 [.string p.head, .int .i64 0, .slice vA1 n1 vc1, .slice vA2 n2 vc2, .slice vA3 n3 vc3] = W
                intro r1 r2 r3
                have t1 : SlB 8 96 qFromR (mask 0 w.heap.size W) (.slice vA1 n1 vc1) (p.froms.map bareFrom) := ⟨slR_of_row (mask_own r1 (by omega)) ⟨HC1.out.1, HC1.out.2⟩ (by rw [List.length_map]; exact HL1.out), by rw [List.length_map]; exact HB1.out⟩
                have t2 : SlB 11 120 qAtomR (mask 0 w.heap.size W) (.slice vA2 n2 vc2) (p.where_.map bareAtom) := ⟨slR_of_row (mask_own r2 (by omega)) ⟨HC2.out.1, HC2.out.2⟩ (by rw [List.length_map]; exact HL2.out), by rw [List.length_map]; exact HB2.out⟩
                have t3 : SlB 7 80 qSetR (mask 0 w.heap.size W) (.slice vA3 n3 vc3) (p.sets.map bareSet) := ⟨slR_of_row (mask_own r3 (by omega)) ⟨HC3.out.1, HC3.out.2⟩ (by rw [List.length_map]; exact HL3.out), by rw [List.length_map]; exact HB3.out⟩
                exact ⟨vA1, n1, vc1, vA2, n2, vc2, vA3, n3, vc3, rfl, t1, t2, t3⟩
              refine ⟨rfl, .agg #[.string p.head, .int .i64 0, .slice vA1 n1 vc1, .slice vA2 n2 vc2, .slice vA3 n3 vc3], ?_, [.string p.head, .int .i64 0, .slice vA1 n1 vc1, .slice vA2 n2 vc2, .slice vA3 n3 vc3], rfl, key, hbl⟩
              simp [results, Try.results50, go_sem, *]
end Go.Proofs.Ytkkkephjljiplaa
