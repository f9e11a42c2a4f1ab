/- What stands while the reference numbers one element: three variables, a row of its own. Plain lemmas. -/
import Derived.Test.YtkkkephjljiplaaMgB
import Derived.Test.YtkkkephjljiplaaNmBareQ
import Derived.Test.YtkkkephjljiplaaMgA
import Derived.Test.YtkkkephjljiplaaHide
import Derived.Test.YtkkkephjljiplaaNmMeQ
import Derived.Test.YtkkkephjljiplaaNmBareT
import Derived.Test.YtkkkephjljiplaaWords
import Derived.Deep.RegionHeld3
import Derived.StillTail
namespace Go.Proofs.Ytkkkephjljiplaa
open Go.RowKit

/-- The source's variable, a variable x (i behind it) and the result's (j behind it). -/
structure XT (w0 : World) (ss : Array Value) (T : TypeId) (i : Nat) (xs : Array Value) (j : Nat) (zr : Array Value) (wr : World) : Prop where
  bl : Below w0.heap.size w0 wr
  s : Blk wr w0.heap.size 29 ss
  x : Blk wr (w0.heap.size + i) T xs
  r : Blk wr (w0.heap.size + j) T zr
section
variable {w0 wr wr' : World} {ss : Array Value} {T : TypeId} {xs zr : Array Value} {i j : Nat}
theorem XT.far (h : XT w0 ss T i xs j zr wr) {K : Nat} (hg : wr.grownBy wr' (some K)) (hi : i < 3) (hj : j < 3) (hK : w0.heap.size + 3 ≤ K) : XT w0 ss T i xs j zr wr' :=
  ⟨below_grown h.bl hg (by omega), blk_grown h.s hg (by omega), blk_grown h.x hg (by omega), blk_grown h.r hg (by omega)⟩
theorem XT.below (h : XT w0 ss T i xs j zr wr) (hb : Below wr.heap.size wr wr') : XT w0 ss T i xs j zr wr' :=
  ⟨h.bl.trans (hb.mono h.bl.size), h.s.below hb h.s.lt, h.x.below hb h.x.lt, h.r.below hb h.r.lt⟩
theorem XT.drew (h : XT w0 ss T i xs j zr wr) : XT w0 ss T i xs j zr wr.drew := ⟨h.bl.drew, h.s, h.x, h.r⟩
theorem XT.put (h : XT w0 ss T i xs j zr wr) (hi : 0 < i) (hij : j ≠ i) (o : Nat) (u : Value) : XT w0 ss T i (xs.setIfInBounds o u) j zr (wr.setCell ⟨w0.heap.size + i, o, none⟩ u) :=
  ⟨below_grown h.bl (grown_near (World.grownBy.refl _ _) _ _) (by omega), h.s.far (by simp; omega) u, h.x.put o u, h.r.far (by simp; omega) u⟩
theorem XT.lt (h : XT w0 ss T 1 xs 2 zr wr) : w0.heap.size + 3 ≤ wr.heap.size := h.r.lt
theorem XT.lt' (h : XT w0 ss T 2 xs 1 zr wr) : w0.heap.size + 3 ≤ wr.heap.size := h.x.lt
theorem XT.new (w : World) (ss : Array Value) (T : TypeId) (xs zr : Array Value) : XT w ss T 1 xs 2 zr (((w.alloc (.cells ss 29)).alloc (.cells xs T)).alloc (.cells zr T)) :=
  ⟨(((Below.refl _ _).alloc (Nat.le_refl _) _).alloc (by simp) _).alloc (by simp; omega) _, ((Blk.new _ _ _).alloc _).alloc _, (by simpa using (Blk.new (w.alloc (.cells ss 29)) T xs).alloc (.cells zr T)), by simpa using Blk.new ((w.alloc (.cells ss 29)).alloc (.cells xs T)) T zr⟩
theorem XT.new' (w : World) (ss : Array Value) (T : TypeId) (xs zr : Array Value) : XT w ss T 2 xs 1 zr (((w.alloc (.cells ss 29)).alloc (.cells zr T)).alloc (.cells xs T)) :=
  ⟨(((Below.refl _ _).alloc (Nat.le_refl _) _).alloc (by simp) _).alloc (by simp; omega) _, ((Blk.new _ _ _).alloc _).alloc _, (by simpa using Blk.new ((w.alloc (.cells ss 29)).alloc (.cells zr T)) T xs), (by simpa using (Blk.new (w.alloc (.cells ss 29)) T zr).alloc (.cells xs T))⟩
end

/-- An element with its numbers, and whether all names mean something. -/
def RetPair {α : Type} (R : World → List Value → α → Prop) (lo : Nat) (y : α) (ok : Bool) (w : World) (e : Ending) (w' : World) : Prop :=
  ∃ cs : List Value, e = .returned (.tuple #[.agg cs.toArray, .bool ok]) ∧ R (mask lo w.heap.size w') cs y ∧ Below w.heap.size w w'

theorem put_ne {w : World} {H o b p : Nat} {u v : Value} (h : w.cell? ⟨b, p, none⟩ = some v) (hne : b ≠ H ∨ p ≠ o) : (w.setCell ⟨H, o, none⟩ u).cell? ⟨b, p, none⟩ = some v := by
  rw [World.cell?_setCell_other _ _ _ _ (fun e => by injection e with e1 e2; rcases hne with h | h <;> omega)]
  exact h
theorem putL_ne {w : World} {H o b p : Nat} {vs : List Value} {v : Value} (h : w.cell? ⟨b, p, none⟩ = some v) (hne : b ≠ H ∨ p < o ∨ o + vs.length ≤ p) : (w.setCells H o vs).cell? ⟨b, p, none⟩ = some v := by
  rw [World.cell?_setCells_out H vs o w ⟨b, p, none⟩ (fun e _ => by rcases hne with h | h; exact absurd e h; exact h)]
  exact h
theorem grownb_put {w X : World} {H : Nat} (h : Below w.heap.size w X) (o : Nat) (u : Value) : w.grownBy (X.setCell ⟨H, o, none⟩ u) (some H) := grown_near (grown_of_below h _) o u
theorem grownb_putL {w X : World} {H : Nat} (h : Below w.heap.size w X) (o : Nat) (vs : List Value) : w.grownBy (X.setCells H o vs) (some H) := grown_setL vs o X (grown_of_below h _)

/-- What is read with the blocks from lo on hidden is read with some of them hidden. -/
theorem mask_some {lo M b : Nat} {w : World} (h1 : lo ≤ b) (h2 : b < M) : mask lo M (mask b (b + 1) w) = mask lo M w := by
  unfold mask
  congr 1
  apply Array.ext
  · simp
  · intro i hi1 hi2
    simp only [Array.getElem_mapIdx]
    by_cases hi : lo ≤ i ∧ i < M
    · rw [if_pos hi, if_pos hi]
    · rw [if_neg hi, if_neg hi, if_neg (by omega)]
theorem mask_hideL {lo M : Nat} {w : World} : ∀ S : List Nat, (∀ b ∈ S, lo ≤ b ∧ b < M) → mask lo M (hideL S w) = mask lo M w
  | [], _ => rfl
  | b :: S, h => by
    rw [hideL, mask_some (h b (by simp)).1 (h b (by simp)).2]
    exact mask_hideL S (fun x hx => h x (by simp [hx]))
theorem new_hideL {α : Type} {R : World → List Value → α → Prop} (hR : Unm R) {lo M : Nat} {w : World} {S : List Nat} (h : ∀ b ∈ S, lo ≤ b ∧ b < M) {cs : List Value} {x : α} (hr : R (mask lo M w) cs x) : R (hideL S w) cs x := by
  rw [← mask_hideL S h] at hr
  exact hR _ _ _ _ _ hr

theorem all_snoc {α : Type} {f : α → Bool} {l : List α} {k : Nat} {x : α} (hx : l[k]? = some x) : (l.take (k + 1)).all f = ((l.take k).all f && f x) := by
  rw [take_snoc hx, List.all_append]
  simp
theorem move_put3 {w : World} {cs : List Value} {l : List QMove} {k : Nat} {u : QMove} (h : CellsR 5 qMoveR w cs l) (hk : l[k]? = some u) (a : Int) : CellsR 5 qMoveR w (cs.set (k * 5 + 3) (.int .i64 a)) (l.set k { u with a := a }) :=
  h.put (by omega) (List.getElem?_eq_some_iff.1 hk).1 (by
    have : chunk cs 5 k = _ := h.chunk hk
    rw [this]; rfl)
theorem move_put2 {w : World} {cs : List Value} {l : List QMove} {k : Nat} {u : QMove} (h : CellsR 5 qMoveR w cs l) (hk : l[k]? = some u) (a : Int) : CellsR 5 qMoveR w (cs.set (k * 5 + 2) (.int .i64 a)) (l.set k { u with b := a }) :=
  h.put (by omega) (List.getElem?_eq_some_iff.1 hk).1 (by
    have : chunk cs 5 k = _ := h.chunk hk
    rw [this]; rfl)
/-- A code that goes on in one form of frame, whatever list it has made on its way. -/
def ViaS (F : Option Addr → Nat → Act) (G : World → Prop) : Exit → Act → World → Prop
  | .normal, a', w' => ∃ x y, a' = F x y ∧ G w'
  | _, _, _ => False
theorem wp_viaS {P : Program} {c : Code} {Q : Exit → Act → World → Prop} {a : Act} {w : World} (F : Option Addr → Nat → Act) (G : World → Prop) (h1 : c.wp P (ViaS F G) a w) (h2 : ∀ x y w', G w' → Q .normal (F x y) w') : c.wp P Q a w :=
  Code.wp_mono (fun e a' w' h => by
    cases e with
    | normal => obtain ⟨x, y, rfl, hg⟩ := h; exact h2 x y w' hg
    | _ => exact h.elim) h1
end Go.Proofs.Ytkkkephjljiplaa

namespace Go.Proofs.Ytkkkephjljiplaa
open Go.RowKit

set_option maxHeartbeats 4000000 in
set_option maxRecDepth 100000 in
theorem refPurposeX_any (A1 A2 A3 A4 A5 A6 : Option Addr) (n1 c1 n2 c2 n3 c3 n4 c4 n5 c5 n6 c6 : Nat) (A : Option Addr) (n c : Nat) (s : QSource) (p : QPurpose) (w : World) (hs : qSourceR w [.slice A1 n1 c1, .slice A2 n2 c2, .slice A3 n3 c3, .slice A4 n4 c4, .slice A5 n5 c5, .slice A6 n6 c6] s) (hp : SlB 4 48 qRefR w (.slice A n c) p.may) :
    Calls Try.prog 44 #[.agg #[.slice A1 n1 c1, .slice A2 n2 c2, .slice A3 n3 c3, .slice A4 n4 c4, .slice A5 n5 c5, .slice A6 n6 c6], .agg #[.string p.name, .slice A n c, .int .i64 p.most]] w (RetPair qPurposeR 0 (purposeQ s p) (purposeOk s p) w) := by
  have HS := Lib.hid hs
  have HL1 := Lib.hid hp.1.len
  have HB1 := Lib.hid hp.2
  have H1 := Lib.hid hp.1
  clear hs hp
  obtain ⟨j1, i1, z10, z11, z12⟩ := info_parts Try.infoRef
  have I1 := Lib.hid i1
  have Z1 := Lib.hid (And.intro z10 (And.intro z11 z12))
  clear i1 z10 z11 z12
  go_enter Try.func44, Try.ntmps44
  go_upto_region 2 with fail
  have hxt := XT.new w #[.slice A1 n1 c1, .slice A2 n2 c2, .slice A3 n3 c3, .slice A4 n4 c4, .slice A5 n5 c5, .slice A6 n6 c6] 74 #[.string p.name, .slice A n c, .int .i64 p.most] #[.string ⟨#[]⟩, .slice none 0 0, .int .i64 0]
  generalize ((w.alloc (.cells #[.slice A1 n1 c1, .slice A2 n2 c2, .slice A3 n3 c3, .slice A4 n4 c4, .slice A5 n5 c5, .slice A6 n6 c6] 29)).alloc (.cells #[.string p.name, .slice A n c, .int .i64 p.most] 74)).alloc (.cells #[.string ⟨#[]⟩, .slice none 0 0, .int .i64 0] 74) = wa at hxt ⊢
  have q2 := hxt.x.cell 1
  simp only [List.getElem?_toArray, List.getElem?_cons_zero, List.getElem?_cons_succ] at q2
  have lx := hxt.x.lt
  have HXR := Lib.hid hxt
  clear hxt
  go_wp2_with (at_builtin; refine wpList_append_row _ rfl (.tmp 8) (.tmp 10) 72 76 rfl j1 _ 48 Try.underlying72 I1.out Z1.out.1 Z1.out.2.1 Z1.out.2.2 rfl (by decide) (R := fun _ => qRefR w) (fun _ => qRefR_one w) wa.heap.size (.slice (some ⟨wa.heap.size, 0, none⟩) 0 0) 0 [] rfl (World.ownsRow_lit wa #[] 0 (Nat.le_refl _) (Nat.zero_le _) rfl) A n c p.may rfl (H1.out.fix (HXR.out.bl.alloc HXR.out.bl.size _)) (by have := HB1.out; have := HL1.out; unfold maxLen; omega) (by have := HB1.out; have := HL1.out; omega) (by simp) ?_
               intro v1 w1 cs1 hcs1 ho1 hgr1 hat1
               have hcs1 : CellsR 4 qRefR w cs1 p.may := ⟨hcs1.1, hcs1.2⟩
               have hb1 : Below wa.heap.size wa w1 := ((Below.refl _ _).alloc (Nat.le_refl _) _).grown hgr1 (by simp) (by simp [Value.ownBlock])
               obtain ⟨vA1, vn, vc1, rfl, hvn⟩ := own_form' ho1
               have hx1 := HXR.out.below hb1
               have q21 := hx1.x.cell 1
               have f21 := hx1.x.frozen 1
               simp only [List.getElem?_toArray, List.getElem?_cons_zero, List.getElem?_cons_succ] at q21
               have lx1 := hx1.x.lt
               have HX1 := Lib.hid hx1
               have HO1 := Lib.hid ho1
               have HC1 := Lib.hid hcs1
               have HBW1 := Lib.hid hb1
               have HVN := Lib.hid hvn
               clear hx1 ho1 hcs1 hb1 hgr1 hat1 hvn)
  obtain rfl : n = vn := by have := HVN.out; omega
  have hx2 := HX1.out.put (by omega) (by omega) 1 (.slice vA1 n vc1)
  simp only [List.setIfInBounds_toArray, List.set_cons_zero, List.set_cons_succ] at hx2
  have ho2 : (w1.setCell ⟨w.heap.size + 1, 1, none⟩ (.slice vA1 n vc1)).ownsRow wa.heap.size 76 4 (.slice vA1 n vc1) n cs1 := by
    have := HO1.out
    rw [Nat.zero_add, List.nil_append] at this
    exact own_far this (by have := HXR.out.x.lt; simpa using this) _
  generalize w1.setCell ⟨w.heap.size + 1, 1, none⟩ (.slice vA1 n vc1) = w2 at hx2 ho2 ⊢
  have HX2 := Lib.hid hx2
  have HO2 := Lib.hid ho2
  have hwa := HXR.out.lt
  clear hx2 ho2 q2 lx q21 f21 lx1 HXR HX1 HO1 HBW1 HVN
  go_loopg [6, 7] n (fun q o j wr => ∃ (k : Nat) (cr : List Value), k ≤ n ∧ q = n - k ∧ o = .bool ((p.may.take k).all (refOk s)) ∧ j = .int .i64 k ∧ XT w #[.slice A1 n1 c1, .slice A2 n2 c2, .slice A3 n3 c3, .slice A4 n4 c4, .slice A5 n5 c5, .slice A6 n6 c6] 74 1 #[.string p.name, .slice vA1 n vc1, .int .i64 p.most] 2 #[.string ⟨#[]⟩, .slice none 0 0, .int .i64 0] wr ∧
      wr.ownsRow wa.heap.size 76 4 (.slice vA1 n vc1) n cr ∧ CellsR 4 qRefR w cr ((p.may.take k).map (refQ s) ++ p.may.drop k))
  case atStart => exact ⟨0, cs1, Nat.zero_le _, rfl, rfl, rfl, HX2.out, HO2.out, HC1.out⟩
  case round =>
    clear HX2 HO2 HC1
    obtain ⟨k, cr, hk, hq, rfl, rfl, hxr, hoh, hcr⟩ := hrel
    have HQ := Lib.hid hq
    clear hq
    obtain ⟨ob, hob⟩ : ∃ b, b = (p.may.take k).all (refOk s) := ⟨_, rfl⟩
    rw [← hob]
    have HOB := Lib.hid hob
    clear hob
    have g2 := hxr.x.cell 1
    simp only [List.getElem?_toArray, List.getElem?_cons_zero, List.getElem?_cons_succ] at g2
    have lx := hxr.x.lt
    by_cases hlt : k < n
    · rcases own_row hoh with ⟨h, h0⟩ | ⟨H, hcap, h, hH, hHw, hn2⟩
      · exfalso; injection h with _ h; omega
      injection h with h1 h2 h3
      subst h1 h3
      clear h2
      obtain ⟨m, hm⟩ : ∃ m, p.may[k]? = some m := ⟨p.may[k]'(by have := HL1.out; omega), List.getElem?_eq_getElem _⟩
      have hat := take_map_at (f := refQ s) hm
      have HM := Lib.hid hm
      have hkl : k < ((p.may.take k).map (refQ s) ++ p.may.drop k).length := (List.getElem?_eq_some_iff.1 hat).1
      have HKL := Lib.hid hkl
      have hkn : (k : Int) < (n : Int) := by omega
      have hk0 : (0 : Int) ≤ (k : Int) := by omega
      have HXQ := Lib.hid hxr
      have HOQ := Lib.hid hoh
      have HCQ := Lib.hid hcr
      have HATK := Lib.hid hat
      clear hm hkl hxr hoh hcr hat g2 lx
      obtain ⟨wq, rfl⟩ : ∃ x, x = wr := ⟨_, rfl⟩
      obtain ⟨cq, rfl⟩ : ∃ x, x = cr := ⟨_, rfl⟩
      obtain ⟨k0, k1, k2, k3, k4, k5⟩ := six_cells HXQ.out.s (Below.refl _ _)
      have lk := HXQ.out.s.lt
      have g2 := HXQ.out.x.cell 1
      simp only [List.getElem?_toArray, List.getElem?_cons_zero, List.getElem?_cons_succ] at g2
      have lx := HXQ.out.x.lt
      have lH := own_lt HOQ.out
      have hck : chunk cq 4 k = _ := HCQ.out.chunk HATK.out
      have e0 := own_cell HOQ.out hlt (by omega) hck (j := 0) rfl
      have e1 := own_cell HOQ.out hlt (by omega) hck (j := 1) rfl
      have e2 := own_cell HOQ.out hlt (by omega) hck (j := 2) rfl
      have e3 := own_cell HOQ.out hlt (by omega) hck (j := 3) rfl
      simp only [Nat.add_zero] at e0
      clear hck
      have HSP := Lib.hid (src_parts (qSourceR_mono _ _ HXQ.out.bl.drew _ _ HS.out)).2.2.1
      have HSQ := Lib.hid HSP.out.1
      go_upto_region 6 with fail
      have HKT : Hid (∀ X : World, Below wq.heap.size wq X → (X.cell? ⟨w.heap.size, 0, none⟩ = some (.slice A1 n1 c1) ∧ X.cell? ⟨w.heap.size, 1, none⟩ = some (.slice A2 n2 c2) ∧ X.cell? ⟨w.heap.size, 2, none⟩ = some (.slice A3 n3 c3) ∧ X.cell? ⟨w.heap.size, 3, none⟩ = some (.slice A4 n4 c4) ∧ X.cell? ⟨w.heap.size, 4, none⟩ = some (.slice A5 n5 c5) ∧ X.cell? ⟨w.heap.size, 5, none⟩ = some (.slice A6 n6 c6) ∧ X.cell? ⟨w.heap.size + 1, 1, none⟩ = some (.slice (some ⟨H, 0, none⟩) n vc1) ∧ X.cell? ⟨H, k * 4, none⟩ = some (.string m.name) ∧ wq.grownBy X (some (H))) ∧ ((X.setCell ⟨H, k * 4 + 2, none⟩ (.int .i64 (idxO (schemaNames s) m.name))).cell? ⟨w.heap.size, 0, none⟩ = some (.slice A1 n1 c1) ∧ (X.setCell ⟨H, k * 4 + 2, none⟩ (.int .i64 (idxO (schemaNames s) m.name))).cell? ⟨w.heap.size, 1, none⟩ = some (.slice A2 n2 c2) ∧ (X.setCell ⟨H, k * 4 + 2, none⟩ (.int .i64 (idxO (schemaNames s) m.name))).cell? ⟨w.heap.size, 2, none⟩ = some (.slice A3 n3 c3) ∧ (X.setCell ⟨H, k * 4 + 2, none⟩ (.int .i64 (idxO (schemaNames s) m.name))).cell? ⟨w.heap.size, 3, none⟩ = some (.slice A4 n4 c4) ∧ (X.setCell ⟨H, k * 4 + 2, none⟩ (.int .i64 (idxO (schemaNames s) m.name))).cell? ⟨w.heap.size, 4, none⟩ = some (.slice A5 n5 c5) ∧ (X.setCell ⟨H, k * 4 + 2, none⟩ (.int .i64 (idxO (schemaNames s) m.name))).cell? ⟨w.heap.size, 5, none⟩ = some (.slice A6 n6 c6) ∧ (X.setCell ⟨H, k * 4 + 2, none⟩ (.int .i64 (idxO (schemaNames s) m.name))).cell? ⟨w.heap.size + 1, 1, none⟩ = some (.slice (some ⟨H, 0, none⟩) n vc1) ∧ (X.setCell ⟨H, k * 4 + 2, none⟩ (.int .i64 (idxO (schemaNames s) m.name))).cell? ⟨H, k * 4, none⟩ = some (.string m.name) ∧ wq.grownBy (X.setCell ⟨H, k * 4 + 2, none⟩ (.int .i64 (idxO (schemaNames s) m.name))) (some (H)))) := Lib.hid (fun X hX => ⟨⟨(hX.cell (p := ⟨w.heap.size, 0, none⟩) lk).trans k0, (hX.cell (p := ⟨w.heap.size, 1, none⟩) lk).trans k1, (hX.cell (p := ⟨w.heap.size, 2, none⟩) lk).trans k2, (hX.cell (p := ⟨w.heap.size, 3, none⟩) lk).trans k3, (hX.cell (p := ⟨w.heap.size, 4, none⟩) lk).trans k4, (hX.cell (p := ⟨w.heap.size, 5, none⟩) lk).trans k5, (hX.cell (p := ⟨w.heap.size + 1, 1, none⟩) lx).trans g2, (hX.cell (p := ⟨H, k * 4, none⟩) lH).trans e0, grown_of_below hX _⟩, ⟨put_ne ((hX.cell (p := ⟨w.heap.size, 0, none⟩) lk).trans k0) (.inl (by omega)), put_ne ((hX.cell (p := ⟨w.heap.size, 1, none⟩) lk).trans k1) (.inl (by omega)), put_ne ((hX.cell (p := ⟨w.heap.size, 2, none⟩) lk).trans k2) (.inl (by omega)), put_ne ((hX.cell (p := ⟨w.heap.size, 3, none⟩) lk).trans k3) (.inl (by omega)), put_ne ((hX.cell (p := ⟨w.heap.size, 4, none⟩) lk).trans k4) (.inl (by omega)), put_ne ((hX.cell (p := ⟨w.heap.size, 5, none⟩) lk).trans k5) (.inl (by omega)), put_ne ((hX.cell (p := ⟨w.heap.size + 1, 1, none⟩) lx).trans g2) (.inl (by omega)), put_ne ((hX.cell (p := ⟨H, k * 4, none⟩) lH).trans e0) (.inr (by omega)), grownb_put hX _ _⟩⟩)
      apply wp_viaS (G := fun w3 => ∃ w1, Below wq.heap.size wq w1 ∧ w3 = w1.setCell ⟨H, k * 4 + 2, none⟩ (.int .i64 (idxO (schemaNames s) m.name)))
      · go_region_held3 (fun w' => w'.cell? ⟨w.heap.size, 0, none⟩ = some (.slice A1 n1 c1) ∧ w'.cell? ⟨w.heap.size, 1, none⟩ = some (.slice A2 n2 c2) ∧ w'.cell? ⟨w.heap.size, 2, none⟩ = some (.slice A3 n3 c3) ∧ w'.cell? ⟨w.heap.size, 3, none⟩ = some (.slice A4 n4 c4) ∧ w'.cell? ⟨w.heap.size, 4, none⟩ = some (.slice A5 n5 c5) ∧ w'.cell? ⟨w.heap.size, 5, none⟩ = some (.slice A6 n6 c6) ∧ w'.cell? ⟨w.heap.size + 1, 1, none⟩ = some (.slice (some ⟨H, 0, none⟩) n vc1) ∧ w'.cell? ⟨H, k * 4, none⟩ = some (.string m.name) ∧ wq.grownBy w' (some (H)))
          (first | exact (HKT.out _ HBC.out).1 | exact (HKT.out _ HBC.out).2 | exact (HKT.out _ (Below.refl _ _).drew).1 | exact (HKT.out _ (Below.refl _ _)).1)
          (first
            | (go_at_call 54; ((with_reducible refine (refFind_any _ _ _ (schemaNames s) (m.name) _ HSL.out).mono ?_)); rintro e w' ⟨rfl, rfl⟩)
            | (go_at_call 55; ((with_reducible refine (refSchemas_any A1 A2 A3 A4 A5 A6 n1 c1 n2 c2 n3 c3 n4 c4 n5 c5 n6 c6 s _ HSP.out).mono ?_)); rintro e wc ⟨xA, xc, rfl, hsl, hbc⟩
               have hbz : Below wq.heap.size wq wc := Below.trans (Below.refl _ _).drew hbc
               have HSL := Lib.hid hsl.1
               have HBC := Lib.hid hbz
               have rs := (hbz.cell (p := ⟨H, k * 4 + 2, none⟩) lH).trans e2
               have fs := (own_below0 HOQ.out hbz).frozenAt (k * 4 + 2)
               have lz := Nat.lt_of_lt_of_le lH hbz.size
               clear hsl hbc hbz))
        all_goals exact ⟨xA, xc, rfl, _, HBC.out, rfl⟩
      rintro xA xc w3 ⟨w1, hb1, rfl⟩
      clear HKT
      have hgn : w1.grownBy (w1.setCell ⟨H, k * 4 + 2, none⟩ (.int .i64 (idxO (schemaNames s) m.name))) (some H) := grown_near (World.grownBy.refl _ _) _ _
      have hxn := (HXQ.out.below hb1).far (K := H) hgn (by omega) (by omega) (by omega)
      have hon := ((own_below0 HOQ.out hb1).stored (k * 4 + 2) (.int .i64 (idxO (schemaNames s) m.name))).1
      have hcn := ref_put HCQ.out HATK.out (idxO (schemaNames s) m.name)
      generalize w1.setCell ⟨H, k * 4 + 2, none⟩ (.int .i64 (idxO (schemaNames s) m.name)) = wq2 at hxn hon ⊢
      clear hb1 HSP HSQ hgn k0 k1 k2 k3 k4 k5 lk g2 lx lH e0 e1 e2 e3
      have hatk : (((p.may.take k).map (refQ s) ++ p.may.drop k).set k { m with schema := idxO (schemaNames s) m.name })[k]? = some { m with schema := idxO (schemaNames s) m.name } := List.getElem?_set_self HKL.out
      generalize cq.set (k * 4 + 2) (.int .i64 (idxO (schemaNames s) m.name)) = cq2 at hon hcn
      clear HXQ HOQ HCQ HATK
      have HXQ := Lib.hid hxn
      have HOQ := Lib.hid hon
      have HCQ := Lib.hid hcn
      have HATK := Lib.hid hatk
      clear hxn hon hcn hatk
      obtain ⟨wq, rfl⟩ : ∃ x, x = wq2 := ⟨_, rfl⟩
      obtain ⟨cq, rfl⟩ : ∃ x, x = cq2 := ⟨_, rfl⟩
      obtain ⟨k0, k1, k2, k3, k4, k5⟩ := six_cells HXQ.out.s (Below.refl _ _)
      have lk := HXQ.out.s.lt
      have g2 := HXQ.out.x.cell 1
      simp only [List.getElem?_toArray, List.getElem?_cons_zero, List.getElem?_cons_succ] at g2
      have lx := HXQ.out.x.lt
      have lH := own_lt HOQ.out
      have hck : chunk cq 4 k = _ := HCQ.out.chunk HATK.out
      have e0 := own_cell HOQ.out hlt (by omega) hck (j := 0) rfl
      have e1 := own_cell HOQ.out hlt (by omega) hck (j := 1) rfl
      have e2 := own_cell HOQ.out hlt (by omega) hck (j := 2) rfl
      have e3 := own_cell HOQ.out hlt (by omega) hck (j := 3) rfl
      simp only [Nat.add_zero] at e0
      clear hck
      have HSP := Lib.hid (src_parts (qSourceR_mono _ _ HXQ.out.bl.drew _ _ HS.out)).2.2.1
      have HSQ := Lib.hid HSP.out.1
      go_upto_region 7 with fail
      have HKT : Hid (∀ X : World, Below wq.heap.size wq X → (X.cell? ⟨w.heap.size, 0, none⟩ = some (.slice A1 n1 c1) ∧ X.cell? ⟨w.heap.size, 1, none⟩ = some (.slice A2 n2 c2) ∧ X.cell? ⟨w.heap.size, 2, none⟩ = some (.slice A3 n3 c3) ∧ X.cell? ⟨w.heap.size, 3, none⟩ = some (.slice A4 n4 c4) ∧ X.cell? ⟨w.heap.size, 4, none⟩ = some (.slice A5 n5 c5) ∧ X.cell? ⟨w.heap.size, 5, none⟩ = some (.slice A6 n6 c6) ∧ X.cell? ⟨w.heap.size + 1, 1, none⟩ = some (.slice (some ⟨H, 0, none⟩) n vc1) ∧ X.cell? ⟨H, k * 4 + 1, none⟩ = some (.string m.path) ∧ X.cell? ⟨H, k * 4 + 2, none⟩ = some (.int .i64 (idxO (schemaNames s) m.name)) ∧ wq.grownBy X (some (H))) ∧ ((X.setCell ⟨H, k * 4 + 3, none⟩ (.int .i64 (idxO (fieldNo s (idxO (schemaNames s) m.name)) m.path))).cell? ⟨w.heap.size, 0, none⟩ = some (.slice A1 n1 c1) ∧ (X.setCell ⟨H, k * 4 + 3, none⟩ (.int .i64 (idxO (fieldNo s (idxO (schemaNames s) m.name)) m.path))).cell? ⟨w.heap.size, 1, none⟩ = some (.slice A2 n2 c2) ∧ (X.setCell ⟨H, k * 4 + 3, none⟩ (.int .i64 (idxO (fieldNo s (idxO (schemaNames s) m.name)) m.path))).cell? ⟨w.heap.size, 2, none⟩ = some (.slice A3 n3 c3) ∧ (X.setCell ⟨H, k * 4 + 3, none⟩ (.int .i64 (idxO (fieldNo s (idxO (schemaNames s) m.name)) m.path))).cell? ⟨w.heap.size, 3, none⟩ = some (.slice A4 n4 c4) ∧ (X.setCell ⟨H, k * 4 + 3, none⟩ (.int .i64 (idxO (fieldNo s (idxO (schemaNames s) m.name)) m.path))).cell? ⟨w.heap.size, 4, none⟩ = some (.slice A5 n5 c5) ∧ (X.setCell ⟨H, k * 4 + 3, none⟩ (.int .i64 (idxO (fieldNo s (idxO (schemaNames s) m.name)) m.path))).cell? ⟨w.heap.size, 5, none⟩ = some (.slice A6 n6 c6) ∧ (X.setCell ⟨H, k * 4 + 3, none⟩ (.int .i64 (idxO (fieldNo s (idxO (schemaNames s) m.name)) m.path))).cell? ⟨w.heap.size + 1, 1, none⟩ = some (.slice (some ⟨H, 0, none⟩) n vc1) ∧ (X.setCell ⟨H, k * 4 + 3, none⟩ (.int .i64 (idxO (fieldNo s (idxO (schemaNames s) m.name)) m.path))).cell? ⟨H, k * 4 + 1, none⟩ = some (.string m.path) ∧ (X.setCell ⟨H, k * 4 + 3, none⟩ (.int .i64 (idxO (fieldNo s (idxO (schemaNames s) m.name)) m.path))).cell? ⟨H, k * 4 + 2, none⟩ = some (.int .i64 (idxO (schemaNames s) m.name)) ∧ wq.grownBy (X.setCell ⟨H, k * 4 + 3, none⟩ (.int .i64 (idxO (fieldNo s (idxO (schemaNames s) m.name)) m.path))) (some (H)))) := Lib.hid (fun X hX => ⟨⟨(hX.cell (p := ⟨w.heap.size, 0, none⟩) lk).trans k0, (hX.cell (p := ⟨w.heap.size, 1, none⟩) lk).trans k1, (hX.cell (p := ⟨w.heap.size, 2, none⟩) lk).trans k2, (hX.cell (p := ⟨w.heap.size, 3, none⟩) lk).trans k3, (hX.cell (p := ⟨w.heap.size, 4, none⟩) lk).trans k4, (hX.cell (p := ⟨w.heap.size, 5, none⟩) lk).trans k5, (hX.cell (p := ⟨w.heap.size + 1, 1, none⟩) lx).trans g2, (hX.cell (p := ⟨H, k * 4 + 1, none⟩) lH).trans e1, (hX.cell (p := ⟨H, k * 4 + 2, none⟩) lH).trans e2, grown_of_below hX _⟩, ⟨put_ne ((hX.cell (p := ⟨w.heap.size, 0, none⟩) lk).trans k0) (.inl (by omega)), put_ne ((hX.cell (p := ⟨w.heap.size, 1, none⟩) lk).trans k1) (.inl (by omega)), put_ne ((hX.cell (p := ⟨w.heap.size, 2, none⟩) lk).trans k2) (.inl (by omega)), put_ne ((hX.cell (p := ⟨w.heap.size, 3, none⟩) lk).trans k3) (.inl (by omega)), put_ne ((hX.cell (p := ⟨w.heap.size, 4, none⟩) lk).trans k4) (.inl (by omega)), put_ne ((hX.cell (p := ⟨w.heap.size, 5, none⟩) lk).trans k5) (.inl (by omega)), put_ne ((hX.cell (p := ⟨w.heap.size + 1, 1, none⟩) lx).trans g2) (.inl (by omega)), put_ne ((hX.cell (p := ⟨H, k * 4 + 1, none⟩) lH).trans e1) (.inr (by omega)), put_ne ((hX.cell (p := ⟨H, k * 4 + 2, none⟩) lH).trans e2) (.inr (by omega)), grownb_put hX _ _⟩⟩)
      apply wp_viaS (G := fun w3 => ∃ w1, Below wq.heap.size wq w1 ∧ w3 = w1.setCell ⟨H, k * 4 + 3, none⟩ (.int .i64 (idxO (fieldNo s (idxO (schemaNames s) m.name)) m.path)))
      · go_region_held3 (fun w' => w'.cell? ⟨w.heap.size, 0, none⟩ = some (.slice A1 n1 c1) ∧ w'.cell? ⟨w.heap.size, 1, none⟩ = some (.slice A2 n2 c2) ∧ w'.cell? ⟨w.heap.size, 2, none⟩ = some (.slice A3 n3 c3) ∧ w'.cell? ⟨w.heap.size, 3, none⟩ = some (.slice A4 n4 c4) ∧ w'.cell? ⟨w.heap.size, 4, none⟩ = some (.slice A5 n5 c5) ∧ w'.cell? ⟨w.heap.size, 5, none⟩ = some (.slice A6 n6 c6) ∧ w'.cell? ⟨w.heap.size + 1, 1, none⟩ = some (.slice (some ⟨H, 0, none⟩) n vc1) ∧ w'.cell? ⟨H, k * 4 + 1, none⟩ = some (.string m.path) ∧ w'.cell? ⟨H, k * 4 + 2, none⟩ = some (.int .i64 (idxO (schemaNames s) m.name)) ∧ wq.grownBy w' (some (H)))
          (first | exact (HKT.out _ HBC.out).1 | exact (HKT.out _ HBC.out).2 | exact (HKT.out _ (Below.refl _ _).drew).1 | exact (HKT.out _ (Below.refl _ _)).1)
          (first
            | (go_at_call 54; ((with_reducible refine (refFind_any _ _ _ (fieldNo s (idxO (schemaNames s) m.name)) (m.path) _ HSL.out).mono ?_)); rintro e w' ⟨rfl, rfl⟩)
            | (go_at_call 61; ((with_reducible refine (refFields_any A1 A2 A3 A4 A5 A6 n1 c1 n2 c2 n3 c3 n4 c4 n5 c5 n6 c6 s (idxO (schemaNames s) m.name) _ HSQ.out).mono ?_)); rintro e wc ⟨xA, xc, rfl, hsl, hbc⟩
               have hbz : Below wq.heap.size wq wc := Below.trans (Below.refl _ _).drew hbc
               have HSL := Lib.hid hsl.1
               have HBC := Lib.hid hbz
               have rs := (hbz.cell (p := ⟨H, k * 4 + 3, none⟩) lH).trans e3
               have fs := (own_below0 HOQ.out hbz).frozenAt (k * 4 + 3)
               have lz := Nat.lt_of_lt_of_le lH hbz.size
               clear hsl hbc hbz))
        all_goals exact ⟨xA, xc, rfl, _, HBC.out, rfl⟩
      rintro xA xc w3 ⟨w1, hb1, rfl⟩
      clear HKT
      have hgn : w1.grownBy (w1.setCell ⟨H, k * 4 + 3, none⟩ (.int .i64 (idxO (fieldNo s (idxO (schemaNames s) m.name)) m.path))) (some H) := grown_near (World.grownBy.refl _ _) _ _
      have hxn := (HXQ.out.below hb1).far (K := H) hgn (by omega) (by omega) (by omega)
      have hon := ((own_below0 HOQ.out hb1).stored (k * 4 + 3) (.int .i64 (idxO (fieldNo s (idxO (schemaNames s) m.name)) m.path))).1
      have hcn := ref_put3 HCQ.out HATK.out (idxO (fieldNo s (idxO (schemaNames s) m.name)) m.path)
      generalize w1.setCell ⟨H, k * 4 + 3, none⟩ (.int .i64 (idxO (fieldNo s (idxO (schemaNames s) m.name)) m.path)) = wq2 at hxn hon ⊢
      clear hb1 HSP HSQ hgn k0 k1 k2 k3 k4 k5 lk g2 lx lH e0 e1 e2 e3
      rw [List.set_set, show ({ m with schema := idxO (schemaNames s) m.name, field := idxO (fieldNo s (idxO (schemaNames s) m.name)) m.path } : QRef) = refQ s m from rfl, take_map_snoc HM.out] at hcn
      generalize cq.set (k * 4 + 3) (.int .i64 (idxO (fieldNo s (idxO (schemaNames s) m.name)) m.path)) = cq2 at hon hcn
      clear HXQ HOQ HCQ HATK
      have HXQ := Lib.hid hxn
      have HOQ := Lib.hid hon
      have HCQ := Lib.hid hcn
      have HATK : Hid (((p.may.take (k + 1)).map (refQ s) ++ p.may.drop (k + 1))[k]? = some (refQ s m)) := Lib.hid (by
        rw [List.getElem?_append_left (by have := (List.getElem?_eq_some_iff.1 HM.out).1; simp; omega), List.getElem?_map, List.getElem?_take_of_lt (by omega), HM.out]; rfl)
      clear hxn hon hcn
      obtain ⟨wq, rfl⟩ : ∃ x, x = wq2 := ⟨_, rfl⟩
      obtain ⟨cq, rfl⟩ : ∃ x, x = cq2 := ⟨_, rfl⟩
      obtain ⟨k0, k1, k2, k3, k4, k5⟩ := six_cells HXQ.out.s (Below.refl _ _)
      have lk := HXQ.out.s.lt
      have g2 := HXQ.out.x.cell 1
      simp only [List.getElem?_toArray, List.getElem?_cons_zero, List.getElem?_cons_succ] at g2
      have lx := HXQ.out.x.lt
      have lH := own_lt HOQ.out
      have hck : chunk cq 4 k = _ := HCQ.out.chunk HATK.out
      have e0 := own_cell HOQ.out hlt (by omega) hck (j := 0) rfl
      have e1 := own_cell HOQ.out hlt (by omega) hck (j := 1) rfl
      have e2 := own_cell HOQ.out hlt (by omega) hck (j := 2) rfl
      have e3 := own_cell HOQ.out hlt (by omega) hck (j := 3) rfl
      simp only [Nat.add_zero] at e0
      clear hck
      cases ob with
      | false =>
        have HOK : Hid ((p.may.take (k + 1)).all (refOk s) = false) := Lib.hid (by rw [all_snoc HM.out, ← HOB.out]; unfold refOk; first | rfl | (simp; done) | (simp [*]; done) | (simp; omega))
        go_wp2_with fail
        go_roundg (n - (k + 1))
        case measure => have := HQ.out; omega
        case rel => exact ⟨k + 1, _, by omega, rfl, by rw [HOK.out], by go_num, HXQ.out, HOQ.out, HCQ.out⟩
      | true =>
        by_cases hv2 : (0 : Int) ≤ (refQ s m).schema
        · have dv2 : decide ((0 : Int) ≤ (refQ s m).schema) = true := by simpa using hv2
          by_cases hv1 : (0 : Int) ≤ (refQ s m).field
          · have dv1 : decide ((0 : Int) ≤ (refQ s m).field) = true := by simpa using hv1
            have HOK : Hid ((p.may.take (k + 1)).all (refOk s) = true) := Lib.hid (by rw [all_snoc HM.out, ← HOB.out]; unfold refOk; first | rfl | (simp; done) | (simp [*]; done) | (simp; omega))
            go_wp2_with fail
            go_roundg (n - (k + 1))
            case measure => have := HQ.out; omega
            case rel => exact ⟨k + 1, _, by omega, rfl, by rw [HOK.out], by go_num, HXQ.out, HOQ.out, HCQ.out⟩
          · have dv1 : decide ((0 : Int) ≤ (refQ s m).field) = false := by simpa using hv1
            have HOK : Hid ((p.may.take (k + 1)).all (refOk s) = false) := Lib.hid (by rw [all_snoc HM.out, ← HOB.out]; unfold refOk; first | rfl | (simp; done) | (simp [*]; done) | (simp; omega))
            go_wp2_with fail
            go_roundg (n - (k + 1))
            case measure => have := HQ.out; omega
            case rel => exact ⟨k + 1, _, by omega, rfl, by rw [HOK.out], by go_num, HXQ.out, HOQ.out, HCQ.out⟩
        · have dv2 : decide ((0 : Int) ≤ (refQ s m).schema) = false := by simpa using hv2
          have HOK : Hid ((p.may.take (k + 1)).all (refOk s) = false) := Lib.hid (by rw [all_snoc HM.out, ← HOB.out]; unfold refOk; first | rfl | (simp; done) | (simp [*]; done) | (simp; omega))
          go_wp2_with fail
          go_roundg (n - (k + 1))
          case measure => have := HQ.out; omega
          case rel => exact ⟨k + 1, _, by omega, rfl, by rw [HOK.out], by go_num, HXQ.out, HOQ.out, HCQ.out⟩
    · have hke : k = p.may.length := by have := HL1.out; omega
      rw [take_map_all hke] at hcr
      have HOK : Hid (ob = purposeOk s p) := Lib.hid (by rw [HOB.out, hke, List.take_length]; rfl)
      have HXR := Lib.hid hxr
      have HR1 := Lib.hid hoh
      have HC1 := Lib.hid hcr
      have y0 := hxr.x.cell 0
      have y1 := hxr.x.cell 1
      have y2 := hxr.x.cell 2
      have z0 := hxr.r.cell 0
      have z1 := hxr.r.cell 1
      have z2 := hxr.r.cell 2
      simp only [List.getElem?_toArray, List.getElem?_cons_zero, List.getElem?_cons_succ] at y0 y1 y2 z0 z1 z2
      have u0 := hxr.r.frozen 0
      have u1 := hxr.r.frozen 1
      have u2 := hxr.r.frozen 2
      have lz := hxr.r.lt
      clear hxr hoh hcr hke
      go_wp2_with fail
      have hlw := HXR.out.lt
      have hg5 : wr.grownBy (wr.setCells (w.heap.size + 2) 0 [.string p.name, .slice vA1 n vc1, .int .i64 p.most]) (some (w.heap.size + 2)) := grown_setL _ _ _ (World.grownBy.refl _ _)
      have r1 := HR1.out.kept hg5 (.inr (fun e => by have := HR1.out.lt _ e; omega))
      have hbl : Below w.heap.size w (wr.setCells (w.heap.size + 2) 0 [.string p.name, .slice vA1 n vc1, .int .i64 p.most]) := below_grown HXR.out.bl hg5 (by omega)
      have key : qPurposeR (mask 0 w.heap.size (wr.setCells (w.heap.size + 2) 0 [.string p.name, .slice vA1 n vc1, .int .i64 p.most])) [.string p.name, .slice vA1 n vc1, .int .i64 p.most] (purposeQ s p) := by
        revert r1
        clear hg5 hbl
        generalize wr.setCells (w.heap.size + 2) 0 [.string p.name, .slice vA1 n vc1, .int .i64 p.most] = W
        intro r1
        have t1 : SlB 4 48 qRefR (mask 0 w.heap.size W) (.slice vA1 n vc1) (p.may.map (refQ s)) := ⟨slR_of_row (mask_own r1 (by omega)) ⟨HC1.out.1, HC1.out.2⟩ (by rw [List.length_map]; exact HL1.out), by rw [List.length_map]; exact HB1.out⟩
        exact ⟨vA1, n, vc1, rfl, t1⟩
      refine ⟨rfl, .tuple #[.agg #[.string p.name, .slice vA1 n vc1, .int .i64 p.most], .bool ob], ?_, [.string p.name, .slice vA1 n vc1, .int .i64 p.most], by rw [HOK.out], key, hbl⟩
      simp [results, Try.results44, go_sem, *]

end Go.Proofs.Ytkkkephjljiplaa

namespace Go.Proofs.Ytkkkephjljiplaa
open Go.RowKit

set_option maxHeartbeats 4000000 in
set_option maxRecDepth 100000 in
theorem refConvertX_any (A1 A2 A3 A4 A5 A6 : Option Addr) (n1 c1 n2 c2 n3 c3 n4 c4 n5 c5 n6 c6 : Nat) (A : Option Addr) (n c : Nat) (s : QSource) (p : QConvert) (w : World) (hs : qSourceR w [.slice A1 n1 c1, .slice A2 n2 c2, .slice A3 n3 c3, .slice A4 n4 c4, .slice A5 n5 c5, .slice A6 n6 c6] s) (hp : SlB 5 56 qMoveR w (.slice A n c) p.moves) :
    Calls Try.prog 43 #[.agg #[.slice A1 n1 c1, .slice A2 n2 c2, .slice A3 n3 c3, .slice A4 n4 c4, .slice A5 n5 c5, .slice A6 n6 c6], .agg #[.string p.from_, .string p.to_, .int .i64 (p.a), .int .i64 (p.b), .slice A n c]] w (RetPair qConvertR 0 (convertQ s p) (convertOk s p) w) := by
  have HS := Lib.hid hs
  have HL1 := Lib.hid hp.1.len
  have HB1 := Lib.hid hp.2
  have H1 := Lib.hid hp.1
  clear hs hp
  obtain ⟨j1, i1, z10, z11, z12⟩ := info_parts Try.infoMove
  have I1 := Lib.hid i1
  have Z1 := Lib.hid (And.intro z10 (And.intro z11 z12))
  clear i1 z10 z11 z12
  go_enter Try.func43, Try.ntmps43
  go_upto_region 1 with fail
  have hxt := XT.new w #[.slice A1 n1 c1, .slice A2 n2 c2, .slice A3 n3 c3, .slice A4 n4 c4, .slice A5 n5 c5, .slice A6 n6 c6] 69 #[.string p.from_, .string p.to_, .int .i64 (p.a), .int .i64 (p.b), .slice A n c] #[.string ⟨#[]⟩, .string ⟨#[]⟩, .int .i64 0, .int .i64 0, .slice none 0 0]
  generalize ((w.alloc (.cells #[.slice A1 n1 c1, .slice A2 n2 c2, .slice A3 n3 c3, .slice A4 n4 c4, .slice A5 n5 c5, .slice A6 n6 c6] 29)).alloc (.cells #[.string p.from_, .string p.to_, .int .i64 (p.a), .int .i64 (p.b), .slice A n c] 69)).alloc (.cells #[.string ⟨#[]⟩, .string ⟨#[]⟩, .int .i64 0, .int .i64 0, .slice none 0 0] 69) = wq at hxt ⊢
  have HXQ := Lib.hid hxt
  clear hxt
  obtain ⟨k0, k1, k2, k3, k4, k5⟩ := six_cells HXQ.out.s (Below.refl _ _)
  have lk := HXQ.out.s.lt
  have lx := HXQ.out.x.lt
  have x0 := HXQ.out.x.cell 0
  have x1 := HXQ.out.x.cell 1
  have x2 := HXQ.out.x.cell 2
  have x3 := HXQ.out.x.cell 3
  simp only [List.getElem?_toArray, List.getElem?_cons_zero, List.getElem?_cons_succ] at x0 x1 x2 x3
  have HSP := Lib.hid (src_parts (qSourceR_mono _ _ HXQ.out.bl.drew _ _ HS.out)).2.2.1
  go_upto_region 1 with fail
  have HKT : Hid (∀ X : World, Below wq.heap.size wq X → (X.cell? ⟨w.heap.size, 0, none⟩ = some (.slice A1 n1 c1) ∧ X.cell? ⟨w.heap.size, 1, none⟩ = some (.slice A2 n2 c2) ∧ X.cell? ⟨w.heap.size, 2, none⟩ = some (.slice A3 n3 c3) ∧ X.cell? ⟨w.heap.size, 3, none⟩ = some (.slice A4 n4 c4) ∧ X.cell? ⟨w.heap.size, 4, none⟩ = some (.slice A5 n5 c5) ∧ X.cell? ⟨w.heap.size, 5, none⟩ = some (.slice A6 n6 c6) ∧ X.cell? ⟨w.heap.size + 1, 0, none⟩ = some (.string p.from_) ∧ wq.grownBy X (some (w.heap.size + 1))) ∧ ((X.setCell ⟨w.heap.size + 1, 2, none⟩ (.int .i64 (idxO (schemaNames s) p.from_))).cell? ⟨w.heap.size, 0, none⟩ = some (.slice A1 n1 c1) ∧ (X.setCell ⟨w.heap.size + 1, 2, none⟩ (.int .i64 (idxO (schemaNames s) p.from_))).cell? ⟨w.heap.size, 1, none⟩ = some (.slice A2 n2 c2) ∧ (X.setCell ⟨w.heap.size + 1, 2, none⟩ (.int .i64 (idxO (schemaNames s) p.from_))).cell? ⟨w.heap.size, 2, none⟩ = some (.slice A3 n3 c3) ∧ (X.setCell ⟨w.heap.size + 1, 2, none⟩ (.int .i64 (idxO (schemaNames s) p.from_))).cell? ⟨w.heap.size, 3, none⟩ = some (.slice A4 n4 c4) ∧ (X.setCell ⟨w.heap.size + 1, 2, none⟩ (.int .i64 (idxO (schemaNames s) p.from_))).cell? ⟨w.heap.size, 4, none⟩ = some (.slice A5 n5 c5) ∧ (X.setCell ⟨w.heap.size + 1, 2, none⟩ (.int .i64 (idxO (schemaNames s) p.from_))).cell? ⟨w.heap.size, 5, none⟩ = some (.slice A6 n6 c6) ∧ (X.setCell ⟨w.heap.size + 1, 2, none⟩ (.int .i64 (idxO (schemaNames s) p.from_))).cell? ⟨w.heap.size + 1, 0, none⟩ = some (.string p.from_) ∧ wq.grownBy (X.setCell ⟨w.heap.size + 1, 2, none⟩ (.int .i64 (idxO (schemaNames s) p.from_))) (some (w.heap.size + 1)))) := Lib.hid (fun X hX => ⟨⟨(hX.cell (p := ⟨w.heap.size, 0, none⟩) lk).trans k0, (hX.cell (p := ⟨w.heap.size, 1, none⟩) lk).trans k1, (hX.cell (p := ⟨w.heap.size, 2, none⟩) lk).trans k2, (hX.cell (p := ⟨w.heap.size, 3, none⟩) lk).trans k3, (hX.cell (p := ⟨w.heap.size, 4, none⟩) lk).trans k4, (hX.cell (p := ⟨w.heap.size, 5, none⟩) lk).trans k5, (hX.cell (p := ⟨w.heap.size + 1, 0, none⟩) lx).trans x0, grown_of_below hX _⟩, ⟨put_ne ((hX.cell (p := ⟨w.heap.size, 0, none⟩) lk).trans k0) (.inl (by omega)), put_ne ((hX.cell (p := ⟨w.heap.size, 1, none⟩) lk).trans k1) (.inl (by omega)), put_ne ((hX.cell (p := ⟨w.heap.size, 2, none⟩) lk).trans k2) (.inl (by omega)), put_ne ((hX.cell (p := ⟨w.heap.size, 3, none⟩) lk).trans k3) (.inl (by omega)), put_ne ((hX.cell (p := ⟨w.heap.size, 4, none⟩) lk).trans k4) (.inl (by omega)), put_ne ((hX.cell (p := ⟨w.heap.size, 5, none⟩) lk).trans k5) (.inl (by omega)), put_ne ((hX.cell (p := ⟨w.heap.size + 1, 0, none⟩) lx).trans x0) (.inr (by omega)), grownb_put hX _ _⟩⟩)
  apply wp_viaS (G := fun w3 => ∃ w1, Below wq.heap.size wq w1 ∧ w3 = w1.setCell ⟨w.heap.size + 1, 2, none⟩ (.int .i64 (idxO (schemaNames s) p.from_)))
  · go_region_held3 (fun w' => w'.cell? ⟨w.heap.size, 0, none⟩ = some (.slice A1 n1 c1) ∧ w'.cell? ⟨w.heap.size, 1, none⟩ = some (.slice A2 n2 c2) ∧ w'.cell? ⟨w.heap.size, 2, none⟩ = some (.slice A3 n3 c3) ∧ w'.cell? ⟨w.heap.size, 3, none⟩ = some (.slice A4 n4 c4) ∧ w'.cell? ⟨w.heap.size, 4, none⟩ = some (.slice A5 n5 c5) ∧ w'.cell? ⟨w.heap.size, 5, none⟩ = some (.slice A6 n6 c6) ∧ w'.cell? ⟨w.heap.size + 1, 0, none⟩ = some (.string p.from_) ∧ wq.grownBy w' (some (w.heap.size + 1)))
      (first | exact (HKT.out _ HBC.out).1 | exact (HKT.out _ HBC.out).2 | exact (HKT.out _ (Below.refl _ _).drew).1 | exact (HKT.out _ (Below.refl _ _)).1)
      (first
        | (go_at_call 54; ((with_reducible refine (refFind_any _ _ _ (schemaNames s) (p.from_) _ HSL.out).mono ?_)); rintro e w' ⟨rfl, rfl⟩)
        | (go_at_call 55; ((with_reducible refine (refSchemas_any A1 A2 A3 A4 A5 A6 n1 c1 n2 c2 n3 c3 n4 c4 n5 c5 n6 c6 s _ HSP.out).mono ?_)); rintro e wc ⟨xA, xc, rfl, hsl, hbc⟩
           have hbz : Below wq.heap.size wq wc := Below.trans (Below.refl _ _).drew hbc
           have HSL := Lib.hid hsl.1
           have HBC := Lib.hid hbz
           have rs := (hbz.cell (p := ⟨w.heap.size + 1, 2, none⟩) lx).trans x2
           have fs := ((HXQ.out.x.below hbz lx).frozen 2)
           have lz := Nat.lt_of_lt_of_le lx hbz.size
           clear hsl hbc hbz))
    all_goals exact ⟨xA, xc, rfl, _, HBC.out, rfl⟩
  rintro xA xc w3 ⟨w1, hb1, rfl⟩
  clear HKT
  have hxn := (HXQ.out.below hb1).put (by omega) (by omega) 2 (.int .i64 (idxO (schemaNames s) p.from_))
  simp only [List.setIfInBounds_toArray, List.set_cons_zero, List.set_cons_succ] at hxn
  generalize w1.setCell ⟨w.heap.size + 1, 2, none⟩ (.int .i64 (idxO (schemaNames s) p.from_)) = wq2 at hxn ⊢
  clear hb1 HSP k0 k1 k2 k3 k4 k5 lk lx x0 x1 x2 x3 HXQ
  have HXQ := Lib.hid hxn
  clear hxn
  obtain ⟨wq, rfl⟩ : ∃ x, x = wq2 := ⟨_, rfl⟩
  obtain ⟨k0, k1, k2, k3, k4, k5⟩ := six_cells HXQ.out.s (Below.refl _ _)
  have lk := HXQ.out.s.lt
  have lx := HXQ.out.x.lt
  have x0 := HXQ.out.x.cell 0
  have x1 := HXQ.out.x.cell 1
  have x2 := HXQ.out.x.cell 2
  have x3 := HXQ.out.x.cell 3
  simp only [List.getElem?_toArray, List.getElem?_cons_zero, List.getElem?_cons_succ] at x0 x1 x2 x3
  have HSP := Lib.hid (src_parts (qSourceR_mono _ _ HXQ.out.bl.drew _ _ HS.out)).2.2.1
  go_upto_region 2 with fail
  have HKT : Hid (∀ X : World, Below wq.heap.size wq X → (X.cell? ⟨w.heap.size, 0, none⟩ = some (.slice A1 n1 c1) ∧ X.cell? ⟨w.heap.size, 1, none⟩ = some (.slice A2 n2 c2) ∧ X.cell? ⟨w.heap.size, 2, none⟩ = some (.slice A3 n3 c3) ∧ X.cell? ⟨w.heap.size, 3, none⟩ = some (.slice A4 n4 c4) ∧ X.cell? ⟨w.heap.size, 4, none⟩ = some (.slice A5 n5 c5) ∧ X.cell? ⟨w.heap.size, 5, none⟩ = some (.slice A6 n6 c6) ∧ X.cell? ⟨w.heap.size + 1, 1, none⟩ = some (.string p.to_) ∧ wq.grownBy X (some (w.heap.size + 1))) ∧ ((X.setCell ⟨w.heap.size + 1, 3, none⟩ (.int .i64 (idxO (schemaNames s) p.to_))).cell? ⟨w.heap.size, 0, none⟩ = some (.slice A1 n1 c1) ∧ (X.setCell ⟨w.heap.size + 1, 3, none⟩ (.int .i64 (idxO (schemaNames s) p.to_))).cell? ⟨w.heap.size, 1, none⟩ = some (.slice A2 n2 c2) ∧ (X.setCell ⟨w.heap.size + 1, 3, none⟩ (.int .i64 (idxO (schemaNames s) p.to_))).cell? ⟨w.heap.size, 2, none⟩ = some (.slice A3 n3 c3) ∧ (X.setCell ⟨w.heap.size + 1, 3, none⟩ (.int .i64 (idxO (schemaNames s) p.to_))).cell? ⟨w.heap.size, 3, none⟩ = some (.slice A4 n4 c4) ∧ (X.setCell ⟨w.heap.size + 1, 3, none⟩ (.int .i64 (idxO (schemaNames s) p.to_))).cell? ⟨w.heap.size, 4, none⟩ = some (.slice A5 n5 c5) ∧ (X.setCell ⟨w.heap.size + 1, 3, none⟩ (.int .i64 (idxO (schemaNames s) p.to_))).cell? ⟨w.heap.size, 5, none⟩ = some (.slice A6 n6 c6) ∧ (X.setCell ⟨w.heap.size + 1, 3, none⟩ (.int .i64 (idxO (schemaNames s) p.to_))).cell? ⟨w.heap.size + 1, 1, none⟩ = some (.string p.to_) ∧ wq.grownBy (X.setCell ⟨w.heap.size + 1, 3, none⟩ (.int .i64 (idxO (schemaNames s) p.to_))) (some (w.heap.size + 1)))) := Lib.hid (fun X hX => ⟨⟨(hX.cell (p := ⟨w.heap.size, 0, none⟩) lk).trans k0, (hX.cell (p := ⟨w.heap.size, 1, none⟩) lk).trans k1, (hX.cell (p := ⟨w.heap.size, 2, none⟩) lk).trans k2, (hX.cell (p := ⟨w.heap.size, 3, none⟩) lk).trans k3, (hX.cell (p := ⟨w.heap.size, 4, none⟩) lk).trans k4, (hX.cell (p := ⟨w.heap.size, 5, none⟩) lk).trans k5, (hX.cell (p := ⟨w.heap.size + 1, 1, none⟩) lx).trans x1, grown_of_below hX _⟩, ⟨put_ne ((hX.cell (p := ⟨w.heap.size, 0, none⟩) lk).trans k0) (.inl (by omega)), put_ne ((hX.cell (p := ⟨w.heap.size, 1, none⟩) lk).trans k1) (.inl (by omega)), put_ne ((hX.cell (p := ⟨w.heap.size, 2, none⟩) lk).trans k2) (.inl (by omega)), put_ne ((hX.cell (p := ⟨w.heap.size, 3, none⟩) lk).trans k3) (.inl (by omega)), put_ne ((hX.cell (p := ⟨w.heap.size, 4, none⟩) lk).trans k4) (.inl (by omega)), put_ne ((hX.cell (p := ⟨w.heap.size, 5, none⟩) lk).trans k5) (.inl (by omega)), put_ne ((hX.cell (p := ⟨w.heap.size + 1, 1, none⟩) lx).trans x1) (.inr (by omega)), grownb_put hX _ _⟩⟩)
  apply wp_viaS (G := fun w3 => ∃ w1, Below wq.heap.size wq w1 ∧ w3 = w1.setCell ⟨w.heap.size + 1, 3, none⟩ (.int .i64 (idxO (schemaNames s) p.to_)))
  · go_region_held3 (fun w' => w'.cell? ⟨w.heap.size, 0, none⟩ = some (.slice A1 n1 c1) ∧ w'.cell? ⟨w.heap.size, 1, none⟩ = some (.slice A2 n2 c2) ∧ w'.cell? ⟨w.heap.size, 2, none⟩ = some (.slice A3 n3 c3) ∧ w'.cell? ⟨w.heap.size, 3, none⟩ = some (.slice A4 n4 c4) ∧ w'.cell? ⟨w.heap.size, 4, none⟩ = some (.slice A5 n5 c5) ∧ w'.cell? ⟨w.heap.size, 5, none⟩ = some (.slice A6 n6 c6) ∧ w'.cell? ⟨w.heap.size + 1, 1, none⟩ = some (.string p.to_) ∧ wq.grownBy w' (some (w.heap.size + 1)))
      (first | exact (HKT.out _ HBC.out).1 | exact (HKT.out _ HBC.out).2 | exact (HKT.out _ (Below.refl _ _).drew).1 | exact (HKT.out _ (Below.refl _ _)).1)
      (first
        | (go_at_call 54; ((with_reducible refine (refFind_any _ _ _ (schemaNames s) (p.to_) _ HSL.out).mono ?_)); rintro e w' ⟨rfl, rfl⟩)
        | (go_at_call 55; ((with_reducible refine (refSchemas_any A1 A2 A3 A4 A5 A6 n1 c1 n2 c2 n3 c3 n4 c4 n5 c5 n6 c6 s _ HSP.out).mono ?_)); rintro e wc ⟨xA, xc, rfl, hsl, hbc⟩
           have hbz : Below wq.heap.size wq wc := Below.trans (Below.refl _ _).drew hbc
           have HSL := Lib.hid hsl.1
           have HBC := Lib.hid hbz
           have rs := (hbz.cell (p := ⟨w.heap.size + 1, 3, none⟩) lx).trans x3
           have fs := ((HXQ.out.x.below hbz lx).frozen 3)
           have lz := Nat.lt_of_lt_of_le lx hbz.size
           clear hsl hbc hbz))
    all_goals exact ⟨xA, xc, rfl, _, HBC.out, rfl⟩
  rintro xA xc w3 ⟨w1, hb1, rfl⟩
  clear HKT
  have hxn := (HXQ.out.below hb1).put (by omega) (by omega) 3 (.int .i64 (idxO (schemaNames s) p.to_))
  simp only [List.setIfInBounds_toArray, List.set_cons_zero, List.set_cons_succ] at hxn
  generalize w1.setCell ⟨w.heap.size + 1, 3, none⟩ (.int .i64 (idxO (schemaNames s) p.to_)) = wq2 at hxn ⊢
  clear hb1 HSP k0 k1 k2 k3 k4 k5 lk lx x0 x1 x2 x3 HXQ
  have HXQ := Lib.hid hxn
  clear hxn
  obtain ⟨wq, rfl⟩ : ∃ x, x = wq2 := ⟨_, rfl⟩
  go_upto_region 3 with fail
  go_cut [6] from 20 to 27 (fun v wx => v = .bool (decide (0 ≤ idxO (schemaNames s) p.from_) && decide (0 ≤ idxO (schemaNames s) p.to_)) ∧ wx = wq)
  case first =>
    · have x2 := HXQ.out.x.cell 2
      have x3 := HXQ.out.x.cell 3
      have lx := HXQ.out.x.lt
      simp only [List.getElem?_toArray, List.getElem?_cons_zero, List.getElem?_cons_succ] at x2 x3
      by_cases hv2 : (0 : Int) ≤ idxO (schemaNames s) p.from_
      · have dv2 : decide ((0 : Int) ≤ idxO (schemaNames s) p.from_) = true := by simpa using hv2
        by_cases hv1 : (0 : Int) ≤ idxO (schemaNames s) p.to_
        · have dv1 : decide ((0 : Int) ≤ idxO (schemaNames s) p.to_) = true := by simpa using hv1
          have HOK : Hid ((decide (0 ≤ idxO (schemaNames s) p.from_) && decide (0 ≤ idxO (schemaNames s) p.to_)) = true) := Lib.hid (by first | rfl | (simp; done) | (simp [*]; done) | (simp; omega))
          go_wp2_with fail
          go_meet
          exact ⟨by rw [HOK.out], rfl⟩
        · have dv1 : decide ((0 : Int) ≤ idxO (schemaNames s) p.to_) = false := by simpa using hv1
          have HOK : Hid ((decide (0 ≤ idxO (schemaNames s) p.from_) && decide (0 ≤ idxO (schemaNames s) p.to_)) = false) := Lib.hid (by first | rfl | (simp; done) | (simp [*]; done) | (simp; omega))
          go_wp2_with fail
          go_meet
          exact ⟨by rw [HOK.out], rfl⟩
      · have dv2 : decide ((0 : Int) ≤ idxO (schemaNames s) p.from_) = false := by simpa using hv2
        have HOK : Hid ((decide (0 ≤ idxO (schemaNames s) p.from_) && decide (0 ≤ idxO (schemaNames s) p.to_)) = false) := Lib.hid (by first | rfl | (simp; done) | (simp [*]; done) | (simp; omega))
        go_wp2_with fail
        go_meet
        exact ⟨by rw [HOK.out], rfl⟩
  case rest =>
    obtain ⟨rfl, rfl⟩ := hcut
    obtain ⟨wa, rfl⟩ : ∃ x, x = wc := ⟨_, rfl⟩
    obtain ⟨ob0, hob0⟩ : ∃ b, b = (decide (0 ≤ idxO (schemaNames s) p.from_) && decide (0 ≤ idxO (schemaNames s) p.to_)) := ⟨_, rfl⟩
    rw [← hob0]
    have HOB0 := Lib.hid hob0
    clear hob0
    have q2 := HXQ.out.x.cell 4
    simp only [List.getElem?_toArray, List.getElem?_cons_zero, List.getElem?_cons_succ] at q2
    have lx := HXQ.out.x.lt
    have HXR := Lib.hid HXQ.out
    clear HXQ
    go_wp2_with (at_builtin; refine wpList_append_row _ rfl (.tmp 28) (.tmp 30) 67 71 rfl j1 _ 56 Try.underlying67 I1.out Z1.out.1 Z1.out.2.1 Z1.out.2.2 rfl (by decide) (R := fun _ => qMoveR w) (fun _ => qMoveR_one w) wa.heap.size (.slice (some ⟨wa.heap.size, 0, none⟩) 0 0) 0 [] rfl (World.ownsRow_lit wa #[] 0 (Nat.le_refl _) (Nat.zero_le _) rfl) A n c p.moves rfl (H1.out.fix (HXR.out.bl.alloc HXR.out.bl.size _)) (by have := HB1.out; have := HL1.out; unfold maxLen; omega) (by have := HB1.out; have := HL1.out; omega) (by simp) ?_
                 intro v1 w1 cs1 hcs1 ho1 hgr1 hat1
                 have hcs1 : CellsR 5 qMoveR w cs1 p.moves := ⟨hcs1.1, hcs1.2⟩
                 have hb1 : Below wa.heap.size wa w1 := ((Below.refl _ _).alloc (Nat.le_refl _) _).grown hgr1 (by simp) (by simp [Value.ownBlock])
                 obtain ⟨vA1, vn, vc1, rfl, hvn⟩ := own_form' ho1
                 have hx1 := HXR.out.below hb1
                 have q21 := hx1.x.cell 4
                 have f21 := hx1.x.frozen 4
                 simp only [List.getElem?_toArray, List.getElem?_cons_zero, List.getElem?_cons_succ] at q21
                 have lx1 := hx1.x.lt
                 have HX1 := Lib.hid hx1
                 have HO1 := Lib.hid ho1
                 have HC1 := Lib.hid hcs1
                 have HBW1 := Lib.hid hb1
                 have HVN := Lib.hid hvn
                 clear hx1 ho1 hcs1 hb1 hgr1 hat1 hvn)
    obtain rfl : n = vn := by have := HVN.out; omega
    have hx2 := HX1.out.put (by omega) (by omega) 4 (.slice vA1 n vc1)
    simp only [List.setIfInBounds_toArray, List.set_cons_zero, List.set_cons_succ] at hx2
    have ho2 : (w1.setCell ⟨w.heap.size + 1, 4, none⟩ (.slice vA1 n vc1)).ownsRow wa.heap.size 71 5 (.slice vA1 n vc1) n cs1 := by
      have := HO1.out
      rw [Nat.zero_add, List.nil_append] at this
      exact own_far this (by have := HXR.out.x.lt; simpa using this) _
    generalize w1.setCell ⟨w.heap.size + 1, 4, none⟩ (.slice vA1 n vc1) = w2 at hx2 ho2 ⊢
    have HX2 := Lib.hid hx2
    have HO2 := Lib.hid ho2
    have hwa := HXR.out.lt
    clear hx2 ho2 q2 lx q21 f21 lx1 HXR HX1 HO1 HBW1 HVN
    go_loopg [6, 7] n (fun q o j wr => ∃ (k : Nat) (cr : List Value), k ≤ n ∧ q = n - k ∧ o = .bool (decide (0 ≤ idxO (schemaNames s) p.from_) && decide (0 ≤ idxO (schemaNames s) p.to_) && (p.moves.take k).all (moveOk s (idxO (schemaNames s) p.from_) (idxO (schemaNames s) p.to_))) ∧ j = .int .i64 k ∧ XT w #[.slice A1 n1 c1, .slice A2 n2 c2, .slice A3 n3 c3, .slice A4 n4 c4, .slice A5 n5 c5, .slice A6 n6 c6] 69 1 #[.string p.from_, .string p.to_, .int .i64 (idxO (schemaNames s) p.from_), .int .i64 (idxO (schemaNames s) p.to_), .slice vA1 n vc1] 2 #[.string ⟨#[]⟩, .string ⟨#[]⟩, .int .i64 0, .int .i64 0, .slice none 0 0] wr ∧
        wr.ownsRow wa.heap.size 71 5 (.slice vA1 n vc1) n cr ∧ CellsR 5 qMoveR w cr ((p.moves.take k).map (moveQ s (idxO (schemaNames s) p.from_) (idxO (schemaNames s) p.to_)) ++ p.moves.drop k))
    case atStart => exact ⟨0, cs1, Nat.zero_le _, rfl, by rw [HOB0.out, List.take_zero, List.all_nil, Bool.and_true], rfl, HX2.out, HO2.out, HC1.out⟩
    case round =>
      clear HX2 HO2 HC1 HOB0
      obtain ⟨k, cr, hk, hq, rfl, rfl, hxr, hoh, hcr⟩ := hrel
      have HQ := Lib.hid hq
      clear hq
      obtain ⟨ob, hob⟩ : ∃ b, b = (decide (0 ≤ idxO (schemaNames s) p.from_) && decide (0 ≤ idxO (schemaNames s) p.to_) && (p.moves.take k).all (moveOk s (idxO (schemaNames s) p.from_) (idxO (schemaNames s) p.to_))) := ⟨_, rfl⟩
      rw [← hob]
      have HOB := Lib.hid hob
      clear hob
      have g2 := hxr.x.cell 4
      simp only [List.getElem?_toArray, List.getElem?_cons_zero, List.getElem?_cons_succ] at g2
      have lx := hxr.x.lt
      by_cases hlt : k < n
      · rcases own_row hoh with ⟨h, h0⟩ | ⟨H, hcap, h, hH, hHw, hn2⟩
        · exfalso; injection h with _ h; omega
        injection h with h1 h2 h3
        subst h1 h3
        clear h2
        obtain ⟨m, hm⟩ : ∃ m, p.moves[k]? = some m := ⟨p.moves[k]'(by have := HL1.out; omega), List.getElem?_eq_getElem _⟩
        have hat := take_map_at (f := moveQ s (idxO (schemaNames s) p.from_) (idxO (schemaNames s) p.to_)) hm
        have HM := Lib.hid hm
        have hkl : k < ((p.moves.take k).map (moveQ s (idxO (schemaNames s) p.from_) (idxO (schemaNames s) p.to_)) ++ p.moves.drop k).length := (List.getElem?_eq_some_iff.1 hat).1
        have HKL := Lib.hid hkl
        have hkn : (k : Int) < (n : Int) := by omega
        have hk0 : (0 : Int) ≤ (k : Int) := by omega
        have HXQ := Lib.hid hxr
        have HOQ := Lib.hid hoh
        have HCQ := Lib.hid hcr
        have HATK := Lib.hid hat
        clear hm hkl hxr hoh hcr hat g2 lx
        obtain ⟨wq, rfl⟩ : ∃ x, x = wr := ⟨_, rfl⟩
        obtain ⟨cq, rfl⟩ : ∃ x, x = cr := ⟨_, rfl⟩
        obtain ⟨k0, k1, k2, k3, k4, k5⟩ := six_cells HXQ.out.s (Below.refl _ _)
        have lk := HXQ.out.s.lt
        have g4 := HXQ.out.x.cell 4
        simp only [List.getElem?_toArray, List.getElem?_cons_zero, List.getElem?_cons_succ] at g4
        have lx := HXQ.out.x.lt
        have lH := own_lt HOQ.out
        have x2 := HXQ.out.x.cell 2
        simp only [List.getElem?_toArray, List.getElem?_cons_zero, List.getElem?_cons_succ] at x2
        have hck : chunk cq 5 k = _ := HCQ.out.chunk HATK.out
        have e0 := own_cell HOQ.out hlt (by omega) hck (j := 0) rfl
        have e1 := own_cell HOQ.out hlt (by omega) hck (j := 1) rfl
        have e2 := own_cell HOQ.out hlt (by omega) hck (j := 2) rfl
        have e3 := own_cell HOQ.out hlt (by omega) hck (j := 3) rfl
        simp only [Nat.add_zero] at e0
        clear hck
        have HSP := Lib.hid (src_parts (qSourceR_mono _ _ HXQ.out.bl.drew _ _ HS.out)).2.2.1
        have HSQ := Lib.hid HSP.out.1
        go_upto_region 8 with fail
        have HKT : Hid (∀ X : World, Below wq.heap.size wq X → (X.cell? ⟨w.heap.size, 0, none⟩ = some (.slice A1 n1 c1) ∧ X.cell? ⟨w.heap.size, 1, none⟩ = some (.slice A2 n2 c2) ∧ X.cell? ⟨w.heap.size, 2, none⟩ = some (.slice A3 n3 c3) ∧ X.cell? ⟨w.heap.size, 3, none⟩ = some (.slice A4 n4 c4) ∧ X.cell? ⟨w.heap.size, 4, none⟩ = some (.slice A5 n5 c5) ∧ X.cell? ⟨w.heap.size, 5, none⟩ = some (.slice A6 n6 c6) ∧ X.cell? ⟨w.heap.size + 1, 4, none⟩ = some (.slice (some ⟨H, 0, none⟩) n vc1) ∧ X.cell? ⟨w.heap.size + 1, 2, none⟩ = some (.int .i64 (idxO (schemaNames s) p.from_)) ∧ X.cell? ⟨H, k * 5 + 1, none⟩ = some (.string m.from_) ∧ wq.grownBy X (some (H))) ∧ ((X.setCell ⟨H, k * 5 + 3, none⟩ (.int .i64 (idxO (fieldNo s (idxO (schemaNames s) p.from_)) m.from_))).cell? ⟨w.heap.size, 0, none⟩ = some (.slice A1 n1 c1) ∧ (X.setCell ⟨H, k * 5 + 3, none⟩ (.int .i64 (idxO (fieldNo s (idxO (schemaNames s) p.from_)) m.from_))).cell? ⟨w.heap.size, 1, none⟩ = some (.slice A2 n2 c2) ∧ (X.setCell ⟨H, k * 5 + 3, none⟩ (.int .i64 (idxO (fieldNo s (idxO (schemaNames s) p.from_)) m.from_))).cell? ⟨w.heap.size, 2, none⟩ = some (.slice A3 n3 c3) ∧ (X.setCell ⟨H, k * 5 + 3, none⟩ (.int .i64 (idxO (fieldNo s (idxO (schemaNames s) p.from_)) m.from_))).cell? ⟨w.heap.size, 3, none⟩ = some (.slice A4 n4 c4) ∧ (X.setCell ⟨H, k * 5 + 3, none⟩ (.int .i64 (idxO (fieldNo s (idxO (schemaNames s) p.from_)) m.from_))).cell? ⟨w.heap.size, 4, none⟩ = some (.slice A5 n5 c5) ∧ (X.setCell ⟨H, k * 5 + 3, none⟩ (.int .i64 (idxO (fieldNo s (idxO (schemaNames s) p.from_)) m.from_))).cell? ⟨w.heap.size, 5, none⟩ = some (.slice A6 n6 c6) ∧ (X.setCell ⟨H, k * 5 + 3, none⟩ (.int .i64 (idxO (fieldNo s (idxO (schemaNames s) p.from_)) m.from_))).cell? ⟨w.heap.size + 1, 4, none⟩ = some (.slice (some ⟨H, 0, none⟩) n vc1) ∧ (X.setCell ⟨H, k * 5 + 3, none⟩ (.int .i64 (idxO (fieldNo s (idxO (schemaNames s) p.from_)) m.from_))).cell? ⟨w.heap.size + 1, 2, none⟩ = some (.int .i64 (idxO (schemaNames s) p.from_)) ∧ (X.setCell ⟨H, k * 5 + 3, none⟩ (.int .i64 (idxO (fieldNo s (idxO (schemaNames s) p.from_)) m.from_))).cell? ⟨H, k * 5 + 1, none⟩ = some (.string m.from_) ∧ wq.grownBy (X.setCell ⟨H, k * 5 + 3, none⟩ (.int .i64 (idxO (fieldNo s (idxO (schemaNames s) p.from_)) m.from_))) (some (H)))) := Lib.hid (fun X hX => ⟨⟨(hX.cell (p := ⟨w.heap.size, 0, none⟩) lk).trans k0, (hX.cell (p := ⟨w.heap.size, 1, none⟩) lk).trans k1, (hX.cell (p := ⟨w.heap.size, 2, none⟩) lk).trans k2, (hX.cell (p := ⟨w.heap.size, 3, none⟩) lk).trans k3, (hX.cell (p := ⟨w.heap.size, 4, none⟩) lk).trans k4, (hX.cell (p := ⟨w.heap.size, 5, none⟩) lk).trans k5, (hX.cell (p := ⟨w.heap.size + 1, 4, none⟩) lx).trans g4, (hX.cell (p := ⟨w.heap.size + 1, 2, none⟩) lx).trans x2, (hX.cell (p := ⟨H, k * 5 + 1, none⟩) lH).trans e1, grown_of_below hX _⟩, ⟨put_ne ((hX.cell (p := ⟨w.heap.size, 0, none⟩) lk).trans k0) (.inl (by omega)), put_ne ((hX.cell (p := ⟨w.heap.size, 1, none⟩) lk).trans k1) (.inl (by omega)), put_ne ((hX.cell (p := ⟨w.heap.size, 2, none⟩) lk).trans k2) (.inl (by omega)), put_ne ((hX.cell (p := ⟨w.heap.size, 3, none⟩) lk).trans k3) (.inl (by omega)), put_ne ((hX.cell (p := ⟨w.heap.size, 4, none⟩) lk).trans k4) (.inl (by omega)), put_ne ((hX.cell (p := ⟨w.heap.size, 5, none⟩) lk).trans k5) (.inl (by omega)), put_ne ((hX.cell (p := ⟨w.heap.size + 1, 4, none⟩) lx).trans g4) (.inl (by omega)), put_ne ((hX.cell (p := ⟨w.heap.size + 1, 2, none⟩) lx).trans x2) (.inl (by omega)), put_ne ((hX.cell (p := ⟨H, k * 5 + 1, none⟩) lH).trans e1) (.inr (by omega)), grownb_put hX _ _⟩⟩)
        apply wp_viaS (G := fun w3 => ∃ w1, Below wq.heap.size wq w1 ∧ w3 = w1.setCell ⟨H, k * 5 + 3, none⟩ (.int .i64 (idxO (fieldNo s (idxO (schemaNames s) p.from_)) m.from_)))
        · go_region_held3 (fun w' => w'.cell? ⟨w.heap.size, 0, none⟩ = some (.slice A1 n1 c1) ∧ w'.cell? ⟨w.heap.size, 1, none⟩ = some (.slice A2 n2 c2) ∧ w'.cell? ⟨w.heap.size, 2, none⟩ = some (.slice A3 n3 c3) ∧ w'.cell? ⟨w.heap.size, 3, none⟩ = some (.slice A4 n4 c4) ∧ w'.cell? ⟨w.heap.size, 4, none⟩ = some (.slice A5 n5 c5) ∧ w'.cell? ⟨w.heap.size, 5, none⟩ = some (.slice A6 n6 c6) ∧ w'.cell? ⟨w.heap.size + 1, 4, none⟩ = some (.slice (some ⟨H, 0, none⟩) n vc1) ∧ w'.cell? ⟨w.heap.size + 1, 2, none⟩ = some (.int .i64 (idxO (schemaNames s) p.from_)) ∧ w'.cell? ⟨H, k * 5 + 1, none⟩ = some (.string m.from_) ∧ wq.grownBy w' (some (H)))
            (first | exact (HKT.out _ HBC.out).1 | exact (HKT.out _ HBC.out).2 | exact (HKT.out _ (Below.refl _ _).drew).1 | exact (HKT.out _ (Below.refl _ _)).1)
            (first
              | (go_at_call 54; ((with_reducible refine (refFind_any _ _ _ (fieldNo s (idxO (schemaNames s) p.from_)) (m.from_) _ HSL.out).mono ?_)); rintro e w' ⟨rfl, rfl⟩)
              | (go_at_call 61; ((with_reducible refine (refFields_any A1 A2 A3 A4 A5 A6 n1 c1 n2 c2 n3 c3 n4 c4 n5 c5 n6 c6 s (idxO (schemaNames s) p.from_) _ HSQ.out).mono ?_)); rintro e wc ⟨xA, xc, rfl, hsl, hbc⟩
                 have hbz : Below wq.heap.size wq wc := Below.trans (Below.refl _ _).drew hbc
                 have HSL := Lib.hid hsl.1
                 have HBC := Lib.hid hbz
                 have rs := (hbz.cell (p := ⟨H, k * 5 + 3, none⟩) lH).trans e3
                 have fs := (own_below0 HOQ.out hbz).frozenAt (k * 5 + 3)
                 have lz := Nat.lt_of_lt_of_le lH hbz.size
                 clear hsl hbc hbz))
          all_goals exact ⟨xA, xc, rfl, _, HBC.out, rfl⟩
        rintro xA xc w3 ⟨w1, hb1, rfl⟩
        clear HKT
        have hgn : w1.grownBy (w1.setCell ⟨H, k * 5 + 3, none⟩ (.int .i64 (idxO (fieldNo s (idxO (schemaNames s) p.from_)) m.from_))) (some H) := grown_near (World.grownBy.refl _ _) _ _
        have hxn := (HXQ.out.below hb1).far (K := H) hgn (by omega) (by omega) (by omega)
        have hon := ((own_below0 HOQ.out hb1).stored (k * 5 + 3) (.int .i64 (idxO (fieldNo s (idxO (schemaNames s) p.from_)) m.from_))).1
        have hcn := move_put3 HCQ.out HATK.out (idxO (fieldNo s (idxO (schemaNames s) p.from_)) m.from_)
        generalize w1.setCell ⟨H, k * 5 + 3, none⟩ (.int .i64 (idxO (fieldNo s (idxO (schemaNames s) p.from_)) m.from_)) = wq2 at hxn hon ⊢
        clear hb1 HSP HSQ hgn k0 k1 k2 k3 k4 k5 lk g4 lx lH x2 e0 e1 e2 e3
        have hatk : (((p.moves.take k).map (moveQ s (idxO (schemaNames s) p.from_) (idxO (schemaNames s) p.to_)) ++ p.moves.drop k).set k { m with a := idxO (fieldNo s (idxO (schemaNames s) p.from_)) m.from_ })[k]? = some { m with a := idxO (fieldNo s (idxO (schemaNames s) p.from_)) m.from_ } := List.getElem?_set_self HKL.out
        generalize cq.set (k * 5 + 3) (.int .i64 (idxO (fieldNo s (idxO (schemaNames s) p.from_)) m.from_)) = cq2 at hon hcn
        clear HXQ HOQ HCQ HATK
        have HXQ := Lib.hid hxn
        have HOQ := Lib.hid hon
        have HCQ := Lib.hid hcn
        have HATK := Lib.hid hatk
        clear hxn hon hcn hatk
        obtain ⟨wq, rfl⟩ : ∃ x, x = wq2 := ⟨_, rfl⟩
        obtain ⟨cq, rfl⟩ : ∃ x, x = cq2 := ⟨_, rfl⟩
        obtain ⟨k0, k1, k2, k3, k4, k5⟩ := six_cells HXQ.out.s (Below.refl _ _)
        have lk := HXQ.out.s.lt
        have g4 := HXQ.out.x.cell 4
        simp only [List.getElem?_toArray, List.getElem?_cons_zero, List.getElem?_cons_succ] at g4
        have lx := HXQ.out.x.lt
        have lH := own_lt HOQ.out
        have x3 := HXQ.out.x.cell 3
        simp only [List.getElem?_toArray, List.getElem?_cons_zero, List.getElem?_cons_succ] at x3
        have hck : chunk cq 5 k = _ := HCQ.out.chunk HATK.out
        have e0 := own_cell HOQ.out hlt (by omega) hck (j := 0) rfl
        have e1 := own_cell HOQ.out hlt (by omega) hck (j := 1) rfl
        have e2 := own_cell HOQ.out hlt (by omega) hck (j := 2) rfl
        have e3 := own_cell HOQ.out hlt (by omega) hck (j := 3) rfl
        simp only [Nat.add_zero] at e0
        clear hck
        have HSP := Lib.hid (src_parts (qSourceR_mono _ _ HXQ.out.bl.drew _ _ HS.out)).2.2.1
        have HSQ := Lib.hid HSP.out.1
        go_upto_region 9 with fail
        have HKT : Hid (∀ X : World, Below wq.heap.size wq X → (X.cell? ⟨w.heap.size, 0, none⟩ = some (.slice A1 n1 c1) ∧ X.cell? ⟨w.heap.size, 1, none⟩ = some (.slice A2 n2 c2) ∧ X.cell? ⟨w.heap.size, 2, none⟩ = some (.slice A3 n3 c3) ∧ X.cell? ⟨w.heap.size, 3, none⟩ = some (.slice A4 n4 c4) ∧ X.cell? ⟨w.heap.size, 4, none⟩ = some (.slice A5 n5 c5) ∧ X.cell? ⟨w.heap.size, 5, none⟩ = some (.slice A6 n6 c6) ∧ X.cell? ⟨w.heap.size + 1, 4, none⟩ = some (.slice (some ⟨H, 0, none⟩) n vc1) ∧ X.cell? ⟨w.heap.size + 1, 3, none⟩ = some (.int .i64 (idxO (schemaNames s) p.to_)) ∧ X.cell? ⟨H, k * 5, none⟩ = some (.string m.to_) ∧ wq.grownBy X (some (H))) ∧ ((X.setCell ⟨H, k * 5 + 2, none⟩ (.int .i64 (idxO (fieldNo s (idxO (schemaNames s) p.to_)) m.to_))).cell? ⟨w.heap.size, 0, none⟩ = some (.slice A1 n1 c1) ∧ (X.setCell ⟨H, k * 5 + 2, none⟩ (.int .i64 (idxO (fieldNo s (idxO (schemaNames s) p.to_)) m.to_))).cell? ⟨w.heap.size, 1, none⟩ = some (.slice A2 n2 c2) ∧ (X.setCell ⟨H, k * 5 + 2, none⟩ (.int .i64 (idxO (fieldNo s (idxO (schemaNames s) p.to_)) m.to_))).cell? ⟨w.heap.size, 2, none⟩ = some (.slice A3 n3 c3) ∧ (X.setCell ⟨H, k * 5 + 2, none⟩ (.int .i64 (idxO (fieldNo s (idxO (schemaNames s) p.to_)) m.to_))).cell? ⟨w.heap.size, 3, none⟩ = some (.slice A4 n4 c4) ∧ (X.setCell ⟨H, k * 5 + 2, none⟩ (.int .i64 (idxO (fieldNo s (idxO (schemaNames s) p.to_)) m.to_))).cell? ⟨w.heap.size, 4, none⟩ = some (.slice A5 n5 c5) ∧ (X.setCell ⟨H, k * 5 + 2, none⟩ (.int .i64 (idxO (fieldNo s (idxO (schemaNames s) p.to_)) m.to_))).cell? ⟨w.heap.size, 5, none⟩ = some (.slice A6 n6 c6) ∧ (X.setCell ⟨H, k * 5 + 2, none⟩ (.int .i64 (idxO (fieldNo s (idxO (schemaNames s) p.to_)) m.to_))).cell? ⟨w.heap.size + 1, 4, none⟩ = some (.slice (some ⟨H, 0, none⟩) n vc1) ∧ (X.setCell ⟨H, k * 5 + 2, none⟩ (.int .i64 (idxO (fieldNo s (idxO (schemaNames s) p.to_)) m.to_))).cell? ⟨w.heap.size + 1, 3, none⟩ = some (.int .i64 (idxO (schemaNames s) p.to_)) ∧ (X.setCell ⟨H, k * 5 + 2, none⟩ (.int .i64 (idxO (fieldNo s (idxO (schemaNames s) p.to_)) m.to_))).cell? ⟨H, k * 5, none⟩ = some (.string m.to_) ∧ wq.grownBy (X.setCell ⟨H, k * 5 + 2, none⟩ (.int .i64 (idxO (fieldNo s (idxO (schemaNames s) p.to_)) m.to_))) (some (H)))) := Lib.hid (fun X hX => ⟨⟨(hX.cell (p := ⟨w.heap.size, 0, none⟩) lk).trans k0, (hX.cell (p := ⟨w.heap.size, 1, none⟩) lk).trans k1, (hX.cell (p := ⟨w.heap.size, 2, none⟩) lk).trans k2, (hX.cell (p := ⟨w.heap.size, 3, none⟩) lk).trans k3, (hX.cell (p := ⟨w.heap.size, 4, none⟩) lk).trans k4, (hX.cell (p := ⟨w.heap.size, 5, none⟩) lk).trans k5, (hX.cell (p := ⟨w.heap.size + 1, 4, none⟩) lx).trans g4, (hX.cell (p := ⟨w.heap.size + 1, 3, none⟩) lx).trans x3, (hX.cell (p := ⟨H, k * 5, none⟩) lH).trans e0, grown_of_below hX _⟩, ⟨put_ne ((hX.cell (p := ⟨w.heap.size, 0, none⟩) lk).trans k0) (.inl (by omega)), put_ne ((hX.cell (p := ⟨w.heap.size, 1, none⟩) lk).trans k1) (.inl (by omega)), put_ne ((hX.cell (p := ⟨w.heap.size, 2, none⟩) lk).trans k2) (.inl (by omega)), put_ne ((hX.cell (p := ⟨w.heap.size, 3, none⟩) lk).trans k3) (.inl (by omega)), put_ne ((hX.cell (p := ⟨w.heap.size, 4, none⟩) lk).trans k4) (.inl (by omega)), put_ne ((hX.cell (p := ⟨w.heap.size, 5, none⟩) lk).trans k5) (.inl (by omega)), put_ne ((hX.cell (p := ⟨w.heap.size + 1, 4, none⟩) lx).trans g4) (.inl (by omega)), put_ne ((hX.cell (p := ⟨w.heap.size + 1, 3, none⟩) lx).trans x3) (.inl (by omega)), put_ne ((hX.cell (p := ⟨H, k * 5, none⟩) lH).trans e0) (.inr (by omega)), grownb_put hX _ _⟩⟩)
        apply wp_viaS (G := fun w3 => ∃ w1, Below wq.heap.size wq w1 ∧ w3 = w1.setCell ⟨H, k * 5 + 2, none⟩ (.int .i64 (idxO (fieldNo s (idxO (schemaNames s) p.to_)) m.to_)))
        · go_region_held3 (fun w' => w'.cell? ⟨w.heap.size, 0, none⟩ = some (.slice A1 n1 c1) ∧ w'.cell? ⟨w.heap.size, 1, none⟩ = some (.slice A2 n2 c2) ∧ w'.cell? ⟨w.heap.size, 2, none⟩ = some (.slice A3 n3 c3) ∧ w'.cell? ⟨w.heap.size, 3, none⟩ = some (.slice A4 n4 c4) ∧ w'.cell? ⟨w.heap.size, 4, none⟩ = some (.slice A5 n5 c5) ∧ w'.cell? ⟨w.heap.size, 5, none⟩ = some (.slice A6 n6 c6) ∧ w'.cell? ⟨w.heap.size + 1, 4, none⟩ = some (.slice (some ⟨H, 0, none⟩) n vc1) ∧ w'.cell? ⟨w.heap.size + 1, 3, none⟩ = some (.int .i64 (idxO (schemaNames s) p.to_)) ∧ w'.cell? ⟨H, k * 5, none⟩ = some (.string m.to_) ∧ wq.grownBy w' (some (H)))
            (first | exact (HKT.out _ HBC.out).1 | exact (HKT.out _ HBC.out).2 | exact (HKT.out _ (Below.refl _ _).drew).1 | exact (HKT.out _ (Below.refl _ _)).1)
            (first
              | (go_at_call 54; ((with_reducible refine (refFind_any _ _ _ (fieldNo s (idxO (schemaNames s) p.to_)) (m.to_) _ HSL.out).mono ?_)); rintro e w' ⟨rfl, rfl⟩)
              | (go_at_call 61; ((with_reducible refine (refFields_any A1 A2 A3 A4 A5 A6 n1 c1 n2 c2 n3 c3 n4 c4 n5 c5 n6 c6 s (idxO (schemaNames s) p.to_) _ HSQ.out).mono ?_)); rintro e wc ⟨xA, xc, rfl, hsl, hbc⟩
                 have hbz : Below wq.heap.size wq wc := Below.trans (Below.refl _ _).drew hbc
                 have HSL := Lib.hid hsl.1
                 have HBC := Lib.hid hbz
                 have rs := (hbz.cell (p := ⟨H, k * 5 + 2, none⟩) lH).trans e2
                 have fs := (own_below0 HOQ.out hbz).frozenAt (k * 5 + 2)
                 have lz := Nat.lt_of_lt_of_le lH hbz.size
                 clear hsl hbc hbz))
          all_goals exact ⟨xA, xc, rfl, _, HBC.out, rfl⟩
        rintro xA xc w3 ⟨w1, hb1, rfl⟩
        clear HKT
        have hgn : w1.grownBy (w1.setCell ⟨H, k * 5 + 2, none⟩ (.int .i64 (idxO (fieldNo s (idxO (schemaNames s) p.to_)) m.to_))) (some H) := grown_near (World.grownBy.refl _ _) _ _
        have hxn := (HXQ.out.below hb1).far (K := H) hgn (by omega) (by omega) (by omega)
        have hon := ((own_below0 HOQ.out hb1).stored (k * 5 + 2) (.int .i64 (idxO (fieldNo s (idxO (schemaNames s) p.to_)) m.to_))).1
        have hcn := move_put2 HCQ.out HATK.out (idxO (fieldNo s (idxO (schemaNames s) p.to_)) m.to_)
        generalize w1.setCell ⟨H, k * 5 + 2, none⟩ (.int .i64 (idxO (fieldNo s (idxO (schemaNames s) p.to_)) m.to_)) = wq2 at hxn hon ⊢
        clear hb1 HSP HSQ hgn k0 k1 k2 k3 k4 k5 lk g4 lx lH x3 e0 e1 e2 e3
        rw [List.set_set, show ({ m with a := idxO (fieldNo s (idxO (schemaNames s) p.from_)) m.from_, b := idxO (fieldNo s (idxO (schemaNames s) p.to_)) m.to_ } : QMove) = moveQ s (idxO (schemaNames s) p.from_) (idxO (schemaNames s) p.to_) m from rfl, take_map_snoc HM.out] at hcn
        generalize cq.set (k * 5 + 2) (.int .i64 (idxO (fieldNo s (idxO (schemaNames s) p.to_)) m.to_)) = cq2 at hon hcn
        clear HXQ HOQ HCQ HATK
        have HXQ := Lib.hid hxn
        have HOQ := Lib.hid hon
        have HCQ := Lib.hid hcn
        have HATK : Hid (((p.moves.take (k + 1)).map (moveQ s (idxO (schemaNames s) p.from_) (idxO (schemaNames s) p.to_)) ++ p.moves.drop (k + 1))[k]? = some (moveQ s (idxO (schemaNames s) p.from_) (idxO (schemaNames s) p.to_) m)) := Lib.hid (by
          rw [List.getElem?_append_left (by have := (List.getElem?_eq_some_iff.1 HM.out).1; simp; omega), List.getElem?_map, List.getElem?_take_of_lt (by omega), HM.out]; rfl)
        clear hxn hon hcn
        obtain ⟨wq, rfl⟩ : ∃ x, x = wq2 := ⟨_, rfl⟩
        obtain ⟨cq, rfl⟩ : ∃ x, x = cq2 := ⟨_, rfl⟩
        obtain ⟨k0, k1, k2, k3, k4, k5⟩ := six_cells HXQ.out.s (Below.refl _ _)
        have lk := HXQ.out.s.lt
        have g4 := HXQ.out.x.cell 4
        simp only [List.getElem?_toArray, List.getElem?_cons_zero, List.getElem?_cons_succ] at g4
        have lx := HXQ.out.x.lt
        have lH := own_lt HOQ.out
        have hck : chunk cq 5 k = _ := HCQ.out.chunk HATK.out
        have e0 := own_cell HOQ.out hlt (by omega) hck (j := 0) rfl
        have e1 := own_cell HOQ.out hlt (by omega) hck (j := 1) rfl
        have e2 := own_cell HOQ.out hlt (by omega) hck (j := 2) rfl
        have e3 := own_cell HOQ.out hlt (by omega) hck (j := 3) rfl
        simp only [Nat.add_zero] at e0
        clear hck
        cases ob with
        | false =>
          have HOK : Hid (((idxO (schemaNames s) p.from_, idxO (schemaNames s) p.to_) = (idxO (schemaNames s) p.from_, idxO (schemaNames s) p.to_)) ∧ (decide (0 ≤ idxO (schemaNames s) p.from_) && decide (0 ≤ idxO (schemaNames s) p.to_) && (p.moves.take (k + 1)).all (moveOk s (idxO (schemaNames s) p.from_) (idxO (schemaNames s) p.to_))) = false) := Lib.hid ⟨rfl, by rw [all_snoc HM.out, ← Bool.and_assoc, ← HOB.out]; unfold moveOk; first | rfl | (simp; done) | (simp [*]; done) | (simp; omega)⟩
          go_wp2_with fail
          go_roundg (n - (k + 1))
          case measure => have := HQ.out; omega
          case rel => exact ⟨k + 1, _, by omega, rfl, by rw [HOK.out.2], by go_num, HXQ.out, HOQ.out, HCQ.out⟩
        | true =>
          by_cases hv2 : (0 : Int) ≤ (moveQ s (idxO (schemaNames s) p.from_) (idxO (schemaNames s) p.to_) m).a
          · have dv2 : decide ((0 : Int) ≤ (moveQ s (idxO (schemaNames s) p.from_) (idxO (schemaNames s) p.to_) m).a) = true := by simpa using hv2
            by_cases hv1 : (0 : Int) ≤ (moveQ s (idxO (schemaNames s) p.from_) (idxO (schemaNames s) p.to_) m).b
            · have dv1 : decide ((0 : Int) ≤ (moveQ s (idxO (schemaNames s) p.from_) (idxO (schemaNames s) p.to_) m).b) = true := by simpa using hv1
              have HOK : Hid (((idxO (schemaNames s) p.from_, idxO (schemaNames s) p.to_) = (idxO (schemaNames s) p.from_, idxO (schemaNames s) p.to_)) ∧ (decide (0 ≤ idxO (schemaNames s) p.from_) && decide (0 ≤ idxO (schemaNames s) p.to_) && (p.moves.take (k + 1)).all (moveOk s (idxO (schemaNames s) p.from_) (idxO (schemaNames s) p.to_))) = true) := Lib.hid ⟨rfl, by rw [all_snoc HM.out, ← Bool.and_assoc, ← HOB.out]; unfold moveOk; first | rfl | (simp; done) | (simp [*]; done) | (simp; omega)⟩
              go_wp2_with fail
              go_roundg (n - (k + 1))
              case measure => have := HQ.out; omega
              case rel => exact ⟨k + 1, _, by omega, rfl, by rw [HOK.out.2], by go_num, HXQ.out, HOQ.out, HCQ.out⟩
            · have dv1 : decide ((0 : Int) ≤ (moveQ s (idxO (schemaNames s) p.from_) (idxO (schemaNames s) p.to_) m).b) = false := by simpa using hv1
              have HOK : Hid (((idxO (schemaNames s) p.from_, idxO (schemaNames s) p.to_) = (idxO (schemaNames s) p.from_, idxO (schemaNames s) p.to_)) ∧ (decide (0 ≤ idxO (schemaNames s) p.from_) && decide (0 ≤ idxO (schemaNames s) p.to_) && (p.moves.take (k + 1)).all (moveOk s (idxO (schemaNames s) p.from_) (idxO (schemaNames s) p.to_))) = false) := Lib.hid ⟨rfl, by rw [all_snoc HM.out, ← Bool.and_assoc, ← HOB.out]; unfold moveOk; first | rfl | (simp; done) | (simp [*]; done) | (simp; omega)⟩
              go_wp2_with fail
              go_roundg (n - (k + 1))
              case measure => have := HQ.out; omega
              case rel => exact ⟨k + 1, _, by omega, rfl, by rw [HOK.out.2], by go_num, HXQ.out, HOQ.out, HCQ.out⟩
          · have dv2 : decide ((0 : Int) ≤ (moveQ s (idxO (schemaNames s) p.from_) (idxO (schemaNames s) p.to_) m).a) = false := by simpa using hv2
            have HOK : Hid (((idxO (schemaNames s) p.from_, idxO (schemaNames s) p.to_) = (idxO (schemaNames s) p.from_, idxO (schemaNames s) p.to_)) ∧ (decide (0 ≤ idxO (schemaNames s) p.from_) && decide (0 ≤ idxO (schemaNames s) p.to_) && (p.moves.take (k + 1)).all (moveOk s (idxO (schemaNames s) p.from_) (idxO (schemaNames s) p.to_))) = false) := Lib.hid ⟨rfl, by rw [all_snoc HM.out, ← Bool.and_assoc, ← HOB.out]; unfold moveOk; first | rfl | (simp; done) | (simp [*]; done) | (simp; omega)⟩
            go_wp2_with fail
            go_roundg (n - (k + 1))
            case measure => have := HQ.out; omega
            case rel => exact ⟨k + 1, _, by omega, rfl, by rw [HOK.out.2], by go_num, HXQ.out, HOQ.out, HCQ.out⟩
      · have hke : k = p.moves.length := by have := HL1.out; omega
        rw [take_map_all hke] at hcr
        have HOK : Hid (ob = convertOk s p) := Lib.hid (by rw [HOB.out, hke, List.take_length]; rfl)
        have HXR := Lib.hid hxr
        have HR1 := Lib.hid hoh
        have HC1 := Lib.hid hcr
        have y0 := hxr.x.cell 0
        have y1 := hxr.x.cell 1
        have y2 := hxr.x.cell 2
        have y3 := hxr.x.cell 3
        have y4 := hxr.x.cell 4
        have z0 := hxr.r.cell 0
        have z1 := hxr.r.cell 1
        have z2 := hxr.r.cell 2
        have z3 := hxr.r.cell 3
        have z4 := hxr.r.cell 4
        simp only [List.getElem?_toArray, List.getElem?_cons_zero, List.getElem?_cons_succ] at y0 y1 y2 y3 y4 z0 z1 z2 z3 z4
        have u0 := hxr.r.frozen 0
        have u1 := hxr.r.frozen 1
        have u2 := hxr.r.frozen 2
        have u3 := hxr.r.frozen 3
        have u4 := hxr.r.frozen 4
        have lz := hxr.r.lt
        clear hxr hoh hcr hke
        go_wp2_with fail
        have hlw := HXR.out.lt
        have hg5 : wr.grownBy (wr.setCells (w.heap.size + 2) 0 [.string p.from_, .string p.to_, .int .i64 (idxO (schemaNames s) p.from_), .int .i64 (idxO (schemaNames s) p.to_), .slice vA1 n vc1]) (some (w.heap.size + 2)) := grown_setL _ _ _ (World.grownBy.refl _ _)
        have r1 := HR1.out.kept hg5 (.inr (fun e => by have := HR1.out.lt _ e; omega))
        have hbl : Below w.heap.size w (wr.setCells (w.heap.size + 2) 0 [.string p.from_, .string p.to_, .int .i64 (idxO (schemaNames s) p.from_), .int .i64 (idxO (schemaNames s) p.to_), .slice vA1 n vc1]) := below_grown HXR.out.bl hg5 (by omega)
        have key : qConvertR (mask 0 w.heap.size (wr.setCells (w.heap.size + 2) 0 [.string p.from_, .string p.to_, .int .i64 (idxO (schemaNames s) p.from_), .int .i64 (idxO (schemaNames s) p.to_), .slice vA1 n vc1])) [.string p.from_, .string p.to_, .int .i64 (idxO (schemaNames s) p.from_), .int .i64 (idxO (schemaNames s) p.to_), .slice vA1 n vc1] (convertQ s p) := by
          revert r1
          clear hg5 hbl
          generalize wr.setCells (w.heap.size + 2) 0 [.string p.from_, .string p.to_, .int .i64 (idxO (schemaNames s) p.from_), .int .i64 (idxO (schemaNames s) p.to_), .slice vA1 n vc1] = W
          intro r1
          have t1 : SlB 5 56 qMoveR (mask 0 w.heap.size W) (.slice vA1 n vc1) (p.moves.map (moveQ s (idxO (schemaNames s) p.from_) (idxO (schemaNames s) p.to_))) := ⟨slR_of_row (mask_own r1 (by omega)) ⟨HC1.out.1, HC1.out.2⟩ (by rw [List.length_map]; exact HL1.out), by rw [List.length_map]; exact HB1.out⟩
          exact ⟨vA1, n, vc1, rfl, t1⟩
        refine ⟨rfl, .tuple #[.agg #[.string p.from_, .string p.to_, .int .i64 (idxO (schemaNames s) p.from_), .int .i64 (idxO (schemaNames s) p.to_), .slice vA1 n vc1], .bool ob], ?_, [.string p.from_, .string p.to_, .int .i64 (idxO (schemaNames s) p.from_), .int .i64 (idxO (schemaNames s) p.to_), .slice vA1 n vc1], by rw [HOK.out], key, hbl⟩
        simp [results, Try.results43, go_sem, *]

end Go.Proofs.Ytkkkephjljiplaa

namespace Go.Proofs.Ytkkkephjljiplaa
open Go.RowKit

theorem XT.drewN {w0 wr : World} {ss : Array Value} {T : TypeId} {xs zr : Array Value} {i j : Nat} (h : XT w0 ss T i xs j zr wr) (n : Nat) : XT w0 ss T i xs j zr (wr.drewN n) := ⟨below_drewN h.bl n, h.s, h.x, h.r⟩
theorem namesF_take (L : List QFrom) (k : Nat) : namesF (L.take k) = (namesF L).take k := by unfold namesF; rw [List.map_take]
theorem termQ_no {s : QSource} {L : List QFrom} {k : Nat} {t : QTerm} (hne : t.name ≠ noStr) (h : idx ((namesF L).take k) t.name = none) : termQ s (L.take k) t = t ∧ termOk s (L.take k) t = false := by
  unfold termQ termOk
  rw [namesF_take, h, if_neg hne, if_neg hne]
  exact ⟨rfl, rfl⟩
theorem termQ_hit {s : QSource} {L : List QFrom} {k j : Nat} {t : QTerm} {x : QFrom} (hne : t.name ≠ noStr) (hjk : j < k) (h : idx ((namesF L).take j) t.name = none) (hx : L[j]? = some x) (he : x.name = t.name) :
    termQ s (L.take k) t = { t with var := (j : Int), field := idxO (fieldNo s x.schema) t.path } ∧ termOk s (L.take k) t = decide (0 ≤ idxO (fieldNo s x.schema) t.path) := by
  have hm : (namesF L)[j]? = some x.name := by unfold namesF; rw [List.getElem?_map, hx]; rfl
  have hi : idx (namesF (L.take k)) t.name = some j := by
    rw [namesF_take]
    exact idx_hit (by rw [List.take_take, Nat.min_eq_left (by omega)]; exact h) (by rw [List.getElem?_take_of_lt hjk]; exact hm) he
  have hs : schemaF (L.take k) j = x.schema := by unfold schemaF; rw [List.getElem?_take_of_lt hjk, hx]
  unfold termQ termOk
  rw [if_neg hne, if_neg hne, hi]
  simp only [hs]
  exact ⟨trivial, trivial⟩
theorem termQ_str {s : QSource} {L : List QFrom} {t : QTerm} (h : t.name = noStr) : termQ s L t = { t with var := -1, field := 0 } ∧ termOk s L t = true := by
  unfold termQ termOk
  rw [if_pos h, if_pos h]
  exact ⟨rfl, rfl⟩
def RetTermQ (t : QTerm) (ok : Bool) (w : World) (e : Ending) (w' : World) : Prop := e = .returned (.tuple #[.agg #[.string t.name, .string t.path, .int .i64 t.var, .int .i64 t.field, .int .i64 t.n], .bool ok]) ∧ Below w.heap.size w w'

set_option maxHeartbeats 2000000 in
set_option maxRecDepth 100000 in
theorem refTerm_any (A1 A2 A3 A4 A5 A6 : Option Addr) (n1 c1 n2 c2 n3 c3 n4 c4 n5 c5 n6 c6 : Nat) (A : Option Addr) (n c k : Nat) (s : QSource) (L : List QFrom) (t : QTerm) (w : World) (hs : qSourceR w [.slice A1 n1 c1, .slice A2 n2 c2, .slice A3 n3 c3, .slice A4 n4 c4, .slice A5 n5 c5, .slice A6 n6 c6] s) (hf : SlR 8 qFromR w (.slice A n c) L) (hk : k ≤ n) :
    Calls Try.prog 83 #[.agg #[.slice A1 n1 c1, .slice A2 n2 c2, .slice A3 n3 c3, .slice A4 n4 c4, .slice A5 n5 c5, .slice A6 n6 c6], .slice A n c, .int .i64 (k : Int), .agg #[.string t.name, .string t.path, .int .i64 t.var, .int .i64 t.field, .int .i64 t.n]] w (RetTermQ (termQ s (L.take k) t) (termOk s (L.take k) t) w) := by
  have HS := Lib.hid hs
  have hle := hf.le
  have HF := Lib.hid hf
  clear hs hf
  by_cases hof : t.name = noStr
  · have t1 : t.name.toList.isEmpty = true := by rw [hof, noStr_list]; rfl
    have t2 : t.name.toList = [] := by rw [hof, noStr_list]
    have HQ := Lib.hid (termQ_str (s := s) (L := L.take k) hof)
    clear hof
    go_enter Try.func83, Try.ntmps83
    go_upto_region 1 with fail
    have hxt := XT.new w #[.slice A1 n1 c1, .slice A2 n2 c2, .slice A3 n3 c3, .slice A4 n4 c4, .slice A5 n5 c5, .slice A6 n6 c6] 59 #[.string t.name, .string t.path, .int .i64 t.var, .int .i64 t.field, .int .i64 t.n] #[.string ⟨#[]⟩, .string ⟨#[]⟩, .int .i64 0, .int .i64 0, .int .i64 0]
    generalize ((w.alloc (.cells #[.slice A1 n1 c1, .slice A2 n2 c2, .slice A3 n3 c3, .slice A4 n4 c4, .slice A5 n5 c5, .slice A6 n6 c6] 29)).alloc (.cells #[.string t.name, .string t.path, .int .i64 t.var, .int .i64 t.field, .int .i64 t.n] 59)).alloc (.cells #[.string ⟨#[]⟩, .string ⟨#[]⟩, .int .i64 0, .int .i64 0, .int .i64 0] 59) = wq at hxt ⊢
    have HXQ := Lib.hid hxt
    clear hxt
    have x0 := HXQ.out.x.cell 0
    have x1 := HXQ.out.x.cell 1
    have x2 := HXQ.out.x.cell 2
    have x3 := HXQ.out.x.cell 3
    have x4 := HXQ.out.x.cell 4
    simp only [List.getElem?_toArray, List.getElem?_cons_zero, List.getElem?_cons_succ] at x0 x1 x2 x3 x4
    have lx := HXQ.out.x.lt
    have z0 := HXQ.out.r.cell 0
    have u0 := HXQ.out.r.frozen 0
    have z1 := HXQ.out.r.cell 1
    have u1 := HXQ.out.r.frozen 1
    have z2 := HXQ.out.r.cell 2
    have u2 := HXQ.out.r.frozen 2
    have z3 := HXQ.out.r.cell 3
    have u3 := HXQ.out.r.frozen 3
    have z4 := HXQ.out.r.cell 4
    have u4 := HXQ.out.r.frozen 4
    simp only [List.getElem?_toArray, List.getElem?_cons_zero, List.getElem?_cons_succ] at z0 z1 z2 z3 z4
    have lz := HXQ.out.r.lt
    have y2 := HXQ.out.x.frozen 2
    have y3 := HXQ.out.x.frozen 3
    go_upto_region 4 with fail
    have hx2 := (HXQ.out.put (by omega) (by omega) 2 (.int .i64 (-1))).put (by omega) (by omega) 3 (.int .i64 0)
    simp only [List.setIfInBounds_toArray, List.set_cons_zero, List.set_cons_succ] at hx2
    generalize (wq.setCell ⟨w.heap.size + 1, 2, none⟩ (.int .i64 (-1))).setCell ⟨w.heap.size + 1, 3, none⟩ (.int .i64 0) = wq2 at hx2 ⊢
    clear HXQ x0 x1 x2 x3 x4 lx z0 z1 z2 z3 z4 u0 u1 u2 u3 u4 lz y2 y3
    have HXQ := Lib.hid hx2
    clear hx2
    have x0 := HXQ.out.x.cell 0
    have x1 := HXQ.out.x.cell 1
    have x2 := HXQ.out.x.cell 2
    have x3 := HXQ.out.x.cell 3
    have x4 := HXQ.out.x.cell 4
    simp only [List.getElem?_toArray, List.getElem?_cons_zero, List.getElem?_cons_succ] at x0 x1 x2 x3 x4
    have lx := HXQ.out.x.lt
    have z0 := HXQ.out.r.cell 0
    have u0 := HXQ.out.r.frozen 0
    have z1 := HXQ.out.r.cell 1
    have u1 := HXQ.out.r.frozen 1
    have z2 := HXQ.out.r.cell 2
    have u2 := HXQ.out.r.frozen 2
    have z3 := HXQ.out.r.cell 3
    have u3 := HXQ.out.r.frozen 3
    have z4 := HXQ.out.r.cell 4
    have u4 := HXQ.out.r.frozen 4
    simp only [List.getElem?_toArray, List.getElem?_cons_zero, List.getElem?_cons_succ] at z0 z1 z2 z3 z4
    have lz := HXQ.out.r.lt
    go_wp2_with fail
    have hbl : Below w.heap.size w (wq2.setCells (w.heap.size + 2) 0 [.string t.name, .string t.path, .int .i64 (-1), .int .i64 (0), .int .i64 t.n]) := below_grown HXQ.out.bl (grown_setL _ _ _ (World.grownBy.refl _ _)) (by omega)
    refine ⟨rfl, .tuple #[.agg #[.string t.name, .string t.path, .int .i64 (-1), .int .i64 (0), .int .i64 t.n], .bool (true)], ?_, by rw [HQ.out.1, HQ.out.2], hbl⟩
    simp [results, Try.results83, go_sem, *]
  · have t1 : t.name.toList.isEmpty = false := noStr_ne hof
    have HNE := Lib.hid hof
    clear hof
    go_enter Try.func83, Try.ntmps83
    go_upto_region 1 with fail
    have hxt := XT.new w #[.slice A1 n1 c1, .slice A2 n2 c2, .slice A3 n3 c3, .slice A4 n4 c4, .slice A5 n5 c5, .slice A6 n6 c6] 59 #[.string t.name, .string t.path, .int .i64 t.var, .int .i64 t.field, .int .i64 t.n] #[.string ⟨#[]⟩, .string ⟨#[]⟩, .int .i64 0, .int .i64 0, .int .i64 0]
    generalize ((w.alloc (.cells #[.slice A1 n1 c1, .slice A2 n2 c2, .slice A3 n3 c3, .slice A4 n4 c4, .slice A5 n5 c5, .slice A6 n6 c6] 29)).alloc (.cells #[.string t.name, .string t.path, .int .i64 t.var, .int .i64 t.field, .int .i64 t.n] 59)).alloc (.cells #[.string ⟨#[]⟩, .string ⟨#[]⟩, .int .i64 0, .int .i64 0, .int .i64 0] 59) = wa at hxt ⊢
    have x0 := hxt.x.cell 0
    simp only [List.getElem?_toArray, List.getElem?_cons_zero] at x0
    have HXQ := Lib.hid hxt
    clear hxt
    go_wp2_with fail
    clear x0
    go_loopg [10] k (fun q i wr => ∃ j : Nat, j ≤ k ∧ q = k - j ∧ i = .int .i64 (j : Int) ∧ idx ((namesF L).take j) t.name = none ∧ XT w #[.slice A1 n1 c1, .slice A2 n2 c2, .slice A3 n3 c3, .slice A4 n4 c4, .slice A5 n5 c5, .slice A6 n6 c6] 59 1 #[.string t.name, .string t.path, .int .i64 t.var, .int .i64 t.field, .int .i64 t.n] 2 #[.string ⟨#[]⟩, .string ⟨#[]⟩, .int .i64 0, .int .i64 0, .int .i64 0] wr)
    case atStart => exact ⟨0, Nat.zero_le _, rfl, rfl, rfl, HXQ.out⟩
    case round =>
      clear HXQ
      obtain ⟨j, hj, hq, rfl, hno, hxr⟩ := hrel
      have HQ := Lib.hid hq
      have HNO := Lib.hid hno
      have HXQ := Lib.hid hxr
      clear hq hno hxr
      by_cases hlt : j < k
      · have hkn : (j : Int) < (k : Int) := by omega
        have hk0 : (0 : Int) ≤ (j : Int) := by omega
        have hkn2 : (j : Int) < (n : Int) := by omega
        obtain ⟨b, off, x, rfl, hbl, hx, e0, e1, e2, -⟩ := qFrom_at (HF.out.mono qFromR_mono HXQ.out.bl) (show j < n by omega)
        have hblw : b < w.heap.size := by
          obtain ⟨b', off', x', cs', e', hb', _⟩ := HF.out.at_ (show j < n by omega)
          injection e' with e'
          injection e' with e1 e2 e3
          omega
        have HX := Lib.hid hx
        clear hx e1
        have x0 := HXQ.out.x.cell 0
        simp only [List.getElem?_toArray, List.getElem?_cons_zero] at x0
        have lx := HXQ.out.x.lt
        by_cases he : x.name = t.name
        · have te : (x.name.toList == t.name.toList) = true := by rw [str_beq]; simpa using he
          have HT := Lib.hid (termQ_hit (s := s) HNE.out hlt HNO.out HX.out he)
          clear he HNO HNE
          have x2 := HXQ.out.x.cell 2
          simp only [List.getElem?_toArray, List.getElem?_cons_zero, List.getElem?_cons_succ] at x2
          have y2 := HXQ.out.x.frozen 2
          go_upto_region 8 with fail
          go_quiet (fail)
          go_upto_region 10 with fail
          have hx2 := (HXQ.out.drewN nq).put (by omega) (by omega) 2 (.int .i64 (j : Int))
          simp only [List.setIfInBounds_toArray, List.set_cons_zero, List.set_cons_succ] at hx2
          have hb2 : Below wr.heap.size wr (wr.drewN nq) := below_drewN (Below.refl _ _) _
          have e2' : ((wr.drewN nq).setCell ⟨w.heap.size + 1, 2, none⟩ (.int .i64 (j : Int))).cell? ⟨b, off + j * 8 + 2, none⟩ = some (.int .i64 x.schema) := put_ne ((hb2.cell (p := ⟨b, off + j * 8 + 2, none⟩) hbl).trans e2) (.inl (by omega))
          generalize (wr.drewN nq).setCell ⟨w.heap.size + 1, 2, none⟩ (.int .i64 (j : Int)) = wq at hx2 e2' ⊢
          clear HXQ x0 lx x2 y2 e0 e2 hb2
          have e2 := e2'
          clear e2'
          have HXQ := Lib.hid hx2
          clear hx2
          have lb : b < wq.heap.size := Nat.lt_of_lt_of_le hblw HXQ.out.bl.size
          obtain ⟨k0, k1, k2, k3, k4, k5⟩ := six_cells HXQ.out.s (Below.refl _ _)
          have lk := HXQ.out.s.lt
          have lx := HXQ.out.x.lt
          have x1 := HXQ.out.x.cell 1
          have x3 := HXQ.out.x.cell 3
          simp only [List.getElem?_toArray, List.getElem?_cons_zero, List.getElem?_cons_succ] at x1 x3
          have HSQ := Lib.hid (src_parts (qSourceR_mono _ _ HXQ.out.bl.drew _ _ HS.out)).2.2.1.1
          have HKT : Hid (∀ X : World, Below wq.heap.size wq X → (X.cell? ⟨w.heap.size, 0, none⟩ = some (.slice A1 n1 c1) ∧ X.cell? ⟨w.heap.size, 1, none⟩ = some (.slice A2 n2 c2) ∧ X.cell? ⟨w.heap.size, 2, none⟩ = some (.slice A3 n3 c3) ∧ X.cell? ⟨w.heap.size, 3, none⟩ = some (.slice A4 n4 c4) ∧ X.cell? ⟨w.heap.size, 4, none⟩ = some (.slice A5 n5 c5) ∧ X.cell? ⟨w.heap.size, 5, none⟩ = some (.slice A6 n6 c6) ∧ X.cell? ⟨b, off + j * 8 + 2, none⟩ = some (.int .i64 x.schema) ∧ X.cell? ⟨w.heap.size + 1, 1, none⟩ = some (.string t.path) ∧ wq.grownBy X (some (w.heap.size + 1))) ∧ ((X.setCell ⟨w.heap.size + 1, 3, none⟩ (.int .i64 (idxO (fieldNo s x.schema) t.path))).cell? ⟨w.heap.size, 0, none⟩ = some (.slice A1 n1 c1) ∧ (X.setCell ⟨w.heap.size + 1, 3, none⟩ (.int .i64 (idxO (fieldNo s x.schema) t.path))).cell? ⟨w.heap.size, 1, none⟩ = some (.slice A2 n2 c2) ∧ (X.setCell ⟨w.heap.size + 1, 3, none⟩ (.int .i64 (idxO (fieldNo s x.schema) t.path))).cell? ⟨w.heap.size, 2, none⟩ = some (.slice A3 n3 c3) ∧ (X.setCell ⟨w.heap.size + 1, 3, none⟩ (.int .i64 (idxO (fieldNo s x.schema) t.path))).cell? ⟨w.heap.size, 3, none⟩ = some (.slice A4 n4 c4) ∧ (X.setCell ⟨w.heap.size + 1, 3, none⟩ (.int .i64 (idxO (fieldNo s x.schema) t.path))).cell? ⟨w.heap.size, 4, none⟩ = some (.slice A5 n5 c5) ∧ (X.setCell ⟨w.heap.size + 1, 3, none⟩ (.int .i64 (idxO (fieldNo s x.schema) t.path))).cell? ⟨w.heap.size, 5, none⟩ = some (.slice A6 n6 c6) ∧ (X.setCell ⟨w.heap.size + 1, 3, none⟩ (.int .i64 (idxO (fieldNo s x.schema) t.path))).cell? ⟨b, off + j * 8 + 2, none⟩ = some (.int .i64 x.schema) ∧ (X.setCell ⟨w.heap.size + 1, 3, none⟩ (.int .i64 (idxO (fieldNo s x.schema) t.path))).cell? ⟨w.heap.size + 1, 1, none⟩ = some (.string t.path) ∧ wq.grownBy (X.setCell ⟨w.heap.size + 1, 3, none⟩ (.int .i64 (idxO (fieldNo s x.schema) t.path))) (some (w.heap.size + 1)))) := Lib.hid (fun X hX => ⟨⟨(hX.cell (p := ⟨w.heap.size, 0, none⟩) lk).trans k0, (hX.cell (p := ⟨w.heap.size, 1, none⟩) lk).trans k1, (hX.cell (p := ⟨w.heap.size, 2, none⟩) lk).trans k2, (hX.cell (p := ⟨w.heap.size, 3, none⟩) lk).trans k3, (hX.cell (p := ⟨w.heap.size, 4, none⟩) lk).trans k4, (hX.cell (p := ⟨w.heap.size, 5, none⟩) lk).trans k5, (hX.cell (p := ⟨b, off + j * 8 + 2, none⟩) lb).trans e2, (hX.cell (p := ⟨w.heap.size + 1, 1, none⟩) lx).trans x1, grown_of_below hX _⟩, ⟨put_ne ((hX.cell (p := ⟨w.heap.size, 0, none⟩) lk).trans k0) (.inl (by omega)), put_ne ((hX.cell (p := ⟨w.heap.size, 1, none⟩) lk).trans k1) (.inl (by omega)), put_ne ((hX.cell (p := ⟨w.heap.size, 2, none⟩) lk).trans k2) (.inl (by omega)), put_ne ((hX.cell (p := ⟨w.heap.size, 3, none⟩) lk).trans k3) (.inl (by omega)), put_ne ((hX.cell (p := ⟨w.heap.size, 4, none⟩) lk).trans k4) (.inl (by omega)), put_ne ((hX.cell (p := ⟨w.heap.size, 5, none⟩) lk).trans k5) (.inl (by omega)), put_ne ((hX.cell (p := ⟨b, off + j * 8 + 2, none⟩) lb).trans e2) (.inl (by omega)), put_ne ((hX.cell (p := ⟨w.heap.size + 1, 1, none⟩) lx).trans x1) (.inr (by omega)), grownb_put hX _ _⟩⟩)
          apply wp_viaS (G := fun w3 => ∃ w1, Below wq.heap.size wq w1 ∧ w3 = w1.setCell ⟨w.heap.size + 1, 3, none⟩ (.int .i64 (idxO (fieldNo s x.schema) t.path)))
          · go_region_held3 (fun w' => w'.cell? ⟨w.heap.size, 0, none⟩ = some (.slice A1 n1 c1) ∧ w'.cell? ⟨w.heap.size, 1, none⟩ = some (.slice A2 n2 c2) ∧ w'.cell? ⟨w.heap.size, 2, none⟩ = some (.slice A3 n3 c3) ∧ w'.cell? ⟨w.heap.size, 3, none⟩ = some (.slice A4 n4 c4) ∧ w'.cell? ⟨w.heap.size, 4, none⟩ = some (.slice A5 n5 c5) ∧ w'.cell? ⟨w.heap.size, 5, none⟩ = some (.slice A6 n6 c6) ∧ w'.cell? ⟨b, off + j * 8 + 2, none⟩ = some (.int .i64 x.schema) ∧ w'.cell? ⟨w.heap.size + 1, 1, none⟩ = some (.string t.path) ∧ wq.grownBy w' (some (w.heap.size + 1)))
              (first | exact (HKT.out _ HBC.out).1 | exact (HKT.out _ HBC.out).2 | exact (HKT.out _ (Below.refl _ _).drew).1 | exact (HKT.out _ (Below.refl _ _)).1)
              (first
                | (go_at_call 54; ((with_reducible refine (refFind_any _ _ _ (fieldNo s x.schema) (t.path) _ HSL.out).mono ?_)); rintro e w' ⟨rfl, rfl⟩)
                | (go_at_call 61; ((with_reducible refine (refFields_any A1 A2 A3 A4 A5 A6 n1 c1 n2 c2 n3 c3 n4 c4 n5 c5 n6 c6 s x.schema _ HSQ.out).mono ?_)); rintro e wc ⟨xA, xc, rfl, hsl, hbc⟩
                   have hbz : Below wq.heap.size wq wc := Below.trans (Below.refl _ _).drew hbc
                   have HSL := Lib.hid hsl.1
                   have HBC := Lib.hid hbz
                   have rs := (hbz.cell (p := ⟨w.heap.size + 1, 3, none⟩) lx).trans x3
                   have fs := ((HXQ.out.x.below hbz lx).frozen 3)
                   have lz := Nat.lt_of_lt_of_le lx hbz.size
                   clear hsl hbc hbz))
            all_goals exact ⟨xA, xc, rfl, _, HBC.out, rfl⟩
          rintro xA xc w3 ⟨w1, hb1, rfl⟩
          clear HKT
          have hxn := (HXQ.out.below hb1).put (by omega) (by omega) 3 (.int .i64 (idxO (fieldNo s x.schema) t.path))
          simp only [List.setIfInBounds_toArray, List.set_cons_zero, List.set_cons_succ] at hxn
          generalize w1.setCell ⟨w.heap.size + 1, 3, none⟩ (.int .i64 (idxO (fieldNo s x.schema) t.path)) = wq2 at hxn ⊢
          clear hb1 k0 k1 k2 k3 k4 k5 lk lx x1 x3 HXQ e2 lb HSQ
          have HXQ := Lib.hid hxn
          clear hxn
          go_upto_region 11 with fail
          have x0 := HXQ.out.x.cell 0
          have x1 := HXQ.out.x.cell 1
          have x2 := HXQ.out.x.cell 2
          have x3 := HXQ.out.x.cell 3
          have x4 := HXQ.out.x.cell 4
          simp only [List.getElem?_toArray, List.getElem?_cons_zero, List.getElem?_cons_succ] at x0 x1 x2 x3 x4
          have lx := HXQ.out.x.lt
          have z0 := HXQ.out.r.cell 0
          have u0 := HXQ.out.r.frozen 0
          have z1 := HXQ.out.r.cell 1
          have u1 := HXQ.out.r.frozen 1
          have z2 := HXQ.out.r.cell 2
          have u2 := HXQ.out.r.frozen 2
          have z3 := HXQ.out.r.cell 3
          have u3 := HXQ.out.r.frozen 3
          have z4 := HXQ.out.r.cell 4
          have u4 := HXQ.out.r.frozen 4
          simp only [List.getElem?_toArray, List.getElem?_cons_zero, List.getElem?_cons_succ] at z0 z1 z2 z3 z4
          have lz := HXQ.out.r.lt
          apply wp_via0 (G := fun w3 => w3 = (wq2.drew).setCells (w.heap.size + 2) 0 [.string t.name, .string t.path, .int .i64 (j), .int .i64 (idxO (fieldNo s x.schema) t.path), .int .i64 t.n])
          · go_region
            all_goals exact ⟨rfl, rfl⟩
          rintro w3 rfl
          have hbl : Below w.heap.size w ((wq2.drew).setCells (w.heap.size + 2) 0 [.string t.name, .string t.path, .int .i64 (j), .int .i64 (idxO (fieldNo s x.schema) t.path), .int .i64 t.n]) := below_grown HXQ.out.bl.drew (grown_setL _ _ _ (World.grownBy.refl _ _)) (by omega)
          go_wp2_with fail
          refine ⟨rfl, .tuple #[.agg #[.string t.name, .string t.path, .int .i64 (j), .int .i64 (idxO (fieldNo s x.schema) t.path), .int .i64 t.n], .bool (decide (0 ≤ idxO (fieldNo s x.schema) t.path))], ?_, by rw [HT.out.1, HT.out.2], hbl⟩
          simp [results, Try.results83, go_sem, World.setCells, *]
        · have te : (x.name.toList == t.name.toList) = false := by rw [str_beq]; simpa using he
          have HN := Lib.hid (idx_step (l := namesF L) HNO.out (by unfold namesF; rw [List.getElem?_map, HX.out]; rfl) he)
          clear he
          go_upto_region 8 with fail
          go_quiet (fail)
          go_wp2_with fail
          go_roundg (k - (j + 1))
          case measure => have := HQ.out; omega
          case rel => exact ⟨j + 1, by omega, rfl, by go_num, HN.out, HXQ.out.drewN _⟩
      · have hkn : ¬ (j : Int) < (k : Int) := by omega
        have hjk : j = k := by omega
        have HT := Lib.hid (termQ_no (s := s) (L := L) (k := k) HNE.out (by rw [← hjk]; exact HNO.out))
        clear hjk
        have x0 := HXQ.out.x.cell 0
        have x1 := HXQ.out.x.cell 1
        have x2 := HXQ.out.x.cell 2
        have x3 := HXQ.out.x.cell 3
        have x4 := HXQ.out.x.cell 4
        simp only [List.getElem?_toArray, List.getElem?_cons_zero, List.getElem?_cons_succ] at x0 x1 x2 x3 x4
        have lx := HXQ.out.x.lt
        have z0 := HXQ.out.r.cell 0
        have u0 := HXQ.out.r.frozen 0
        have z1 := HXQ.out.r.cell 1
        have u1 := HXQ.out.r.frozen 1
        have z2 := HXQ.out.r.cell 2
        have u2 := HXQ.out.r.frozen 2
        have z3 := HXQ.out.r.cell 3
        have u3 := HXQ.out.r.frozen 3
        have z4 := HXQ.out.r.cell 4
        have u4 := HXQ.out.r.frozen 4
        simp only [List.getElem?_toArray, List.getElem?_cons_zero, List.getElem?_cons_succ] at z0 z1 z2 z3 z4
        have lz := HXQ.out.r.lt
        go_wp2_with fail
        have hbl : Below w.heap.size w (wr.setCells (w.heap.size + 2) 0 [.string t.name, .string t.path, .int .i64 t.var, .int .i64 t.field, .int .i64 t.n]) := below_grown HXQ.out.bl (grown_setL _ _ _ (World.grownBy.refl _ _)) (by omega)
        refine ⟨rfl, .tuple #[.agg #[.string t.name, .string t.path, .int .i64 t.var, .int .i64 t.field, .int .i64 t.n], .bool (false)], ?_, by rw [HT.out.1, HT.out.2], hbl⟩
        simp [results, Try.results83, go_sem, *]

end Go.Proofs.Ytkkkephjljiplaa

namespace Go.Proofs.Ytkkkephjljiplaa
open Go.RowKit

section
variable {P : Program} {ops : Array Oper} {Q : Exit → Act → World → Prop} {md : Region.Mode} {S : World → Prop} {D : List Nat}

/-- Whatever order is picked, and S holds behind every operation but those of D. -/
def wpAnyL (P : Program) (md : Region.Mode) (ops : Array Oper) (Q : Exit → Act → World → Prop) (S : World → Prop) (D : List Nat) : Nat → Array Bool → Act → World → Prop
  | 0, listed, a, w => Region.ready md ops listed = [] ∧ Q .normal a w
  | fuel + 1, listed, a, w =>
    (Region.ready md ops listed = [] → Q .normal a w) ∧
    ∀ i ∈ Region.ready md ops listed, wpOp P ops Q i (fun a' w' => (i ∈ D ∨ (S w → S w')) ∧ wpAnyL P md ops Q S D fuel (listed.setIfInBounds i true) a' w') a w

theorem wpAny_of_L : ∀ (fuel : Nat) (listed : Array Bool) (a : Act) (w : World), wpAnyL P md ops Q S D fuel listed a w → wpAny P md ops Q fuel listed a w
  | 0, _, _, _, h => h
  | fuel + 1, _, _, _, h => ⟨h.1, fun i hi => wpOp_mono (fun a' w' h' => wpAny_of_L fuel _ a' w' h'.2) (h.2 i hi)⟩

theorem wpAnyL_first {i : Nat} {oi : Oper} {v : Value} (hi : ops[i]? = some oi) (hsel : ∀ (j : Nat) (o : Oper) cs b, ops[j]? = some o → o.op ≠ .select cs b)
    (hQ : ∀ c a w, Q (.panic c) (a.put oi.dst v) w → Q (.panic c) a w) (hD : ∀ d ∈ D, ∃ od, ops[d]? = some od ∧ ∃ e ∈ od.after, Region.binds md e = true ∧ e.on = i) :
    ∀ (fuel : Nat) (listed : Array Bool) (a : Act) (w : World),
      (∀ j oj, ops[j]? = some oj → j ≠ i → listed.getD j true = false → (∀ e ∈ oj.after, Region.binds md e = true → e.on ≠ i) → oi.apart ops oj = true) →
      i ∈ Region.ready md ops listed → YieldsIf P ops S oi v a → S w →
      wpAnyL P md ops Q S D fuel (listed.setIfInBounds i true) (a.put oi.dst v) w → wpAnyL P md ops Q S D (fuel + 1) listed a w := by
  intro fuel
  induction fuel with
  | zero =>
    intro listed a w _ hr hy hS H
    refine ⟨fun h => (by rw [h] at hr; cases hr), fun j hj => ?_⟩
    by_cases hji : j = i
    · subst hji; exact hy.wpOp hi hS ⟨.inr id, H⟩
    · have := ready_mono hj hji
      rw [H.1] at this
      cases this
  | succ fuel ih =>
    intro listed a w hfree hr hy hS H
    refine ⟨fun h => (by rw [h] at hr; cases hr), fun j hj => ?_⟩
    by_cases hji : j = i
    · subst hji; exact hy.wpOp hi hS ⟨.inr id, H⟩
    · have h1 := H.2 j (ready_mono hj hji)
      obtain ⟨hjun, oj, hoj, hall⟩ := mem_ready.1 hj
      have hnot : ∀ e ∈ oj.after, Region.binds md e = true → e.on ≠ i := fun e he hb heq => by
        have h1 := hall e he hb
        have h0 := (mem_ready.1 hr).1
        rw [heq] at h1
        rcases Nat.lt_or_ge i listed.size with h' | h'
        · simp [h'] at h0 h1; rw [h0] at h1; cases h1
        · simp [Array.getElem?_eq_none h'] at h1
      have hjD : j ∉ D := fun hd => by
        obtain ⟨od, hod, e, he, hb, heq⟩ := hD j hd
        rw [hoj, Option.some.injEq] at hod
        subst hod
        exact hnot e he hb heq
      have h2 := wpOp_putIf hoj (hfree j oj hoj hji hjun hnot) (fun cs b => hsel i oi cs b hi) (fun cs b => hsel j oj cs b hoj) hQ hy h1
      have hfree' : ∀ k ok, ops[k]? = some ok → k ≠ i → (listed.setIfInBounds j true).getD k true = false →
          (∀ e ∈ ok.after, Region.binds md e = true → e.on ≠ i) → oi.apart ops ok = true := fun k ok hk hki hun hno => by
        refine hfree k ok hk hki ?_ hno
        by_cases hjk : j = k
        · subst hjk; exact hjun
        · rw [getD_set_ne true hjk] at hun; exact hun
      refine wpOp_mono (fun a' w' h3 => ⟨h3.2.1, ih (listed.setIfInBounds j true) a' w' hfree' (ready_mono hr (Ne.symm hji)) h3.1 (h3.2.1.resolve_left hjD hS) ?_⟩) h2
      rw [Array.setIfInBounds_comm _ _ hji]
      exact h3.2.2

theorem wpAnyL_first0 {i : Nat} {oi : Oper} {v : Value} (hi : ops[i]? = some oi) (hsel : ∀ (j : Nat) (o : Oper) cs b, ops[j]? = some o → o.op ≠ .select cs b)
    (hQ : ∀ c a w, Q (.panic c) (a.put oi.dst v) w → Q (.panic c) a w) :
    ∀ (fuel : Nat) (listed : Array Bool) (a : Act) (w : World),
      (∀ j oj, ops[j]? = some oj → j ≠ i → listed.getD j true = false → (∀ e ∈ oj.after, Region.binds md e = true → e.on ≠ i) → oi.apart ops oj = true) →
      i ∈ Region.ready md ops listed → YieldsIf P ops (fun _ => True) oi v a →
      wpAnyL P md ops Q S D fuel (listed.setIfInBounds i true) (a.put oi.dst v) w → wpAnyL P md ops Q S D (fuel + 1) listed a w := by
  intro fuel
  induction fuel with
  | zero =>
    intro listed a w _ hr hy H
    refine ⟨fun h => (by rw [h] at hr; cases hr), fun j hj => ?_⟩
    by_cases hji : j = i
    · subst hji; exact hy.wpOp hi trivial ⟨.inr id, H⟩
    · have := ready_mono hj hji
      rw [H.1] at this
      cases this
  | succ fuel ih =>
    intro listed a w hfree hr hy H
    refine ⟨fun h => (by rw [h] at hr; cases hr), fun j hj => ?_⟩
    by_cases hji : j = i
    · subst hji; exact hy.wpOp hi trivial ⟨.inr id, H⟩
    · have h1 := H.2 j (ready_mono hj hji)
      obtain ⟨hjun, oj, hoj, hall⟩ := mem_ready.1 hj
      have hnot : ∀ e ∈ oj.after, Region.binds md e = true → e.on ≠ i := fun e he hb heq => by
        have h1 := hall e he hb
        have h0 := (mem_ready.1 hr).1
        rw [heq] at h1
        rcases Nat.lt_or_ge i listed.size with h' | h'
        · simp [h'] at h0 h1; rw [h0] at h1; cases h1
        · simp [Array.getElem?_eq_none h'] at h1
      have h2 := wpOp_putIf hoj (hfree j oj hoj hji hjun hnot) (fun cs b => hsel i oi cs b hi) (fun cs b => hsel j oj cs b hoj) hQ hy h1
      have hfree' : ∀ k ok, ops[k]? = some ok → k ≠ i → (listed.setIfInBounds j true).getD k true = false →
          (∀ e ∈ ok.after, Region.binds md e = true → e.on ≠ i) → oi.apart ops ok = true := fun k ok hk hki hun hno => by
        refine hfree k ok hk hki ?_ hno
        by_cases hjk : j = k
        · subst hjk; exact hjun
        · rw [getD_set_ne true hjk] at hun; exact hun
      refine wpOp_mono (fun a' w' h3 => ⟨h3.2.1, ih (listed.setIfInBounds j true) a' w' hfree' (ready_mono hr (Ne.symm hji)) h3.1 ?_⟩) h2
      rw [Array.setIfInBounds_comm _ _ hji]
      exact h3.2.2

/-- Take number i first. -/
theorem wpAnyL_take {i : Nat} {oi : Oper} {v : Value} {fuel : Nat} {listed : Array Bool} {a : Act} {w : World} (hi : ops[i]? = some oi)
    (hs : Region.noSelect ops = true) (hf : Region.free md ops listed i = true) (hr : (Region.ready md ops listed).contains i = true) (hD : D.all (fun d => Region.waitsFor md ops d i) = true)
    (hQ : ∀ c a w, Q (.panic c) (a.put oi.dst v) w → Q (.panic c) a w) (hy : YieldsIf P ops S oi v a) (hS : S w)
    (h : wpAnyL P md ops Q S D fuel (listed.setIfInBounds i true) (a.put oi.dst v) w) : wpAnyL P md ops Q S D (fuel + 1) listed a w :=
  wpAnyL_first hi (Region.noSelect_spec hs) hQ (fun d hd => Region.waitsFor_spec (List.all_eq_true.1 hD d hd)) fuel listed a w (Region.free_spec hi hf) (by simpa using hr) hy hS h

/-- Take number i first, whatever the world. -/
theorem wpAnyL_take0 {i : Nat} {oi : Oper} {v : Value} {fuel : Nat} {listed : Array Bool} {a : Act} {w : World} (hi : ops[i]? = some oi)
    (hs : Region.noSelect ops = true) (hf : Region.free md ops listed i = true) (hr : (Region.ready md ops listed).contains i = true)
    (hQ : ∀ c a w, Q (.panic c) (a.put oi.dst v) w → Q (.panic c) a w) (hy : YieldsIf P ops (fun _ => True) oi v a)
    (h : wpAnyL P md ops Q S D fuel (listed.setIfInBounds i true) (a.put oi.dst v) w) : wpAnyL P md ops Q S D (fuel + 1) listed a w :=
  wpAnyL_first0 hi (Region.noSelect_spec hs) hQ fuel listed a w (Region.free_spec hi hf) (by simpa using hr) hy h

/-- Only number i may come up. -/
theorem wpAnyL_one {i : Nat} {o : Oper} {fuel : Nat} {listed : Array Bool} {a : Act} {w : World} (hr : Region.ready md ops listed = [i]) (ho : ops[i]? = some o)
    (h : ∀ K : Act → World → Prop, Shut (∀ a' w', (D.contains i = true ∨ (S w → S w')) → wpAnyL P md ops Q S D fuel (listed.setIfInBounds i true) a' w' → K a' w') → if Region.wanted o (yielded ops a.tmps) = true then Oper.wp P o a w K Q else K (a.put o.dst undef) w) :
    wpAnyL P md ops Q S D (fuel + 1) listed a w := by
  refine ⟨fun h0 => absurd (hr ▸ h0) (by simp), fun j hj => ?_⟩
  rw [hr, List.mem_singleton] at hj
  subst hj
  exact wpOp_step ho (fun K hK => h K (fun a w hS hW => hK a w ⟨Or.imp (fun h => by simpa using h) id hS, hW⟩))
theorem wpAnyL_done {listed : Array Bool} {a : Act} {w : World} (hr : Region.ready md ops listed = []) (h : Q .normal a w) :
    ∀ fuel, wpAnyL P md ops Q S D fuel listed a w
  | 0 => ⟨hr, h⟩
  | _ + 1 => ⟨fun _ => h, by rw [hr]; simp⟩
theorem wp_region_late {id : Nat} {a : Act} {w : World} (S : World → Prop) (D : List Nat) (hm : P.follows .mixedOrders = true)
    (h : wpAnyL P .any ops Q S D ops.size (Array.replicate ops.size false) a w.drew) : (Code.region id ops true).wp P Q a w :=
  wp_region_any hm (wpAny_of_L _ _ _ _ h)
end
end Go.Proofs.Ytkkkephjljiplaa
