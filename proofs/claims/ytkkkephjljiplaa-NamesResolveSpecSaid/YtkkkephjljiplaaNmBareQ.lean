/- What stands while Bare fills its variables and rows. Plain lemmas. -/
import Derived.Test.YtkkkephjljiplaaNmBareP
import Derived.Test.YtkkkephjljiplaaPut
namespace Go.Proofs.Ytkkkephjljiplaa
open Go.RowKit

/-- The call's three variables hidden. -/
def mk3 (w wr : World) : World := mask w.heap.size (w.heap.size + 3) wr
theorem mk3_size {w wr : World} : (mk3 w wr).heap.size = wr.heap.size := mask_size
/-- What was read at wf with the variables hidden is so read at wr. -/
def Kp (w wf wr : World) : Prop := Below wf.heap.size (mk3 w wf) (mk3 w wr)
section
variable {w wf wr wr' : World}
theorem Kp.refl (w wf : World) : Kp w wf wf := Below.refl _ _
theorem Kp.below (h : Kp w wf wr) (hb : Below wr.heap.size wr wr') : Kp w wf wr' := by
  have := h.size
  rw [mk3_size, mk3_size] at this
  have hb' : Below (mk3 w wr).heap.size (mk3 w wr) (mk3 w wr') := mask_below0 hb
  exact Below.trans h (hb'.mono (by rw [mk3_size]; exact this))
theorem Kp.far (h : Kp w wf wr) {K : Nat} (hg : wr.grownBy wr' (some K)) (hK : wf.heap.size ≤ K) : Kp w wf wr' := by
  have := h.size
  rw [mk3_size, mk3_size] at this
  exact Below.grown h (mask_grown hg) (by rw [← mk3_size (w := w) (wr := wr)] at this; exact this) (fun k e => by injection e with e; omega)
theorem Kp.own (h : Kp w wf wr) {G : Nat} (hg : wr.grownBy wr' (some G)) (h1 : w.heap.size ≤ G) (h2 : G < w.heap.size + 3) : Kp w wf wr' := by
  have := h.size
  rw [mk3_size, mk3_size] at this
  have hb' : Below (mk3 w wr).heap.size (mk3 w wr) (mk3 w wr') := mask_below hg h1 h2
  exact Below.trans h (hb'.mono (by rw [mk3_size]; exact this))
theorem Kp.drew (h : Kp w wf wr) : Kp w wf wr.drew := h.below (Below.refl _ _).drew
theorem Kp.sl {α : Type} {sz b : Nat} {R : World → List Value → α → Prop} {v : Value} {l : List α} (hR : Mono R) (h : Kp w wf wr) (hs : SlB sz b R (mk3 w wf) v l) : SlB sz b R (mk3 w wr) v l := hs.mono hR (by rw [mk3_size]; exact h)
end

structure XB (w : World) (ss zr cs : Array Value) (wr : World) : Prop where
  bl : Below w.heap.size w wr
  s : Blk wr w.heap.size 29 ss
  r : Blk wr (w.heap.size + 1) 29 zr
  x : Blk wr (w.heap.size + 2) 29 cs
section
variable {w wr wr' : World} {ss zr cs : Array Value}
theorem XB.lt (h : XB w ss zr cs wr) : w.heap.size + 3 ≤ wr.heap.size := h.x.lt
theorem XB.far (h : XB w ss zr cs wr) {K : Nat} (hg : wr.grownBy wr' (some K)) (hK : w.heap.size + 3 ≤ K) : XB w ss zr cs wr' :=
  ⟨below_grown h.bl hg (by omega), blk_grown h.s hg (by omega), blk_grown h.r hg (by omega), blk_grown h.x hg (by omega)⟩
theorem XB.below (h : XB w ss zr cs wr) (hb : Below wr.heap.size wr wr') : XB w ss zr cs wr' :=
  ⟨h.bl.trans (hb.mono h.bl.size), h.s.below hb h.s.lt, h.r.below hb h.r.lt, h.x.below hb h.x.lt⟩
theorem XB.put (h : XB w ss zr cs wr) (i : Nat) (u : Value) : XB w ss zr (cs.setIfInBounds i u) (wr.setCell ⟨w.heap.size + 2, i, none⟩ u) :=
  ⟨below_grown h.bl (grown_near (World.grownBy.refl _ _) _ _) (by omega), h.s.far (by simp) u, h.r.far (by simp) u, h.x.put i u⟩
end

/-- A variable of a round's own, made at w0's end. -/
structure YR (w0 : World) (T : TypeId) (cs : Array Value) (wr : World) : Prop where
  bl : Below w0.heap.size w0 wr
  y : Blk wr w0.heap.size T cs
section
variable {w0 wr wr' : World} {T : TypeId} {cs : Array Value}
theorem YR.new (w0 : World) (T : TypeId) (cs : Array Value) : YR w0 T cs (w0.alloc (.cells cs T)) := ⟨(Below.refl _ _).alloc (Nat.le_refl _) _, Blk.new _ _ _⟩
theorem YR.far (h : YR w0 T cs wr) {K : Nat} (hg : wr.grownBy wr' (some K)) (hK : w0.heap.size + 1 ≤ K) : YR w0 T cs wr' :=
  ⟨below_grown h.bl hg (by omega), blk_grown h.y hg (by omega)⟩
theorem YR.below (h : YR w0 T cs wr) (hb : Below wr.heap.size wr wr') : YR w0 T cs wr' := ⟨h.bl.trans (hb.mono h.bl.size), h.y.below hb h.y.lt⟩
theorem YR.put (h : YR w0 T cs wr) (i : Nat) (u : Value) : YR w0 T (cs.setIfInBounds i u) (wr.setCell ⟨w0.heap.size, i, none⟩ u) :=
  ⟨below_grown h.bl (grown_near (World.grownBy.refl _ _) _ _) (Nat.le_refl _), h.y.put i u⟩
theorem YR.lt (h : YR w0 T cs wr) : w0.heap.size + 1 ≤ wr.heap.size := h.y.lt
end

/-- The first k elements of a row are done, the others are as they were. -/
structure BRow {α : Type} (sz : Nat) (R : World → List Value → α → Prop) (f : α → α) (l : List α) (cs cr : List Value) (k : Nat) (W : World) : Prop where
  len : cr.length = l.length * sz
  rest : ∀ i, k ≤ i → chunk cr sz i = chunk cs sz i
  done : ∀ i x, i < k → l[i]? = some x → R W (chunk cr sz i) (f x)
section
variable {α : Type} {sz : Nat} {R : World → List Value → α → Prop} {f : α → α} {l : List α} {cs cr cr' : List Value} {k : Nat} {w W W' : World}
theorem BRow.start (h : CellsR sz R w cs l) (W : World) : BRow sz R f l cs cs 0 W := ⟨h.1, fun _ _ => rfl, fun i _ hi => by omega⟩
theorem BRow.mono (hR : Mono R) (hb : Below W.heap.size W W') (h : BRow sz R f l cs cr k W) : BRow sz R f l cs cr k W' := ⟨h.len, h.rest, fun i x hi hx => hR _ _ hb _ _ (h.done i x hi hx)⟩
theorem BRow.step (h : BRow sz R f l cs cr k W) {x : α} (hx : l[k]? = some x) (hl : cr'.length = cr.length) (ho : ∀ i, i ≠ k → chunk cr' sz i = chunk cr sz i) (hr : R W (chunk cr' sz k) (f x)) : BRow sz R f l cs cr' (k + 1) W := by
  refine ⟨hl.trans h.len, fun i hi => (ho i (by omega)).trans (h.rest i (by omega)), fun i y hi hy => ?_⟩
  by_cases e : i = k
  · subst e
    rw [hx, Option.some.injEq] at hy
    subst hy
    exact hr
  · rw [ho i e]
    exact h.done i y (by omega) hy
theorem BRow.all (h : BRow sz R f l cs cr k W) (hk : k = l.length) : CellsR sz R W cr (l.map f) := by
  refine ⟨by rw [List.length_map]; exact h.len, fun i y hy => ?_⟩
  rw [List.getElem?_map, Option.map_eq_some_iff] at hy
  obtain ⟨x, hx, rfl⟩ := hy
  exact h.done i x (by have := (List.getElem?_eq_some_iff.1 hx).1; omega) hx
theorem BRow.at_ (h : BRow sz R f l cs cr k W) (hc : CellsR sz R w cs l) {x : α} (hx : l[k]? = some x) : R w (chunk cr sz k) x := by
  rw [h.rest k (Nat.le_refl _)]
  exact hc.chunk hx
end

theorem CellsR.trans' {α : Type} {sz : Nat} {R : World → List Value → α → Prop} {w : World} {cs : List Value} {l l' : List α} (h : CellsR sz R w cs l) (e : l = l') : CellsR sz R w cs l' := e ▸ h
theorem mask_absorb {lo M n : Nat} {w : World} (h : M ≤ n) : mask 0 n (mask lo M w) = mask 0 n w := by
  unfold mask
  congr 1
  apply Array.ext
  · simp
  · intro i h1 h2
    simp only [Array.getElem_mapIdx]
    by_cases hi : i < n
    · rw [if_pos ⟨Nat.zero_le _, hi⟩, if_pos ⟨Nat.zero_le _, hi⟩]
    · rw [if_neg (by omega), if_neg (by omega), if_neg (by omega)]
/-- What is read with all older blocks hidden is read with some of them hidden. -/
theorem new_mask {α : Type} {R : World → List Value → α → Prop} (hR : Unm R) {lo M n : Nat} {w : World} (h : M ≤ n) {cs : List Value} {x : α} (hr : R (mask 0 n w) cs x) : R (mask lo M w) cs x := by
  rw [← mask_absorb (lo := lo) h] at hr
  exact hR _ _ _ _ _ hr
theorem new_hide {α : Type} {R : World → List Value → α → Prop} (hR : Unm R) {lo M n H n1 c1 : Nat} {w : World} (h : M ≤ n) (hH : H < n) {cs : List Value} {x : α} (hr : R (mask 0 n w) cs x) : R (hideV (.slice (some ⟨H, 0, none⟩) n1 c1) (mask lo M w)) cs x := by
  show R (mask H (H + 1) (mask lo M w)) cs x
  rw [← mask_absorb (lo := lo) h, ← mask_absorb (lo := H) (M := H + 1) hH] at hr
  exact hR _ _ _ _ _ hr

/-- Nine values of a frame. -/
def Via9 (F : Option Addr → Nat → Nat → Option Addr → Nat → Nat → Option Addr → Nat → Nat → Act) (G : Option Addr → Nat → Nat → Option Addr → Nat → Nat → Option Addr → Nat → Nat → World → Prop) : Exit → Act → World → Prop
  | .normal, a', w' => ∃ a b c d e f g h i, a' = F a b c d e f g h i ∧ G a b c d e f g h i w'
  | _, _, _ => False
theorem wp_via9 {P : Program} {c : Code} {Q : Exit → Act → World → Prop} {a : Act} {w : World} (F : Option Addr → Nat → Nat → Option Addr → Nat → Nat → Option Addr → Nat → Nat → Act) (G : Option Addr → Nat → Nat → Option Addr → Nat → Nat → Option Addr → Nat → Nat → World → Prop) (h1 : c.wp P (Via9 F G) a w) (h2 : ∀ a b c d e f g h i w', G a b c d e f g h i w' → Q .normal (F a b c d e f g h i) w') : c.wp P Q a w :=
  Code.wp_mono (fun e a' w' h => by
    cases e with
    | normal => obtain ⟨a, b, c, d, e, f, g, h, i, rfl, hg⟩ := h; exact h2 a b c d e f g h i w' hg
    | _ => exact h.elim) h1

theorem ref_put23 {w : World} {cs : List Value} {l : List QRef} {k : Nat} {u : QRef} (h : CellsR 4 qRefR w cs l) (hk : l[k]? = some u) (a b : Int) : CellsR 4 qRefR w ((cs.set (k * 4 + 2) (.int .i64 a)).set (k * 4 + 3) (.int .i64 b)) (l.set k { u with schema := a, field := b }) := by
  have h2 := ref_put3 (k := k) (ref_put h hk a) (by rw [List.getElem?_set_self (List.getElem?_eq_some_iff.1 hk).1]) b
  rwa [List.set_set] at h2
theorem dep_put23 {w : World} {cs : List Value} {l : List QDep} {k : Nat} {u : QDep} (h : CellsR 4 qDepR w cs l) (hk : l[k]? = some u) (a : Int) : CellsR 4 qDepR w ((cs.set (k * 4 + 2) (.slice none 0 0)).set (k * 4 + 3) (.int .i64 a)) (l.set k { u with src := [], dst := a }) := by
  have h2 := dep_put3 (k := k) (dep_put2 h hk (v := .slice none 0 0) (A := none) (n := 0) (c := 0) rfl (s := []) ⟨SlR.nil _ _ (Nat.zero_le _), by simp⟩) (by rw [List.getElem?_set_self (List.getElem?_eq_some_iff.1 hk).1]) a
  rwa [List.set_set] at h2
end Go.Proofs.Ytkkkephjljiplaa
