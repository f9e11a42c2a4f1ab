/- Package rules: users. -/
import Derived.Test.YtkgmonplcdnnbaaGreatPm04
import Derived.Test.YtkgmonplcdnnbaaGreatPm09
import Derived.OneCell
import Derived.Maps.RangeRun
import Derived.Deep.OwnRows
namespace Go.Proofs.YtkgmonplcdnnbaaGreat
open Go.RowKit
def rowR (w : World) (cs : List Value) (l : List Int) : Prop := ∃ A n c, cs = [.slice A n c] ∧ SlR 1 iR w (.slice A n c) l
theorem slI_of_own {w : World} {base : Nat} {v : Value} {n : Nat} {l : List Int} (h : w.ownsRow base 3 1 v n (l.map (Value.int .i64))) : SlR 1 iR w v l := by
 have hlen : l.length = n := by have := h.1; simpa using this
 rcases h.2 with ⟨rfl, h0⟩ | ⟨g, cap, cur, rfl, hg, hh, hn, hc, hsz, htk⟩
 ·
  have hl0 : l = [] := List.eq_nil_of_length_eq_zero (by omega)
  subst hl0
  exact SlR.nil _ _ (by decide)
 ·
  refine ⟨some ⟨g, 0, none⟩, cap, by rw [hlen], by omega, hc, fun i x hi => ⟨g, 0, [.int .i64 x], rfl, (Array.getElem?_eq_some_iff.1 hh).1, rfl, fun j u hu => ?_, rfl⟩⟩
  have hj : j = 0 := by
   rcases j with _ | j
   · rfl
   · simp at hu
  subst hj
  simp at hu
  subst hu
  have hil : i < l.length := (List.getElem?_eq_some_iff.1 hi).1
  have := h.cellAt i (by omega)
  rw [List.getElem?_map, hi] at this
  simpa using this
structure RowsAt (w : World) (base U n : Nat) (vs : List Value) (r : Nat → List Int) : Prop where
 blk : Blk w U 30 vs.toArray
 len : vs.length = n
 ge : base ≤ U
 row : ∀ (x : Nat) (v : Value), vs[x]? = some v → w.ownsRow base 3 1 v (r x).length ((r x).map (Value.int .i64)) ∧ v.ownBlock ≠ some U
 apart : ∀ (x y : Nat) (v u : Value) (b : Nat), vs[x]? = some v → vs[y]? = some u → v.ownBlock = some b → u.ownBlock = some b → x = y
theorem RowsAt.alloc {w : World} {base U n : Nat} {vs : List Value} {r : Nat → List Int} (h : RowsAt w base U n vs r) (o : Obj) : RowsAt (w.alloc o) base U n vs r :=
 ⟨h.blk.alloc o, h.len, h.ge, fun x v hx => ⟨(h.row x v hx).1.alloc o, (h.row x v hx).2⟩, h.apart⟩
theorem RowsAt.same {w w' : World} {base U n : Nat} {vs : List Value} {r : Nat → List Int} (h : RowsAt w base U n vs r) (hb : ∀ (b : Nat) (cs : Array Value) (t : TypeId) (fz : Nat × Nat), w.heap[b]? = some (Obj.cells cs t fz) → w'.heap[b]? = w.heap[b]?) : RowsAt w' base U n vs r :=
 ⟨(
  hb _ _ _ _ h.blk).trans h.blk, h.len, h.ge, fun x v hx => ⟨by
  obtain ⟨h1, h2⟩ := (h.row x v hx).1
  refine ⟨h1, ?_⟩
  rcases h2 with h2 | ⟨g, cap, cur, hv, hg, hh, rest⟩
  · exact .inl h2
  · exact .inr ⟨g, cap, cur, hv, hg, (hb _ _ _ _ hh).trans hh, rest⟩, (h.row x v hx).2⟩, h.apart⟩
def RowB (U : Nat) (vs : List Value) (b : Nat) : Prop := b = U ∨ ∃ (x : Nat) (v : Value), vs[x]? = some v ∧ v.ownBlock = some b
theorem RowsAt.keep {w w' : World} {base U n : Nat} {vs : List Value} {r : Nat → List Int} (h : RowsAt w base U n vs r) (hb : ∀ b, RowB U vs b → w'.heap[b]? = w.heap[b]?) : RowsAt w' base U n vs r :=
 ⟨(
  hb U (.inl rfl)).trans h.blk, h.len, h.ge, fun x v hx => ⟨by
  obtain ⟨h1, h2⟩ := (h.row x v hx).1
  refine ⟨h1, ?_⟩
  rcases h2 with h2 | ⟨g, cap, cur, hv, hg, hh, rest⟩
  · exact .inl h2
  · exact .inr ⟨g, cap, cur, hv, hg, (hb g (.inr ⟨x, v, hx, by rw [hv]; rfl⟩)).trans hh, rest⟩, (h.row x v hx).2⟩, h.apart⟩
theorem RowsAt.lt {w : World} {base U n : Nat} {vs : List Value} {r : Nat → List Int} (h : RowsAt w base U n vs r) {b : Nat} (hb : RowB U vs b) : base ≤ b ∧ b < w.heap.size := by
 rcases hb with rfl | ⟨x, v, hx, hv⟩
 · exact ⟨h.ge, h.blk.lt⟩
 · exact (h.row x v hx).1.lt b hv
theorem RowsAt.read {w : World} {base U n : Nat} {vs : List Value} {r : Nat → List Int} (h : RowsAt w base U n vs r) (hn : n ≤ maxLen) : SlR 1 rowR w (.slice (some ⟨U, 0, none⟩) n n) ((List.range n).map r) := by
 refine ⟨some ⟨U, 0, none⟩, n, by simp, by simp, hn, fun i x hi => ?_⟩
 have hil : i < n := by have := (List.getElem?_eq_some_iff.1 hi).1; simpa using this
 have hx : r i = x := by
  rw [List.getElem?_map, List.getElem?_range hil] at hi
  simpa using hi
 obtain ⟨v, hv⟩ : ∃ v, vs[i]? = some v := ⟨vs[i]'(by have := h.len; omega), List.getElem?_eq_getElem (by have := h.len; omega)⟩
 have hrow := slI_of_own (h.row i v hv).1
 rw [hx] at hrow
 obtain ⟨A, c, rfl⟩ := hrow.form
 refine ⟨U, 0, [.slice A x.length c], rfl, h.blk.lt, rfl, fun j u hu => ?_, A, _, c, rfl, hrow⟩
 have hj : j = 0 := by
  rcases j with _ | j
  · rfl
  · simp at hu
 subst hj
 simp at hu
 subst hu
 have := h.blk.cell i
 rw [List.getElem?_toArray, hv] at this
 simpa using this
theorem RowsAt.push {w w5 : World} {base U n : Nat} {vs : List Value} {r : Nat → List Int} (h : RowsAt w base U n vs r) {x : Nat} {v v' : Value} {z : Int} (o : Obj) (hx : vs[x]? = some v)
 (hown : w5.ownsRow base 3 1 v' ((r x).length + 1) ((r x).map (Value.int .i64) ++ [.int .i64 z])) (hg : (w.alloc o).grownBy w5 v.ownBlock) (hat : v'.ownBlock = v.ownBlock ∨ v'.ownBlock = some (w.alloc o).heap.size) :
 RowsAt (w5.setCell ⟨U, x, none⟩ v') base U n (vs.set x v') (fun y => if y = x then r x ++ [z] else r y) := by
 have hU := h.blk.lt
 have hUv : some U ≠ v.ownBlock := fun e => (h.row x v hx).2 e.symm
 have hUv' : v'.ownBlock ≠ some U := by
  rcases hat with e | e
  · rw [e]; exact (h.row x v hx).2
  ·
   rw [e]
   intro e2
   injection e2 with e2
   simp at e2
   omega
 have hk5 : Blk w5 U 30 vs.toArray := (h.blk.alloc o).grown hg hUv
 refine ⟨?_, by simpa using h.len, h.ge, ?_, ?_⟩
 ·
  have := hk5.put x v'
  simpa using this
 ·
  intro y u hy
  by_cases e : y = x
  ·
   subst e
   have hyl : y < vs.length := (List.getElem?_eq_some_iff.1 hx).1
   rw [List.getElem?_set_self hyl] at hy
   injection hy with hy
   subst hy
   simp only [if_true]
   refine ⟨ownsRow_setCell_other ?_ (by simpa using hUv') _, hUv'⟩
   rw [List.length_append, List.map_append]
   exact hown
  ·
   rw [List.getElem?_set_ne (fun e2 => e e2.symm)] at hy
   simp only [if_neg e]
   obtain ⟨h1, h2⟩ := h.row y u hy
   refine ⟨ownsRow_setCell_other ((h1.alloc o).kept hg ?_) (by simpa using h2) _, h2⟩
   cases hub : u.ownBlock with
   | none => exact .inl rfl
   |
    some b =>
    refine .inr (fun e2 => ?_)
    exact e (h.apart y x u v b hy hx hub e2.symm)
 ·
  intro y1 y2 u1 u2 b hy1 hy2 hb1 hb2
  have hlt : ∀ (y : Nat) (u : Value), vs[y]? = some u → u.ownBlock = some b → b < w.heap.size := fun y u hy hb => ((h.row y u hy).1.lt b hb).2
  have hxl : x < vs.length := (List.getElem?_eq_some_iff.1 hx).1
  by_cases e1 : y1 = x
  ·
   by_cases e2 : y2 = x
   · rw [e1, e2]
   ·
    exfalso
    subst e1
    rw [List.getElem?_set_self hxl] at hy1
    rw [List.getElem?_set_ne (fun e => e2 e.symm)] at hy2
    injection hy1 with hy1
    subst hy1
    rcases hat with e | e
    · exact e2 (h.apart y2 y1 u2 v b hy2 hx hb2 (e ▸ hb1))
    ·
     rw [e] at hb1
     injection hb1 with hb1
     have := hlt y2 u2 hy2 hb2
     simp at hb1
     omega
  ·
   rw [List.getElem?_set_ne (fun e => e1 e.symm)] at hy1
   by_cases e2 : y2 = x
   ·
    exfalso
    subst e2
    rw [List.getElem?_set_self hxl] at hy2
    injection hy2 with hy2
    subst hy2
    rcases hat with e | e
    · exact e1 (h.apart y1 y2 u1 v b hy1 hx hb1 (e ▸ hb2))
    ·
     rw [e] at hb2
     injection hb2 with hb2
     have := hlt y1 u1 hy1 hb1
     simp at hb2
     omega
   ·
    rw [List.getElem?_set_ne (fun e => e2 e.symm)] at hy2
    exact h.apart y1 y2 u1 u2 b hy1 hy2 hb1 hb2
theorem nodup_len : ∀ (D F : List Int), D.Nodup → (∀ x ∈ D, x ∈ F) → D.length ≤ F.length
 | [], _, _, _ => Nat.zero_le _
 |
  x :: D, F, h, hs => by
  have hx := hs x List.mem_cons_self
  have h2 := List.nodup_cons.1 h
  have := nodup_len D (F.erase x) h2.2 (fun y hy => by
   have hne : y ≠ x := fun e => h2.1 (e ▸ hy)
   exact (List.mem_erase_of_ne hne).2 (hs y (List.mem_cons_of_mem _ hy)))
  have hl := List.length_erase_of_mem hx
  have hpos : 0 < F.length := List.length_pos_of_mem hx
  simp only [List.length_cons]
  omega
theorem addNew_nodup {l : List Int} {x : Int} (h : l.Nodup) : (addNew l x).Nodup := by
 unfold addNew
 split
 · exact h
 · next hx => exact List.nodup_append.2 ⟨h, by simp, fun a ha b hb e => by simp at hb; subst hb; subst e; exact hx ha⟩
theorem foldAdd_nodup : ∀ (xs l : List Int), l.Nodup → (xs.foldl addNew l).Nodup
 | [], _, h => h
 | _ :: xs, _, h => foldAdd_nodup xs _ (addNew_nodup h)
theorem needOf_nodup (rs : List QRule) (x : Int) : (needOf rs x).Nodup := by
 have : ∀ (rs : List QRule) (l : List Int), l.Nodup → (rs.foldl (fun l r => if r.schema = x then needR l r else l) l).Nodup := by
  intro rs
  induction rs with
  | nil => intro l h; exact h
  |
   cons r rs ih =>
   intro l h
   simp only [List.foldl_cons]
   apply ih
   split
   · exact foldAdd_nodup _ _ h
   · exact h
 exact this rs [] List.nodup_nil
structure RangeD (w : World) (r bm : Nat) (F D : List Int) : Prop where
 ex : ∃ es clock seen, w.heap[r]? = some (.mapIter (some bm) clock seen clock) ∧ w.heap[bm]? = some (.map es clock) ∧ es.toList.map (fun e => (e.key, e.val)) = (seenM F).map (fun p => (Value.int .i64 p.1, Value.bool p.2)) ∧
  (es.toList.map (·.born)).Nodup ∧ (∀ x ∈ es.toList, x.born < clock) ∧ (∀ e ∈ es.toList, ∀ y, e.key = .int .i64 y → (seen.contains e.born = true ↔ y ∈ D))
 nodup : D.Nodup
 sub : ∀ x ∈ D, x ∈ F
theorem RangeD.kept {w w' : World} {r bm : Nat} {F D : List Int} (h : RangeD w r bm F D) (h1 : w'.heap[r]? = w.heap[r]?) (h2 : w'.heap[bm]? = w.heap[bm]?) : RangeD w' r bm F D := by
 obtain ⟨⟨es, clock, seen, k1, k2, k3⟩, h4, h5⟩ := h
 exact ⟨⟨es, clock, seen, h1.trans k1, h2.trans k2, k3⟩, h4, h5⟩
theorem RangeD.start {w : World} {bm : Nat} {F : List Int} {P : Program} {t kt et : TypeId} (h : MapT (Value.int .i64) Value.bool w bm (seenM F)) (ht : P.underlying t = some (.map kt et)) :
 ∃ clock, (Instr.range t (.map (some bm))).run P w = .ok (.pointer (some ⟨w.heap.size, 0, none⟩)) (w.alloc (.mapIter (some bm) clock #[] clock)) ∧ RangeD (w.alloc (.mapIter (some bm) clock #[] clock)) w.heap.size bm F [] := by
 have hlt := h.lt
 obtain ⟨es, clock, h1, h2, h3, h4⟩ := h
 refine ⟨clock, run_range_map w t kt et bm es clock ht h1, ⟨es, clock, #[], heap_alloc_new _ _, (heap_alloc_old w _ hlt).trans h1, h2, h3, h4, fun e he y hy => by simp⟩, List.nodup_nil, fun x hx => by simp at hx⟩
theorem RangeD.step {w : World} {r bm : Nat} {F D : List Int} {P : Program} (h : RangeD w r bm F D) (hF : F.Nodup) (ty : TypeId) :
 ((∀ y ∈ F, y ∈ D) ∧ (Instr.next (.pointer (some ⟨r, 0, none⟩)) false ty).run P w = .ok (.tuple #[.bool false]) w) ∨
 ∃ y w1, y ∈ F ∧ y ∉ D ∧ (Instr.next (.pointer (some ⟨r, 0, none⟩)) false ty).run P w = .ok (.tuple #[.bool true, .int .i64 y, .bool true]) w1 ∧ w.grownBy w1 (some r) ∧
  (Instr.entry (.pointer (some ⟨r, 0, none⟩))).run P w1 = .ok (.tuple #[.int .i64 y, .bool true]) w1 ∧ RangeD w1 r bm F (y :: D) := by
 obtain ⟨⟨es, clock, seen, k1, k2, k3, k4, k5, k6⟩, hnd, hsub⟩ := h
 have hne : r ≠ bm := by
  rintro rfl
  rw [k1] at k2
  injection k2 with k2
  cases k2
 have hkey : ∀ e ∈ es.toList, ∃ y, y ∈ F ∧ e.key = .int .i64 y ∧ e.val = .bool true := by
  intro e he
  have : (e.key, e.val) ∈ (seenM F).map (fun p => (Value.int .i64 p.1, Value.bool p.2)) := by
   rw [← k3]
   exact List.mem_map_of_mem he
  obtain ⟨p, hp, hpe⟩ := List.mem_map.1 this
  obtain ⟨y, hy, rfl⟩ := List.mem_map.1 hp
  simp only [Prod.mk.injEq] at hpe
  exact ⟨y, hy, hpe.1.symm, hpe.2.symm⟩
 have hkeys : (es.toList.map (·.key)).Nodup := by
  have : es.toList.map (·.key) = F.map (Value.int .i64) := by
   have := congrArg (List.map (·.1)) k3
   simpa [seenM, List.map_map, Function.comp_def] using this
  rw [this]
  have hin : ∀ (l : List Int), l.Nodup → (l.map (Value.int .i64)).Nodup := by
   intro l
   induction l with
   | nil => intro _; simp
   |
    cons a l ih =>
    intro hl
    have h2 := List.nodup_cons.1 hl
    simp only [List.map_cons]
    exact List.nodup_cons.2 ⟨fun hm => by
     obtain ⟨b, hb, e⟩ := List.mem_map.1 hm
     injection e with _ e
     exact h2.1 (e ▸ hb), ih h2.2⟩
  exact hin F hF
 have hex : ∀ y ∈ F, ∃ e ∈ es.toList, e.key = .int .i64 y := by
  intro y hy
  have : (Value.int .i64 y, Value.bool true) ∈ es.toList.map (fun e => (e.key, e.val)) := by
   rw [k3]
   exact List.mem_map.2 ⟨(y, true), List.mem_map.2 ⟨y, hy, rfl⟩, rfl⟩
  obtain ⟨e, he, hee⟩ := List.mem_map.1 this
  simp only [Prod.mk.injEq] at hee
  exact ⟨e, he, hee.1⟩
 rcases run_next_at (P := P) w ty r bm clock clock seen es clock k1 k2 k5 (Nat.le_refl _) with ⟨hl, hrun⟩ | ⟨e, he, w1, hw1, hrun⟩
 ·
  refine .inl ⟨fun y hy => ?_, hrun⟩
  obtain ⟨e, he, hek⟩ := hex y hy
  refine (k6 e he y hek).1 ?_
  cases hc : seen.contains e.born with
  | true => rfl
  |
   false =>
   exfalso
   have hm : e ∈ (leftOf es seen).toList := by
    unfold leftOf
    simp only [Array.toList_filter, List.mem_filter, hc, Bool.not_false, and_true]
    exact he
   have hz : (leftOf es seen).toList.length = 0 := by simpa using hl
   have := List.length_pos_of_mem hm
   omega
 ·
  have hes : e ∈ es.toList ∧ seen.contains e.born = false := by
   unfold leftOf at he
   simp only [Array.toList_filter, List.mem_filter, Bool.not_eq_true'] at he
   exact he
  obtain ⟨y, hy, hek, hev⟩ := hkey e hes.1
  rw [hek, hev] at hrun
  have hyD : y ∉ D := fun hd => by
   have := (k6 e hes.1 y hek).2 hd
   rw [hes.2] at this
   cases this
  have hw1r : w1.heap[r]? = some (.mapIter (some bm) clock seen clock) := by rcases hw1 with rfl | rfl <;> exact k1
  have hw1m : w1.heap[bm]? = some (.map es clock) := by rcases hw1 with rfl | rfl <;> exact k2
  have hset := Go.MapKept.heap_set (o' := .mapIter (some bm) clock (seen.push e.born) clock) hw1r
  have hr2 : (Go.ChangeMaps.setBlock w1 r (.mapIter (some bm) clock (seen.push e.born) clock)).heap[r]? = some (.mapIter (some bm) clock (seen.push e.born) clock) := hset.1
  have hm2 : (Go.ChangeMaps.setBlock w1 r (.mapIter (some bm) clock (seen.push e.born) clock)).heap[bm]? = some (.map es clock) := (hset.2 bm (fun e => hne e.symm)).trans hw1m
  refine .inr ⟨y, _, hy, hyD, hrun, ?_, ?_, ⟨⟨es, clock, seen.push e.born, hr2, hm2, k3, k4, k5, fun e2 he2 z hz => ?_⟩, List.nodup_cons.2 ⟨hyD, hnd⟩, fun x hx => ?_⟩⟩
  ·
   have hg1 : w.grownBy w1 (some r) := by rcases hw1 with rfl | rfl <;> exact ⟨rfl, rfl, rfl, Nat.le_refl _, fun _ _ _ => rfl⟩
   exact ⟨hg1.os, hg1.tape, hg1.output, by simpa [Go.ChangeMaps.setBlock] using hg1.size, fun i hi hn => (hset.2 i (fun e => hn (by rw [e]))).trans (hg1.block i hi hn)⟩
  ·
   have := run_entry_at (P := P) _ r bm clock seen es clock e hr2 hm2 hes.1 k4
   rw [hek, hev] at this
   exact this
  ·
   have hiff : e2.born = e.born ↔ z = y := by
    constructor
    ·
     intro hb
     have : e2 = e := nodup_inj k4 he2 hes.1 hb
     subst this
     rw [hek] at hz
     injection hz with _ hz
     exact hz.symm
    ·
     rintro rfl
     have : e2 = e := nodup_inj hkeys he2 hes.1 (hz.trans hek.symm)
     rw [this]
   rw [Array.contains_push]
   simp only [Bool.or_eq_true, beq_iff_eq, List.mem_cons, k6 e2 he2 z hz, hiff]
   exact Or.comm
  ·
   rcases List.mem_cons.1 hx with rfl | hx
   · exact hy
   · exact hsub x hx
theorem Tryz.infoInts : (Tryz.prog.info? 30).map (fun i => (i.zero, i.size, i.bytes)) = some (some (.slice none 0 0), 1, 24) := by kernel_rfl
theorem madeCells_one (z : Value) (n : Nat) : madeCells #[z] n = (List.replicate n z).toArray := by
 apply Array.ext
 · simp [madeCells]
 ·
  intro i h1 h2
  simp [madeCells, Nat.mod_one]
theorem usersTo_succ (rs : List QRule) (k : Nat) (x : Int) : usersTo rs (k + 1) x = if x ∈ needOf rs k then usersTo rs k x ++ [(k : Int)] else usersTo rs k x := by
 unfold usersTo
 rw [List.range_succ, List.map_append, List.filter_append]
 by_cases h : x ∈ needOf rs k
 · rw [if_pos h]; simp [h]
 · rw [if_neg h]; simp [h]
theorem usersTo_len (rs : List QRule) (k : Nat) (x : Int) : (usersTo rs k x).length ≤ k := by
 unfold usersTo
 refine Nat.le_trans (List.length_filter_le _ _) ?_
 simp
theorem own_kind {w : World} {base : Nat} {e : TypeId} {sz : Nat} {v : Value} {n : Nat} {xs : List Value} (h : w.ownsRow base e sz v n xs) {g : Nat} (hg : v.ownBlock = some g) : ∃ cur, w.heap[g]? = some (Obj.cells cur e (0, 0)) := by
 rcases h.2 with ⟨rfl, _⟩ | ⟨g', cap, cur, rfl, _, hh, _⟩
 · cases hg
 ·
  simp only [Value.ownBlock, Option.some.injEq] at hg
  subst hg
  exact ⟨cur, hh⟩
set_option maxHeartbeats 8000000 in
set_option maxRecDepth 100000 in
theorem users_any (base M n : Nat) (hs : List (Int × Nat)) (rs : List QRule) (w : World) (hG : GraphH w base M hs (needOf rs)) (hin : ∀ h y, y ∈ needOf rs h → 0 ≤ y ∧ y < n) (hn : n ≤ 1000) :
 Calls Tryz.prog 147 #[.agg #[.int .i64 n, .map (some M)]] w fun e w' => ∃ (U : Nat) (us : List Value), e = .returned (.slice (some ⟨U, 0, none⟩) n n) ∧ RowsAt w' (w.heap.size + 1) U n us (fun x : Nat => usersTo rs n x) ∧ Below w.heap.size w w' := by
 have HG := Lib.hid hG
 have HIN := Lib.hid hin
 clear hG hin
 have hmk := run_make_row' (P := Tryz.prog) 207 30 (.slice none 0 0) 24 Tryz.underlying207 Tryz.infoInts rfl .i64 .i64 n (by omega) (by omega)
 rw [madeCells_one] at hmk
 go_enter Tryz.func147, Tryz.ntmps147
 go_wp2_with fail
 obtain ⟨wb, hwb⟩ : ∃ q, q = (w.alloc (.cells #[.int .i64 n, .map (some M)] 128)).alloc (.cells (Array.replicate n (.slice none 0 0)) 30) := ⟨_, rfl⟩
 rw [← hwb]
 have hbb : Below w.heap.size w wb := by rw [hwb]; exact ((Below.refl _ _).alloc (Nat.le_refl _) _).alloc (by simp) _
 have kA : Blk wb w.heap.size 128 #[.int .i64 n, .map (some M)] := by rw [hwb]; exact (Blk.new _ _ _).alloc _
 obtain ⟨U, hU⟩ : ∃ U, U = w.heap.size + 1 := ⟨_, rfl⟩
 have kU : RowsAt wb (w.heap.size + 1) U n (List.replicate n (.slice none 0 0)) (fun x => usersTo rs 0 x) := by
  refine ⟨?_, by simp, by omega, ?_, ?_⟩
  ·
   rw [hwb, hU, List.toArray_replicate]
   exact blkNew (by simp)
  ·
   intro x v hx
   have : v = .slice none 0 0 := by
    rw [List.getElem?_replicate] at hx
    split at hx
    · injection hx with hx; exact hx.symm
    · cases hx
   subst this
   exact ⟨World.ownsRow_nil _ _ _ _, by simp [Value.ownBlock]⟩
  ·
   intro x y v u b hx hy hb
   have : v = .slice none 0 0 := by
    rw [List.getElem?_replicate] at hx
    split at hx
    · injection hx with hx; exact hx.symm
    · cases hx
   subst this
   simp [Value.ownBlock] at hb
 rw [← hU]
 have HBB := Lib.hid hbb
 have HKA := Lib.hid kA
 have HKU := Lib.hid kU
 have hUge : w.heap.size < U := by omega
 obtain ⟨ga, hga⟩ : ∃ g, g = w.heap.size := ⟨_, rfl⟩
 clear hwb hbb kA kU hU hmk
 go_loopg [11] n (fun q i wr => ∃ (k : Nat) (vs : List Value), k ≤ n ∧ q = n - k ∧ i = .int .i64 k ∧ RowsAt wr (w.heap.size + 1) U n vs (fun x => usersTo rs k x) ∧ Blk wr w.heap.size 128 #[.int .i64 n, .map (some M)] ∧ Below w.heap.size w wr)
 case atStart => exact ⟨0, _, Nat.zero_le _, rfl, rfl, HKU.out, HKA.out, HBB.out⟩
 case round =>
  clear HKU HKA HBB
  obtain ⟨k, vs, hk, hq, rfl, hr, hka, hb⟩ := hrel
  have HQ := Lib.hid hq
  have HR := Lib.hid hr
  have HK := Lib.hid hka
  have HB := Lib.hid hb
  clear hq hr hka hb
  by_cases hlt : k < n
  case neg =>
   have hkn : k = n := by omega
   subst hkn
   go_wp2_with fail
   go_ret
   exact ⟨U, vs, rfl, HR.out, HB.out⟩
  have hkn : (k : Int) < (n : Int) := by omega
  have b0 := HK.out.cell 0
  have b1 := HK.out.cell 1
  have lb := HK.out.lt
  simp only [List.getElem?_toArray, List.getElem?_cons_zero, List.getElem?_cons_succ] at b0 b1
  have HG2 := Lib.hid (HG.out.below HB.out)
  have hlook := run_lookup_m (keyEq_int Tryz.underlying3) Tryz.underlying126 (z := .map none) (by kernel_rfl) HG2.out.out (k : Int) false
  by_cases hin : (k : Int) ∈ hs.map (·.1)
  case neg =>
   rw [getM_none.2 hin] at hlook
   simp only [Option.map_none, Option.getD_none, Bool.false_eq_true, if_false] at hlook
   have HE : Hid ((fun x : Nat => usersTo rs (k + 1) x) = fun x : Nat => usersTo rs k x) := Lib.hid (by
    funext x
    rw [usersTo_succ, HG.out.rest _ hin]
    simp)
   have hrange := run_range_nilMap (P := Tryz.prog) wr 123 _ _ Tryz.underlying123
   have hnext := run_next_nilMap (P := Tryz.prog) wr 0 0 0 #[]
   have HNX := Lib.hid hnext
   clear hnext
   go_wp2_with fail
   clear hrange hlook
   obtain ⟨wi, hwi⟩ : ∃ q, q = wr.alloc (.mapIter none 0 #[] 0) := ⟨_, rfl⟩
   have HRI : Hid (RowsAt wi (w.heap.size + 1) U n vs (fun x : Nat => usersTo rs (k + 1) x)) := Lib.hid (by rw [HE.out, hwi]; exact HR.out.alloc _)
   have HKI : Hid (Blk wi w.heap.size 128 #[.int .i64 n, .map (some M)]) := Lib.hid (by rw [hwi]; exact HK.out.alloc _)
   have HBI : Hid (Below w.heap.size w wi) := Lib.hid (by rw [hwi]; exact HB.out.alloc HB.out.size _)
   have HNI : Hid ((Instr.next (.pointer (some ⟨wr.heap.size, 0, none⟩)) false 0).run Tryz.prog wi = .ok (.tuple #[.bool false]) wi) := Lib.hid (by rw [hwi]; exact HNX.out)
   rw [← hwi]
   clear hwi
   obtain ⟨wy, rfl⟩ : ∃ q, q = wr := ⟨_, rfl⟩
   go_loopg [19] 0 (fun _ _ wx => wx = wi)
   case atStart => rfl
   case round =>
    obtain rfl := hrel
    have hnext := HNI.out
    go_wp2_with fail
    go_roundg (n - (k + 1))
    case measure => have := HQ.out; omega
    case rel => exact ⟨k + 1, vs, by omega, rfl, by go_num, HRI.out, HKI.out, HBI.out⟩
  obtain ⟨hb, hhb⟩ : ∃ hb, getM hs (k : Int) = some hb := by
   cases h : getM hs (k : Int) with
   | none => exact absurd hin (getM_none.1 h)
   | some v => exact ⟨v, rfl⟩
  rw [hhb] at hlook
  simp only [Option.map_some, Option.getD_some, Bool.false_eq_true, if_false] at hlook
  obtain ⟨_, _, hmt⟩ := HG2.out.ins _ (getM_mem hhb)
  obtain ⟨F, hF⟩ : ∃ F, needOf rs (k : Int) = F := ⟨_, rfl⟩
  have HF := Lib.hid hF
  simp only [hF] at hmt
  have hFn : F.Nodup := by rw [← hF]; exact needOf_nodup _ _
  have HFN := Lib.hid hFn
  obtain ⟨clock, hrange, hrd⟩ := RangeD.start (P := Tryz.prog) hmt Tryz.underlying123
  have HRD := Lib.hid hrd
  have hbl : hb < wr.heap.size := hmt.lt
  have HHN : Hid (∀ cs t fz, wr.heap[hb]? ≠ some (Obj.cells cs t fz)) := Lib.hid (by
   obtain ⟨es, cl, h1, _⟩ := hmt
   intro cs t fz h2
   rw [h1] at h2
   injection h2 with h2
   cases h2)
  clear hF hFn hmt hrd hhb hin
  go_wp2_with fail
  clear hrange hlook b0 b1
  obtain ⟨wi, hwi⟩ : ∃ q, q = wr.alloc (.mapIter (some hb) clock #[] clock) := ⟨_, rfl⟩
  have HRI : Hid (RowsAt wi (w.heap.size + 1) U n vs (fun x : Nat => if (x : Int) ∈ ([] : List Int) then usersTo rs k x ++ [(k : Int)] else usersTo rs k x)) := Lib.hid (by
   rw [hwi]
   have := HR.out.alloc (.mapIter (some hb) clock #[] clock)
   simpa using this)
  have HKI : Hid (Blk wi w.heap.size 128 #[.int .i64 n, .map (some M)]) := Lib.hid (by rw [hwi]; exact HK.out.alloc _)
  have HBI : Hid (Below w.heap.size w wi) := Lib.hid (by rw [hwi]; exact HB.out.alloc HB.out.size _)
  have HDI : Hid (RangeD wi wr.heap.size hb F []) := Lib.hid (by rw [hwi]; exact HRD.out)
  rw [← hwi]
  clear hwi
  obtain ⟨wy, rfl⟩ : ∃ q, q = wr := ⟨_, rfl⟩
  go_loopg [19] F.length (fun q _ wx => ∃ (D : List Int) (us : List Value), q = F.length - D.length ∧ RangeD wx wy.heap.size hb F D ∧ RowsAt wx (w.heap.size + 1) U n us (fun x : Nat => if (x : Int) ∈ D then usersTo rs k x ++ [(k : Int)] else usersTo rs k x) ∧ Blk wx w.heap.size 128 #[.int .i64 n, .map (some M)] ∧ Below w.heap.size w wx)
  case atStart => exact ⟨[], vs, rfl, HDI.out, HRI.out, HKI.out, HBI.out⟩
  case round =>
   clear HDI HRI HKI HBI
   obtain ⟨D, us, hq, hd, hr, hka, hb2⟩ := hrel
   have HQ2 := Lib.hid hq
   have HR2 := Lib.hid hr
   have HK2 := Lib.hid hka
   have HB2 := Lib.hid hb2
   have HRK : Hid (wy.heap.size < wr.heap.size ∧ ∀ cs t fz, wr.heap[wy.heap.size]? ≠ some (Obj.cells cs t fz)) := Lib.hid (by
    obtain ⟨es, cl, seen, h1, _⟩ := hd.ex
    refine ⟨(Array.getElem?_eq_some_iff.1 h1).1, fun cs t fz h2 => ?_⟩
    rw [h1] at h2
    injection h2 with h2
    cases h2)
   have HMK : Hid (hb < wr.heap.size ∧ hb ≠ wy.heap.size ∧ ∀ cs t fz, wr.heap[hb]? ≠ some (Obj.cells cs t fz)) := Lib.hid (by
    obtain ⟨es, cl, seen, h0, h1, _⟩ := hd.ex
    refine ⟨(Array.getElem?_eq_some_iff.1 h1).1, fun e => ?_, fun cs t fz h2 => ?_⟩
    ·
     rw [e, h0] at h1
     injection h1 with h1
     cases h1
    ·
     rw [h1] at h2
     injection h2 with h2
     cases h2)
   have hdn := hd.nodup
   have hds := hd.sub
   rcases hd.step (P := Tryz.prog) HFN.out 0 with ⟨hall, hnext⟩ | ⟨y, w1, hyF, hyD, hnext, hg1, hentry, hd1⟩
   ·
    have HE : Hid ((fun x : Nat => usersTo rs (k + 1) x) = fun x : Nat => if (x : Int) ∈ D then usersTo rs k x ++ [(k : Int)] else usersTo rs k x) := Lib.hid (by
     funext x
     rw [usersTo_succ, HF.out]
     by_cases h : (x : Int) ∈ F
     · rw [if_pos h, if_pos (hall _ h)]
     · rw [if_neg h, if_neg (fun h2 => h (hds _ h2))])
    clear hq hd hr hka hb2 hall hdn hds
    go_wp2_with fail
    go_roundg (n - (k + 1))
    case measure => have := HQ.out; omega
    case rel => exact ⟨k + 1, us, by omega, rfl, by go_num, by rw [HE.out]; exact HR2.out, HK2.out, HB2.out⟩
   ·
    have hy := HIN.out k y (by rw [HF.out]; exact hyF)
    obtain ⟨x, rfl⟩ : ∃ x : Nat, y = x := ⟨y.toNat, by omega⟩
    have hxn : x < n := by omega
    have hlen := nodup_len (x :: D) F (List.nodup_cons.2 ⟨hyD, hdn⟩) (fun z hz => by
     rcases List.mem_cons.1 hz with rfl | hz
     · exact hyF
     · exact hds _ hz)
    have HLEN : Hid (D.length < F.length) := Lib.hid (by simp only [List.length_cons] at hlen; omega)
    clear hq hd hr hka hb2 hdn hds hlen hyF hy
    have hR1 : RowsAt w1 (w.heap.size + 1) U n us (fun x : Nat => if (x : Int) ∈ D then usersTo rs k x ++ [(k : Int)] else usersTo rs k x) := HR2.out.same (fun b cs t fz h => hg1.block b (Array.getElem?_eq_some_iff.1 h).1 (fun e => by
     injection e with e
     subst e
     exact HRK.out.2 _ _ _ h))
    have hK1 : Blk w1 w.heap.size 128 #[.int .i64 n, .map (some M)] := HK2.out.grown hg1 (fun e => by injection e with e; omega)
    have HB1 : Hid (Below w.heap.size w w1) := Lib.hid (HB2.out.grown hg1 HB2.out.size (fun r e => by cases e; omega))
    have HRK1 : Hid (wy.heap.size < w1.heap.size ∧ ∀ cs t fz, w1.heap[wy.heap.size]? ≠ some (Obj.cells cs t fz)) := Lib.hid (by
     obtain ⟨es, cl, seen, h1, _⟩ := hd1.ex
     refine ⟨(Array.getElem?_eq_some_iff.1 h1).1, fun cs t fz h2 => ?_⟩
     rw [h1] at h2
     injection h2 with h2
     cases h2)
    have HMK1 : Hid (hb < w1.heap.size ∧ ∀ cs t fz, w1.heap[hb]? ≠ some (Obj.cells cs t fz)) := Lib.hid (by
     have h1 := hg1.block hb HMK.out.1 (fun e => by injection e with e; exact HMK.out.2.1 e)
     refine ⟨Nat.lt_of_lt_of_le HMK.out.1 hg1.size, fun cs t fz h2 => ?_⟩
     rw [h1] at h2
     exact HMK.out.2.2 _ _ _ h2)
    have hxl : x < us.length := by rw [hR1.len]; exact hxn
    obtain ⟨v, hv⟩ : ∃ v, us[x]? = some v := ⟨_, List.getElem?_eq_getElem hxl⟩
    have hown := (hR1.row x v hv).1
    simp only [if_neg hyD] at hown
    have hcell := hR1.blk.cell x
    rw [List.getElem?_toArray, hv] at hcell
    have hvf : ∃ A m c, v = .slice A m c := by
     rcases hown.2 with ⟨rfl, _⟩ | ⟨g, cap, cur, rfl, _⟩
     · exact ⟨_, _, _, rfl⟩
     · exact ⟨_, _, _, rfl⟩
    obtain ⟨A, m, c, rfl⟩ := hvf
    have hul := usersTo_len rs k x
    have hUv : some U ≠ (Value.slice A m c).ownBlock := fun e => (hR1.row x _ hv).2 e.symm
    obtain ⟨i0, hi, hz0, hz1, hz2⟩ := info_parts Tryz.infoIntD
    have HI := Lib.hid hi
    have HZ := Lib.hid (And.intro hz0 (And.intro hz1 hz2))
    have HR1 := Lib.hid hR1
    have HK1 := Lib.hid hK1
    have HOW1 := Lib.hid hown
    have HUV := Lib.hid hUv
    have HV := Lib.hid hv
    have HD1 := Lib.hid hd1
    have HYD := Lib.hid hyD
    have hx0 : (0 : Int) ≤ (x : Int) := by omega
    have hx1 : (x : Int) < (n : Int) := by omega
    have lU := hR1.blk.lt
    have hs1 : w.heap.size < w1.heap.size := hK1.lt
    clear hg1 hR1 hK1 hown hUv hi hz0 hz1 hz2 hd1 hyD hv hxl
    go_wp2_with (at_builtin; refine wpList_append_own_at _ rfl (.tmp 28) (.tmp 30) 30 rfl (w.heap.size + 1) 3 i0 (.int .i64 0) 1 8 Tryz.underlying30 HI.out HZ.out.1 HZ.out.2.1 HZ.out.2.2 rfl (by decide) (.slice A m c) (usersTo rs k x).length _ rfl (HOW1.out.alloc _) ⟨w1.heap.size, 0, none⟩ 1 1 [.int .i64 k] rfl rfl (cell_one_new _ _ _) (by simp [Value.oneCell']) (by unfold maxLen; omega) (by omega) (by simp; omega) ?_; intro v' w5 hown' hgrow _ hat; obtain ⟨g', cap', rfl⟩ := Joins.ownsRow_form hown' (by omega); have k5 : Blk w5 U 30 us.toArray := (HR1.out.blk.alloc _).grown hgrow HUV.out; have f5 := k5.frozen x; have c5 := k5.cell x; rw [List.getElem?_toArray, HV.out] at c5; have HOW := Lib.hid hown'; have HGR := Lib.hid hgrow; have HAT := Lib.hid hat; have HK5 := Lib.hid k5; clear hown' hgrow hat k5)
    have HP := Lib.hid (HR1.out.push (.cells #[.int .i64 k] 3) (z := (k : Int)) HV.out (by simp only [if_neg HYD.out]; exact HOW.out) HGR.out HAT.out)
    have HNC : Hid (∀ b, b < w1.heap.size → (∀ cs t fz, w1.heap[b]? ≠ some (Obj.cells cs t fz)) → (w5.setCell ⟨U, x, none⟩ (.slice (some ⟨g', 0, none⟩) ((usersTo rs k x).length + 1) cap')).heap[b]? = w1.heap[b]?) := Lib.hid (fun b hb1 hnc => by
     refine (Below.heap_setCell _ _ _ b (fun e => ?_)).trans ((HGR.out.block b (by simp; omega) (fun e => ?_)).trans (Below.heap_alloc w1 _ b hb1))
     · subst e; exact hnc _ _ _ HR1.out.blk
     ·
      obtain ⟨cur, hc⟩ := own_kind HOW1.out e.symm
      exact hnc _ _ _ hc)
    have HRD6 := Lib.hid (HD1.out.kept (HNC.out _ HRK1.out.1 HRK1.out.2) (HNC.out _ HMK1.out.1 HMK1.out.2))
    have HK6 : Hid (Blk (w5.setCell ⟨U, x, none⟩ (.slice (some ⟨g', 0, none⟩) ((usersTo rs k x).length + 1) cap')) w.heap.size 128 #[.int .i64 n, .map (some M)]) := Lib.hid (((HK1.out.alloc _).grown HGR.out (fun e => by have := (HOW1.out.lt _ e.symm).1; omega)).far (by simp; omega) _)
    have HB6 : Hid (Below w.heap.size w (w5.setCell ⟨U, x, none⟩ (.slice (some ⟨g', 0, none⟩) ((usersTo rs k x).length + 1) cap'))) := Lib.hid (by
     have h5 : Below w.heap.size w w5 := (HB1.out.alloc HB1.out.size (.cells #[.int .i64 k] 3)).grown HGR.out (by simp; omega) (fun r e => by have := (HOW1.out.lt r e).1; omega)
     exact h5.setCell (show w.heap.size ≤ U by omega) _)
    have HE : Hid ((fun y : Nat => if y = x then (if (x : Int) ∈ D then usersTo rs k x ++ [(k : Int)] else usersTo rs k x) ++ [(k : Int)] else (if (y : Int) ∈ D then usersTo rs k y ++ [(k : Int)] else usersTo rs k y)) = fun y : Nat => if (y : Int) ∈ ((x : Int) :: D) then usersTo rs k y ++ [(k : Int)] else usersTo rs k y) := Lib.hid (by
     funext y
     by_cases e : y = x
     ·
      subst e
      rw [if_pos rfl, if_neg HYD.out, if_pos List.mem_cons_self]
     ·
      have e2 : ¬ (y : Int) = (x : Int) := by omega
      rw [if_neg e]
      by_cases h : (y : Int) ∈ D
      · rw [if_pos h, if_pos (List.mem_cons_of_mem _ h)]
      · rw [if_neg h, if_neg (fun h2 => by rcases List.mem_cons.1 h2 with h2 | h2; exact e2 h2; exact h h2)])
    clear hnext hentry hcell f5 c5
    go_wp2_with fail
    go_roundg (F.length - (D.length + 1))
    case measure => have := HQ2.out; have := HLEN.out; omega
    case rel => exact ⟨(x : Int) :: D, _, by simp, HRD6.out, by rw [← HE.out]; exact HP.out, HK6.out, HB6.out⟩
end Go.Proofs.YtkgmonplcdnnbaaGreat
