/- Contracts of names.collect, each instance. Written by gencol.py. -/
import Derived.Test.YtkgmonplcdnnbaaGreatPm23
import Derived.Test.YtkgmonplcdnnbaaGreatPm22
import Derived.Test.YtkgmonplcdnnbaaGreatPm19
import Derived.Test.YtkgmonplcdnnbaaGreatPm18
namespace Go.Proofs.YtkgmonplcdnnbaaGreat
open Go.RowKit
section
variable {P : Program} {ops : Array Oper} {md : Region.Mode} {w : World} {Q : Exit → Act → World → Prop}
def sinkE (md : Region.Mode) (ops : Array Oper) (n : Nat) (E : List Nat) : Bool :=
 (List.range n).all fun i => E.contains i || (List.range (n + 1)).any fun j => decide (i < j) && !E.contains j && Region.waitsFor md ops j i
def chainT (md : Region.Mode) (ops : Array Oper) (n : Nat) : Bool := (List.range ops.size).all fun t => decide (t ≤ n) || Region.waitsFor md ops t (t - 1)
structure HeadE (md : Region.Mode) (ops : Array Oper) (n : Nat) (E : List Nat) (listed : Array Bool) : Prop where
 size : listed.size = ops.size
 closed : ∀ (j : Nat) (oj : Oper), ops[j]? = some oj → listed.getD j false = true → ∀ e ∈ oj.after, Region.binds md e = true → listed.getD e.on false = true
 tail : ∀ t, n ≤ t → t < ops.size → listed.getD t true = false
 float : ∀ i ∈ E, listed.getD i false = true
theorem HeadE.set {n i : Nat} {E : List Nat} {listed : Array Bool} (inv : HeadE md ops n E listed) (hi : i ∈ Region.ready md ops listed) (hin : i < n) : HeadE md ops n E (listed.setIfInBounds i true) := by
 obtain ⟨_, oi, hoi, hall⟩ := mem_ready.1 hi
 refine ⟨by simp [inv.size], fun j oj hj hl e he hb => ?_, fun t ht ht' => by rw [getD_set_ne true (by omega)]; exact inv.tail t ht ht', fun k hk => getD_set_true (inv.float k hk)⟩
 by_cases hij : i = j
 ·
  subst hij
  have : oj = oi := Option.some.inj (hj.symm.trans hoi)
  subst this
  exact getD_set_true (hall e he hb)
 ·
  rw [getD_set_ne false hij] at hl
  exact getD_set_true (inv.closed j oj hj hl e he hb)
theorem head_done {n : Nat} {E : List Nat} {listed : Array Bool} (hs : sinkE md ops n E = true) (inv : HeadE md ops n E listed) (hr : n ∈ Region.ready md ops listed) : ∀ d i, i + d = n → i < n → listed.getD i false = true := by
 obtain ⟨_, on, hon, hall⟩ := mem_ready.1 hr
 intro d
 induction d using Nat.strongRecOn with
 |
  _ d ih =>
  intro i hid hin
  unfold sinkE at hs
  have h1 := List.all_eq_true.1 hs i (List.mem_range.2 hin)
  rw [Bool.or_eq_true] at h1
  rcases h1 with h1 | h1
  · exact inv.float i (by simpa using h1)
  ·
   obtain ⟨j, hj, hjw⟩ := List.any_eq_true.1 h1
   simp only [Bool.and_eq_true, decide_eq_true_eq] at hjw
   obtain ⟨⟨hij, _⟩, hw⟩ := hjw
   obtain ⟨oj, hoj, e, he, hb, heq⟩ := Region.waitsFor_spec hw
   have hjn : j ≤ n := by have := List.mem_range.1 hj; omega
   rcases Nat.lt_or_ge j n with hlt | hge
   ·
    have := ih (n - j) (by omega) j (by omega) hlt
    rw [← heq]
    exact inv.closed j oj hoj this e he hb
   ·
    have hj2 : j = n := by omega
    subst hj2
    have : oj = on := Option.some.inj (hoj.symm.trans hon)
    subst this
    rw [← heq]
    exact hall e he hb
theorem tail_wait {n i : Nat} {E : List Nat} {listed : Array Bool} (hs : sinkE md ops n E = true) (hc : chainT md ops n = true) (inv : HeadE md ops n E listed) (hin : i < n) (hun : listed.getD i true = false) {j : Nat} (hj : j ∈ Region.ready md ops listed) : j < n := by
 rcases Nat.lt_or_ge j n with h | h
 · exact h
 ·
  exfalso
  obtain ⟨hjun, oj, hoj, hall⟩ := mem_ready.1 hj
  rcases Nat.eq_or_lt_of_le h with e | hlt
  ·
   subst e
   have := head_done hs inv hj (n - i) i (by omega) hin
   rw [getD_both hun] at this
   cases this
  ·
   have hjs : j < ops.size := (Array.getElem?_eq_some_iff.1 hoj).1
   unfold chainT at hc
   have h1 := List.all_eq_true.1 hc j (List.mem_range.2 hjs)
   rw [Bool.or_eq_true, decide_eq_true_eq] at h1
   rcases h1 with h1 | h1
   · omega
   ·
    obtain ⟨o', ho', e, he, hb, heq⟩ := Region.waitsFor_spec h1
    have : o' = oj := Option.some.inj (ho'.symm.trans hoj)
    subst this
    have h2 := hall e he hb
    rw [heq, getD_both (inv.tail (j - 1) (by omega) (by omega))] at h2
    cases h2
theorem wpAnyE_first {n i : Nat} {E : List Nat} {oi : Oper} {v : Value} {L : Array Bool → Act → Prop} (hi : ops[i]? = some oi) (hsel : ∀ (j : Nat) (o : Oper) cs b, ops[j]? = some o → o.op ≠ .select cs b)
 (hs : sinkE md ops n E = true) (hc : chainT md ops n = true) (hin : i < n) (hdone : ∀ listed a, L listed a → ∀ j ∈ Region.ready md ops listed, n ≤ j) :
 ∀ (f : Nat) (listed : Array Bool) (a : Act), HeadE md ops n E listed →
  (∀ j oj, ops[j]? = some oj → j ≠ i → listed.getD j true = false → (∀ e ∈ oj.after, Region.binds md e = true → e.on ≠ i) → oi.apart ops oj = true) →
  i ∈ Region.ready md ops listed → YieldsAt P ops w oi v a →
  wpAnyL P md ops w n L f (listed.setIfInBounds i true) (a.put oi.dst v) → wpAnyL P md ops w n L (f + 1) listed a := by
 intro f
 induction f with
 |
  zero =>
  intro listed a inv _ hr hy H
  have hun := (mem_ready.1 hr).1
  refine ⟨fun h => (by rw [h] at hr; cases hr), fun j hj => ?_⟩
  have hjn := tail_wait hs hc inv hin hun hj
  refine ⟨hjn, ?_⟩
  by_cases hji : j = i
  · subst hji; exact hy.stOp hi H
  ·
   have := hdone _ _ H j (ready_mono hj hji)
   omega
 |
  succ f ih =>
  intro listed a inv hfree hr hy H
  have hun := (mem_ready.1 hr).1
  refine ⟨fun h => (by rw [h] at hr; cases hr), fun j hj => ?_⟩
  have hjn := tail_wait hs hc inv hin hun hj
  refine ⟨hjn, ?_⟩
  by_cases hji : j = i
  · subst hji; exact hy.stOp hi H
  ·
   have h1 := (H.2 j (ready_mono hj hji)).2
   obtain ⟨hjun, oj, hoj, hall⟩ := mem_ready.1 hj
   have hnot : ∀ e ∈ oj.after, Region.binds md e = true → e.on ≠ i := fun e he hb heq => by
    have h2 := hall e he hb
    rw [heq, getD_both hun] at h2
    cases h2
   have hs2 := stOp_put hoj (hfree j oj hoj hji hjun hnot) (fun cs b => hsel i oi cs b hi) (fun cs b => hsel j oj cs b hoj) hy h1
   refine stOp_mono (fun a' h3 => ih (listed.setIfInBounds j true) a' (inv.set hj hjn) (fun k ok hk hki hun' hno => ?_) (ready_mono hr (Ne.symm hji)) h3.1 ?_) hs2
   ·
    refine hfree k ok hk hki ?_ hno
    by_cases hjk : j = k
    · subst hjk; exact hjun
    · rw [getD_set_ne true hjk] at hun'; exact hun'
   ·
    rw [Array.setIfInBounds_comm _ _ hji]
    exact h3.2
def floatB (md : Region.Mode) (ops : Array Oper) (g n : Nat) : List Nat → Array Bool → Bool
 | [], listed => Region.seqB md ops g n listed
 | k :: ks, listed => (Region.ready md ops listed).contains k && Region.free md ops listed k && decide (k < n) && floatB md ops g n ks (listed.setIfInBounds k true)
theorem wpAnyE_lex {n g : Nat} {E : List Nat} {Lq : Act → Prop} (hsel : Region.noSelect ops = true) (hs : sinkE md ops n E = true) (hc : chainT md ops n = true) :
 ∀ (l : List Oper) (ks : List Nat) (listed : Array Bool) (a : Act), ks.map (fun k => ops[k]?) = l.map some → HeadE md ops n E listed → floatB md ops g n ks listed = true → wpStill P ops w Lq l a →
 wpAnyL P md ops w n (fun listed' a' => Region.seqB md ops g n listed' = true ∧ Lq a') l.length listed a
 | [], [], listed, a, _, _, hB, h => ⟨hB, h⟩
 | [], _ :: _, _, _, hm, _, _, _ => by simp at hm
 | _ :: _, [], _, _, hm, _, _, _ => by simp at hm
 |
  o :: l, k :: ks, listed, a, hm, inv, hB, h => by
  simp only [List.map_cons, List.cons.injEq] at hm
  simp only [floatB, Bool.and_eq_true, decide_eq_true_eq] at hB
  obtain ⟨⟨⟨hr, hf⟩, hkn⟩, hB'⟩ := hB
  have hr' : k ∈ Region.ready md ops listed := by simpa using hr
  have hst : stOp P ops w k (wpStill P ops w Lq l) a := by unfold stOp; simp only [hm.1]; exact h
  obtain ⟨v, hy, hK⟩ := yieldsAt_of_stOp hm.1 hst
  exact wpAnyE_first hm.1 (Region.noSelect_spec hsel) hs hc hkn (fun listed' a' hL => seqB_ready hL.1) l.length listed a inv (Region.free_spec hm.1 hf) hr' hy
   (wpAnyE_lex hsel hs hc l ks _ _ hm.2 (inv.set hr' hkn) hB' hK)
theorem wpAny_float {n : Nat} {E : List Nat} {a : Act} {w : World} {hd tl : List Oper} {listed : Array Bool} {fuel : Nat} (ks : List Nat) (hk : ks.map (fun k => ops[k]?) = hd.map some) (htl : ∀ j, tl[j]? = ops[n + j]?)
 (hB : (Region.noSelect ops && sinkE md ops n E && chainT md ops n && floatB md ops tl.length n ks listed) = true) (inv : HeadE md ops n E listed) (hf : fuel = ks.length + tl.length)
 (h : wpStill P ops w (fun a' => wpList P ops Q tl a' w) hd a) : wpAny P md ops Q fuel listed a w := by
 simp only [Bool.and_eq_true] at hB
 obtain ⟨⟨⟨hsel, hs⟩, hc⟩, hlex⟩ := hB
 have H := wpAnyE_lex (g := tl.length) hsel hs hc hd ks listed a hk inv hlex h
 have hl : hd.length = ks.length := by have := congrArg List.length hk; simpa using this.symm
 have := wpAny_of_head (Q' := Q) (g := tl.length) (fun listed' a' hL => wpAny_of_seq (Q' := Q) tl n listed' a' w htl hL.1 hL.2) _ _ _ H
 rw [hf, ← hl]
 exact this
theorem wp_region_float {id : Nat} {a : Act} {w : World} {l : List Oper} (n i : Nat) (oi : Oper) (v : Value) (ks : List Nat) (pick : List Oper → List Oper) (hm : P.follows .mixedOrders = true) (hi : l.toArray[i]? = some oi) (hin : i < n) (hnl : n ≤ l.length) (hks : ks.length + 1 = n)
 (haf : oi.after.all (fun e => !Region.binds .any e) = true) (hsel : Region.noSelect l.toArray = true) (hfr : Region.free .any l.toArray (Array.replicate l.toArray.size false) i = true) (hrd : (Region.ready .any l.toArray (Array.replicate l.toArray.size false)).contains i = true)
 (hQ : ∀ c a w, Q (.panic c) (a.put oi.dst v) w → Q (.panic c) a w) (hy : Yields P l.toArray oi v a) (hk : ks.map (fun k => l.toArray[k]?) = (pick l).map some)
 (hB : (Region.noSelect l.toArray && sinkE .any l.toArray n [i] && chainT .any l.toArray n && floatB .any l.toArray (l.length - n) n ks ((Array.replicate l.toArray.size false).setIfInBounds i true)) = true)
 (h : wpStill P l.toArray w.drew (fun a' => wpList P l.toArray Q (l.drop n) a' w.drew) (pick l) (a.put oi.dst v)) : (Code.region id l.toArray true).wp P Q a w := by
 refine wp_region_any hm ?_
 have hil : i < l.length := by omega
 have hsz : l.toArray.size = (l.length - 1) + 1 := by simp; omega
 have hmain : wpAny P .any l.toArray Q (l.length - 1) ((Array.replicate l.toArray.size false).setIfInBounds i true) (a.put oi.dst v) w.drew := by
  refine wpAny_float (n := n) (E := [i]) (tl := l.drop n) ks hk (fun j => by simp [List.getElem?_drop]) (by rw [List.length_drop]; exact hB) ⟨by simp, ?_, ?_, ?_⟩ (by rw [List.length_drop]; omega) h
  ·
   intro j oj hj hl e he hb
   by_cases hij : i = j
   ·
    subst hij
    have : oj = oi := Option.some.inj (hj.symm.trans hi)
    subst this
    have := Array.all_eq_true'.1 haf e he
    rw [hb] at this
    cases this
   ·
    rw [getD_set_ne false hij, getD_replicate_false] at hl
    cases hl
  ·
   intro t ht hts
   rw [getD_set_ne true (by omega)]
   exact getD_in (by simpa using hts) (getD_replicate_false _ _)
  ·
   intro k hk
   rw [List.mem_singleton] at hk
   subst hk
   simp [Array.getD_eq_getD_getElem?, hil]
 have := wpAny_take (md := .any) (fuel := l.length - 1) (w := w.drew) hi hsel hfr hrd hQ hy hmain
 rw [← hsz] at this
 exact this
end
def moveStep (xa xb : QSchema) (m : QMove) : Option QMove :=
 match idx (fieldNames xa) m.from_, idx (fieldNames xb) m.to_ with
 | some a, some b => some { m with a := (a : Int), b := (b : Int) }
 | _, _ => none
def convertP (s : QSource) (c : QConvert) : Option QConvert :=
 match idx (schemaNames s) c.from_, idx (schemaNames s) c.to_ with
 |
  some a, some b => match s.schemas[a]?, s.schemas[b]? with
  | some xa, some xb => (allP (fun _ => moveStep xa xb) c.moves).map (fun l => { c with a := (a : Int), b := (b : Int), moves := l })
  | _, _ => none
 | _, _ => none
theorem move_put {w : World} {cs : List Value} {l : List QMove} {k : Nat} {u : QMove} (h : CellsR 5 qMoveR w cs l) (hk : l[k]? = some u) (x y : Int) : CellsR 5 qMoveR w ((cs.set (k * 5 + 3) (.int .i64 x)).set (k * 5 + 2) (.int .i64 y)) (l.set k { u with a := x, b := y }) := by
 have hkl := (List.getElem?_eq_some_iff.1 hk).1
 have h1 : CellsR 5 qMoveR w (cs.set (k * 5 + 3) (.int .i64 x)) (l.set k { u with a := x }) := h.put (by omega) hkl (by
  have : chunk cs 5 k = _ := h.chunk hk
  rw [this]; rfl)
 have h2 := h1.put (i := k) (j := 2) (x' := { u with a := x, b := y }) (u := .int .i64 y) (by omega) (by simpa using hkl) (by
  have : chunk _ 5 k = _ := h1.chunk (i := k) (by rw [List.getElem?_set_self hkl])
  rw [this]; rfl)
 rwa [List.set_set] at h2
set_option maxHeartbeats 2000000 in
set_option maxRecDepth 100000 in
theorem numberConvert_any (R lo M base G n cap i : Nat) (cs : List Value) (s : QSource) (p : QConvert) (w : World) (hres : ResR (mask lo M w) R s) (hlo : lo ≤ G) (hGM : G < M) (hMw : M ≤ w.heap.size)
 (ho : w.ownsRow base 86 5 (.slice (some ⟨G, 0, none⟩) n cap) n cs) (hi : i < n) (hp : qConvertR (mask lo M w) (chunk cs 5 i) p) :
 Calls Tryz.prog 125 #[.pointer (some ⟨R, 0, none⟩), .pointer (some ⟨G, i * 5, none⟩)] w (RetElem 86 5 qConvertR base G n cap i cs lo M (convertP s p) w) := by
 obtain ⟨A1, n1, c1, hch, hmay⟩ := hp
 have p0 := own_cell ho hi (by omega) hch (j := 0) rfl
 simp only [Nat.add_zero] at p0
 have p1 := own_cell ho hi (by omega) hch (j := 1) rfl
 have p2 := own_cell ho hi (by omega) hch (j := 2) rfl
 have p3 := own_cell ho hi (by omega) hch (j := 3) rfl
 have p4 := own_cell ho hi (by omega) hch (j := 4) rfl
 have f2 := ho.frozenAt (i * 5 + 2)
 have f3 := ho.frozenAt (i * 5 + 3)
 have hGw : G < w.heap.size := by omega
 obtain ⟨b1, b2, b3, fA, fn, fc, hbR, hm1, hm2, hm3, hfs⟩ := hres.unm
 have r2 := hbR.cell 2
 have lR := hbR.lt
 simp only [List.getElem?_toArray, List.getElem?_cons_zero, List.getElem?_cons_succ] at r2
 have hget1 := col_get (schemaNames s) p.from_
 have hget2 := col_get (schemaNames s) p.to_
 have HRES := Lib.hid hres
 have HO := Lib.hid ho
 have HCH := Lib.hid hch
 have HMAY := Lib.hid hmay
 have HM3 := Lib.hid (hm3.same (w' := w.drew) rfl)
 clear hres ho hch hmay hbR hm1 hm2 hm3 hfs
 go_enter Tryz.func125, Tryz.ntmps125
 go_wp2_with fail
 cases hix1 : idx (schemaNames s) p.from_ with
 |
  none =>
  rw [hix1] at hget1
  have HNO : Hid (RetElem 86 5 qConvertR base G n cap i cs lo M (convertP s p) w (.panicked nothingP) w.drew) :=
   retElem_no (by unfold convertP; rw [hix1]) (grown_drew (World.grownBy.refl _ _))
  have HF := Lib.hid ((find_no b3 _ _ w.drew HM3.out hget1).mono (R' := fun e w' => e = .panicked nothingP ∧ w' = w.drew) (fun _ _ h => ⟨h.1, h.2.symm⟩))
  clear hix1 hget1 hget2
  refine wp_region_still_dies 10 [0, 1, 2, 3, 4, 5, 6, 7, 8, 9, 11, 12, 13, 14, 15, 16, 17, 18] (fun l => l.take 10 ++ (l.drop 11).take 8) (by kernel_rfl) rfl (by kernel_rfl) (fun d u c a h => by cases d <;> exact h) ?_
  simp only [List.take_succ_cons, List.take_zero, List.drop_succ_cons, List.drop_zero, List.cons_append, List.nil_append]
  repeat still_step
  refine wpStill_nil ?_
  refine ⟨_, 189, #[.map (some b3), .string p.from_], nothingP, rfl, rfl, ?_, HF.out, rfl, HNO.out⟩
  go_simp
 |
  some a =>
  rw [hix1] at hget1
  have HF1 := Lib.hid ((find_yes b3 _ _ (a : Int) w.drew HM3.out hget1).mono (R' := fun e w' => e = .returned (.int .i64 a) ∧ w' = w.drew) (fun _ _ h => ⟨h.1, h.2.symm⟩))
  have HIX1 := Lib.hid hix1
  have hal := idx_lt hix1
  clear hix1 hget1
  cases hix2 : idx (schemaNames s) p.to_ with
  |
   none =>
   rw [hix2] at hget2
   have HNO : Hid (RetElem 86 5 qConvertR base G n cap i cs lo M (convertP s p) w (.panicked nothingP) w.drew) :=
    retElem_no (by unfold convertP; rw [HIX1.out, hix2]) (grown_drew (World.grownBy.refl _ _))
   have HF := Lib.hid ((find_no b3 _ _ w.drew HM3.out hget2).mono (R' := fun e w' => e = .panicked nothingP ∧ w' = w.drew) (fun _ _ h => ⟨h.1, h.2.symm⟩))
   clear hix2 hget2
   refine wp_region_still_dies 19 [0, 1, 2, 3, 4, 5, 6, 7, 8, 9, 10, 11, 12, 13, 14, 15, 16, 17, 18] (fun l => l.take 19) (by kernel_rfl) rfl (by kernel_rfl) (fun d u c a h => by cases d <;> exact h) ?_
   simp only [List.take_succ_cons, List.take_zero]
   repeat still_step
   still_call HF1.out
   repeat still_step
   refine wpStill_nil ?_
   refine ⟨_, 189, #[.map (some b3), .string p.to_], nothingP, rfl, rfl, ?_, HF.out, rfl, HNO.out⟩
   go_simp
  |
   some b =>
   rw [hix2] at hget2
   have HF2 := Lib.hid ((find_yes b3 _ _ (b : Int) w.drew HM3.out hget2).mono (R' := fun e w' => e = .returned (.int .i64 b) ∧ w' = w.drew) (fun _ _ h => ⟨h.1, h.2.symm⟩))
   have HIX2 := Lib.hid hix2
   have hbl := idx_lt hix2
   clear hix2 hget2
   refine wp_region_float 22 1 _ (.pointer (some ⟨G, i * 5, none⟩)) [0, 2, 3, 4, 5, 6, 7, 8, 9, 10, 11, 12, 13, 14, 15, 16, 17, 18, 19, 20, 21] (fun l => l.take 1 ++ (l.drop 2).take 20) (by kernel_rfl) rfl (by omega) (by decide) rfl (by kernel_rfl) (by kernel_rfl) (by kernel_rfl) (by kernel_rfl) (fun _ _ _ h => h) (.inl ⟨rfl, fun _ => rfl⟩) rfl (by kernel_rfl) ?_
   simp only [List.take_succ_cons, List.take_zero, List.drop_succ_cons, List.drop_zero, List.cons_append, List.nil_append]
   repeat still_step
   still_call HF1.out
   repeat still_step
   still_call HF2.out
   repeat still_step
   refine wpStill_nil ?_
   change wpList _ _ _ _ _ w.drew
   go_wp2_with fail
   have ho1 := HO.out.stored (i * 5 + 2) (.int .i64 a)
   have ho2 := (ho1.1.stored (i * 5 + 3) (.int .i64 b)).1.drew
   have hga : w.grownBy ((w.setCell ⟨G, i * 5 + 2, none⟩ (.int .i64 a)).setCell ⟨G, i * 5 + 3, none⟩ (.int .i64 b)).drew (some G) := grown_drew (grown_near (grown_near (World.grownBy.refl _ _) _ _) _ _)
   have hsza : ((w.setCell ⟨G, i * 5 + 2, none⟩ (.int .i64 a)).setCell ⟨G, i * 5 + 3, none⟩ (.int .i64 b)).drew.heap.size = w.heap.size := by simp [World.setCell]
   have hcha : chunk ((cs.set (i * 5 + 2) (.int .i64 a)).set (i * 5 + 3) (.int .i64 b)) 5 i = [.string p.from_, .string p.to_, .int .i64 a, .int .i64 b, .slice A1 n1 c1] := by
    rw [chunk_set _ (by omega), chunk_set _ (by omega), HCH.out]; rfl
   have hoth : ∀ j, j ≠ i → chunk ((cs.set (i * 5 + 2) (.int .i64 a)).set (i * 5 + 3) (.int .i64 b)) 5 j = chunk cs 5 j := fun j hj => by rw [chunk_other _ (by omega) hj, chunk_other _ (by omega) hj]
   generalize ((w.setCell ⟨G, i * 5 + 2, none⟩ (.int .i64 a)).setCell ⟨G, i * 5 + 3, none⟩ (.int .i64 b)).drew = wa at ho2 hga hsza ⊢
   generalize (cs.set (i * 5 + 2) (.int .i64 a)).set (i * 5 + 3) (.int .i64 b) = ca at ho2 hcha hoth
   have q2 := own_cell ho2 hi (by omega) hcha (j := 2) rfl
   have hmw := (HMAY.out.mono qMoveR_mono (mask_below hga hlo hGM)).unm qMoveR_unm
   obtain ⟨xa, hxa⟩ : ∃ x, s.schemas[a]? = some x := ⟨s.schemas[a]'(by simpa [schemaNames] using hal), List.getElem?_eq_getElem _⟩
   obtain ⟨xb, hxb⟩ : ∃ x, s.schemas[b]? = some x := ⟨s.schemas[b]'(by simpa [schemaNames] using hbl), List.getElem?_eq_getElem _⟩
   have HXA := Lib.hid hxa
   have HXB := Lib.hid hxb
   have HOA := Lib.hid ho2
   have HGA := Lib.hid hga
   have HCHA := Lib.hid hcha
   have HOTH := Lib.hid hoth
   have HSZ := Lib.hid hsza
   have HBD := Lib.hid HMAY.out.2
   have hGa : G < wa.heap.size := by rw [hsza]; exact hGw
   clear ho1 ho2 hga hcha hoth hsza hxa hxb p0 p1 p2 p3 p4 f2 f3 r2 lR q2 HF1 HF2 HM3
   refine (cloneMove_any A1 n1 c1 p.moves _ hmw).mono ?_
   rintro e w1 ⟨v, cs1, rfl, hcs1, ho1, hb1⟩
   obtain ⟨vA, vn, vc, rfl⟩ : ∃ A m c, v = .slice A m c := by
    rcases own_row ho1 with ⟨rfl, _⟩ | ⟨g, cap, rfl, _⟩
    · exact ⟨_, _, _, rfl⟩
    · exact ⟨_, _, _, rfl⟩
   have p4 := own_cell HOA.out hi (by omega) HCHA.out (j := 4) rfl
   have q1 : w1.cell? ⟨G, i * 5 + 4, none⟩ = some (.slice A1 n1 c1) := ((bcell hb1).1 _ _ hGa).trans p4
   have hf1 : w1.frozen? ⟨G, i * 5 + 4, none⟩ = false := ((bcell hb1).2 _ _ hGa).trans (HOA.out.frozenAt _)
   have hG1 : G < w1.heap.size := Nat.lt_of_lt_of_le hGa hb1.size
   have HO1 := Lib.hid ho1
   have HC1 := Lib.hid hcs1
   have HB1 := Lib.hid hb1
   clear ho1 hcs1 hb1 p4 hmw
   go_wp2_with fail
   have ho2 : (w1.setCell ⟨G, i * 5 + 4, none⟩ (.slice vA vn vc)).ownsRow base 86 5 (.slice (some ⟨G, 0, none⟩) n cap) n (ca.set (i * 5 + 4) (.slice vA vn vc)) := ((own_below0 HOA.out HB1.out).stored (i * 5 + 4) (.slice vA vn vc)).1
   have hi2 : (w1.setCell ⟨G, i * 5 + 4, none⟩ (.slice vA vn vc)).ownsRow wa.heap.size 202 5 (.slice vA vn vc) p.moves.length cs1 := own_far HO1.out (by simpa using hGa) _
   have hg2 : w.grownBy (w1.setCell ⟨G, i * 5 + 4, none⟩ (.slice vA vn vc)) (some G) := grown_near (grown_trans HGA.out (grown_of_below HB1.out _)) _ _
   generalize w1.setCell ⟨G, i * 5 + 4, none⟩ (.slice vA vn vc) = w2 at ho2 hi2 hg2 ⊢
   have hvn : vn = p.moves.length := by
    rcases own_row hi2 with ⟨h, h0⟩ | ⟨g, cap, h, _⟩
    · injection h with _ h; omega
    · injection h
   have HO2 := Lib.hid ho2
   have HI2 := Lib.hid hi2
   have HG2 := Lib.hid hg2
   have HVN := Lib.hid hvn
   clear ho2 hi2 hg2 hvn q1 hf1 hG1 HO1 HB1
   go_loopg [43] vn (fun q j wr => ∃ (k : Nat) (out : List QMove) (cr : List Value), k ≤ vn ∧ q = vn - k ∧ j = .int .i64 k ∧ allTo (fun _ => moveStep xa xb) p.moves k = some out ∧ w.grownBy wr (some G) ∧ wr.ownsRow base 86 5 (.slice (some ⟨G, 0, none⟩) n cap) n (ca.set (i * 5 + 4) (.slice vA vn vc)) ∧
    wr.ownsRow wa.heap.size 202 5 (.slice vA vn vc) p.moves.length cr ∧ CellsR 5 qMoveR wa cr (out ++ p.moves.drop k))
   case atStart => exact ⟨0, [], cs1, Nat.zero_le _, rfl, rfl, rfl, HG2.out, HO2.out, HI2.out, HC1.out⟩
   case round =>
    clear HO2 HI2 HG2 HC1
    obtain ⟨k, out, cr, hk, hq, rfl, hto, hgr, hog, hoh, hcr⟩ := hrel
    have HQ := Lib.hid hq
    have HTO := Lib.hid hto
    clear hq hto
    by_cases hlt : k < vn
    ·
     rcases own_row hoh with ⟨h, h0⟩ | ⟨H, hcap, h, hH, hHw, hn2⟩
     · exfalso; injection h with _ h; omega
     injection h with h1 h2 h3
     subst h1 h3
     clear h2
     have hvn2 : vn ≤ 9223372036854775807 := by have := HVN.out; omega
     have hHw2 : w.heap.size ≤ H := by have := HSZ.out; omega
     obtain ⟨m, hm⟩ : ∃ m, p.moves[k]? = some m := ⟨p.moves[k]'(by have := HVN.out; omega), List.getElem?_eq_getElem _⟩
     have hlen := allTo_len (by have := HVN.out; omega) HTO.out
     have hat : (out ++ p.moves.drop k)[k]? = some m := by
      rw [List.getElem?_append_right (by omega), List.getElem?_drop, hlen]
      simpa using hm
     have hch : chunk cr 5 k = [.string m.to_, .string m.from_, .int .i64 m.b, .int .i64 m.a, .int .i64 m.shift] := hcr.chunk hat
     have hoh' : wr.ownsRow wa.heap.size 202 5 (.slice (some ⟨H, 0, none⟩) vn vc) vn cr := by have := HVN.out; rw [this] at hoh ⊢; exact hoh
     have e0 := own_cell hoh' hlt (by omega) hch (j := 0) rfl
     simp only [Nat.add_zero] at e0
     have e1 := own_cell hoh' hlt (by omega) hch (j := 1) rfl
     have e2 := own_cell hoh' hlt (by omega) hch (j := 2) rfl
     have e3 := own_cell hoh' hlt (by omega) hch (j := 3) rfl
     have f2 := hoh'.frozenAt (k * 5 + 2)
     have f3 := hoh'.frozenAt (k * 5 + 3)
     have hchG : chunk (ca.set (i * 5 + 4) (.slice (some ⟨H, 0, none⟩) vn vc)) 5 i = [.string p.from_, .string p.to_, .int .i64 a, .int .i64 b, .slice (some ⟨H, 0, none⟩) vn vc] := by rw [chunk_set _ (by omega), HCHA.out]; rfl
     have g2 := own_cell hog hi (by omega) hchG (j := 2) rfl
     have g3 := own_cell hog hi (by omega) hchG (j := 3) rfl
     have g4 := own_cell hog hi (by omega) hchG (j := 4) rfl
     obtain ⟨b1', b2', b3', fA', fn', fc', hbR', _, _, _, hfs'⟩ := (HRES.out.below (mask_below hgr hlo hGM)).unm
     have s3 := hbR'.cell 3
     have lR' := hbR'.lt
     simp only [List.getElem?_toArray, List.getElem?_cons_zero, List.getElem?_cons_succ] at s3
     have hfn : fn' = s.schemas.length := by have := hfs'.len; simpa using this
     have hal' : a < fn' := by rw [hfn]; simpa [schemaNames] using hal
     have hbl' : b < fn' := by rw [hfn]; simpa [schemaNames] using hbl
     obtain ⟨fb, foff, fm, fg, rfl, hfb, hfm, hfc, hfmap⟩ := map_at hfs' hal'
     obtain ⟨fb2, foff2, fm2, fg2, efb, hfb2, hfm2, hfc2, hfmap2⟩ := map_at hfs' hbl'
     injection efb with efb
     injection efb with ef1 ef2
     subst ef1 ef2
     have hfx : fm = fieldMap xa := by rw [List.getElem?_map, HXA.out, Option.map_some, Option.some.injEq] at hfm; exact hfm.symm
     have hfx2 : fm2 = fieldMap xb := by rw [List.getElem?_map, HXB.out, Option.map_some, Option.some.injEq] at hfm2; exact hfm2.symm
     subst hfx hfx2
     have hget1 := col_get (fieldNames xa) m.from_
     have hget2 := col_get (fieldNames xb) m.to_
     have HGR := Lib.hid hgr
     have HOG := Lib.hid hog
     have HOH := Lib.hid hoh'
     have HCR := Lib.hid hcr
     have HM := Lib.hid hm
     have HLEN := Lib.hid hlen
     have HAT := Lib.hid hat
     have HFM := Lib.hid (hfmap.same (w' := wr.drew) rfl)
     have HFM2 := Lib.hid (hfmap2.same (w' := wr.drew) rfl)
     clear hgr hog hoh hoh' hcr hm hlen hat hch hchG hbR' hfs' hfm hfm2 hfmap hfmap2 hfn
     have hkn : (k : Int) < (vn : Int) := by omega
     have hk0 : (0 : Int) ≤ (k : Int) := by omega
     have ha0 : (0 : Int) ≤ (a : Int) := by omega
     have han : (a : Int) < (fn' : Int) := by omega
     have hb0 : (0 : Int) ≤ (b : Int) := by omega
     have hbn : (b : Int) < (fn' : Int) := by omega
     go_wp2_with fail
     cases hix1 : idx (fieldNames xa) m.from_ with
     |
      none =>
      rw [hix1] at hget1
      have HNO : Hid (RetElem 86 5 qConvertR base G n cap i cs lo M (convertP s p) w (.panicked nothingP) wr.drew) := by
       refine retElem_no ?_ (grown_drew HGR.out)
       unfold convertP
       rw [HIX1.out, HIX2.out]
       simp only [HXA.out, HXB.out]
       rw [allP_none (k := k + 1) (by have := HVN.out; omega) (allTo_no HTO.out HM.out (by unfold moveStep; rw [hix1]))]
       rfl
      have HF := Lib.hid ((find_no fg _ _ wr.drew HFM.out hget1).mono (R' := fun e w' => e = .panicked nothingP ∧ w' = wr.drew) (fun _ _ h => ⟨h.1, h.2.symm⟩))
      clear hix1 hget1 hget2
      refine wp_region_still_dies 16 [0, 1, 2, 3, 4, 5, 6, 7, 8, 9, 10, 11, 12, 13, 14, 15, 17, 18, 19, 20, 21, 22, 23, 24, 25, 26, 27, 28, 29, 30] (fun l => l.take 16 ++ (l.drop 17).take 14) (by kernel_rfl) rfl (by kernel_rfl) (fun d u c a h => by cases d <;> exact h) ?_
      simp only [List.take_succ_cons, List.take_zero, List.drop_succ_cons, List.drop_zero, List.cons_append, List.nil_append]
      repeat still_step
      refine wpStill_nil ?_
      refine ⟨_, 189, #[.map (some fg), .string m.from_], nothingP, rfl, rfl, ?_, HF.out, rfl, HNO.out⟩
      go_simp
     |
      some f =>
      rw [hix1] at hget1
      have HF1 := Lib.hid ((find_yes fg _ _ (f : Int) wr.drew HFM.out hget1).mono (R' := fun e w' => e = .returned (.int .i64 f) ∧ w' = wr.drew) (fun _ _ h => ⟨h.1, h.2.symm⟩))
      have HJ1 := Lib.hid hix1
      clear hix1 hget1
      cases hix2 : idx (fieldNames xb) m.to_ with
      |
       none =>
       rw [hix2] at hget2
       have HNO : Hid (RetElem 86 5 qConvertR base G n cap i cs lo M (convertP s p) w (.panicked nothingP) wr.drew) := by
        refine retElem_no ?_ (grown_drew HGR.out)
        unfold convertP
        rw [HIX1.out, HIX2.out]
        simp only [HXA.out, HXB.out]
        rw [allP_none (k := k + 1) (by have := HVN.out; omega) (allTo_no HTO.out HM.out (by unfold moveStep; rw [HJ1.out, hix2]))]
        rfl
       have HF := Lib.hid ((find_no fg2 _ _ wr.drew HFM2.out hget2).mono (R' := fun e w' => e = .panicked nothingP ∧ w' = wr.drew) (fun _ _ h => ⟨h.1, h.2.symm⟩))
       clear hix2 hget2
       refine wp_region_still_dies 31 [0, 1, 2, 3, 4, 5, 6, 7, 8, 9, 10, 11, 12, 13, 14, 15, 16, 17, 18, 19, 20, 21, 22, 23, 24, 25, 26, 27, 28, 29, 30] (fun l => l.take 31) (by kernel_rfl) rfl (by kernel_rfl) (fun d u c a h => by cases d <;> exact h) ?_
       simp only [List.take_succ_cons, List.take_zero]
       repeat still_step
       still_call HF1.out
       repeat still_step
       refine wpStill_nil ?_
       refine ⟨_, 189, #[.map (some fg2), .string m.to_], nothingP, rfl, rfl, ?_, HF.out, rfl, HNO.out⟩
       go_simp
      |
       some h =>
       rw [hix2] at hget2
       have HF2 := Lib.hid ((find_yes fg2 _ _ (h : Int) wr.drew HFM2.out hget2).mono (R' := fun e w' => e = .returned (.int .i64 h) ∧ w' = wr.drew) (fun _ _ h => ⟨h.1, h.2.symm⟩))
       have HJ2 := Lib.hid hix2
       clear hix2 hget2
       refine wp_region_float 34 1 _ (.pointer (some ⟨H, k * 5, none⟩)) [0, 2, 3, 4, 5, 6, 7, 8, 9, 10, 11, 12, 13, 14, 15, 16, 17, 18, 19, 20, 21, 22, 23, 24, 25, 26, 27, 28, 29, 30, 31, 32, 33] (fun l => l.take 1 ++ (l.drop 2).take 32) (by kernel_rfl) rfl (by omega) (by decide) rfl (by kernel_rfl) (by kernel_rfl) (by kernel_rfl) (by kernel_rfl) (fun _ _ _ h => h) (.inl ⟨rfl, fun _ => rfl⟩) rfl (by kernel_rfl) ?_
       simp only [List.take_succ_cons, List.take_zero, List.drop_succ_cons, List.drop_zero, List.cons_append, List.nil_append]
       repeat still_step
       still_call HF1.out
       repeat still_step
       still_call HF2.out
       repeat still_step
       refine wpStill_nil ?_
       change wpList _ _ _ _ _ wr.drew
       go_wp2_with fail
       go_roundg (vn - (k + 1))
       case measure => have := HQ.out; omega
       case rel =>
        have ho3 := (HOH.out.drew.stored (k * 5 + 3) (.int .i64 f)).1
        have ho4 := (ho3.stored (k * 5 + 2) (.int .i64 h)).1
        have hc3 := move_put HCR.out HAT.out (f : Int) (h : Int)
        refine ⟨k + 1, out ++ [{ m with a := (f : Int), b := (h : Int) }], (cr.set (k * 5 + 3) (.int .i64 f)).set (k * 5 + 2) (.int .i64 h), by omega, rfl, by go_num, ?_, grown_far (grown_far (grown_drew HGR.out) (by simpa using hHw2) _) (by simpa using hHw2) _, own_ne (own_ne HOG.out.drew (by simp; omega) _) (by simp; omega) _, ?_, ?_⟩
        · exact allTo_yes HTO.out HM.out (by unfold moveStep; rw [HJ1.out, HJ2.out])
        · have := HVN.out; rw [this] at ho4 ⊢; exact ho4
        · rw [← set_drop HLEN.out HM.out]; exact hc3
    ·
     have hke : k = p.moves.length := by have := HVN.out; omega
     go_wp2_with fail
     go_end0
     have hP : convertP s p = some { p with a := (a : Int), b := (b : Int), moves := out } := by
      unfold convertP allP
      rw [HIX1.out, HIX2.out]
      simp only [HXA.out, HXB.out]
      rw [← hke, HTO.out]; rfl
     have hsl : SlR 5 qMoveR (mask lo M wr) (.slice vA vn vc) out := by
      rw [hke, List.drop_length, List.append_nil] at hcr
      exact slR_of_row (mask_own hoh (by rw [HSZ.out]; exact hMw)) ⟨hcr.1, hcr.2⟩ (by rw [allTo_len (by omega) HTO.out, hke])
     refine retElem_yes hP hgr hog (fun j hj => by rw [chunk_other _ (by omega) hj]; exact HOTH.out j hj) ?_
     refine ⟨vA, vn, vc, ?_, hsl, ?_⟩
     · rw [chunk_set _ (by omega), HCHA.out]; rfl
     ·
      have := HBD.out
      rw [allTo_len (by omega) HTO.out, hke]; exact this
theorem run_makeMapN (n : Int) (w : World) : (Instr.makeMap 179 (some (.int .i64 n))).run Tryz.prog w = .ok (.map (some w.heap.size)) (w.alloc (.map #[] 0)) := by
 simp [Instr.makeMap, run_underlying Tryz.underlying179, asInt, asIntOf]
set_option maxHeartbeats 1000000 in
theorem collectStr_any (A : Option Addr) (n c : Nat) (l : List ByteArray) (w : World) (hs : SlR 1 strR w (.slice A n c) l) :
 Calls Tryz.prog 177 #[.slice A n c, .func (.func 178) #[] #[]] w (RetCol l w) := by
 have hn2 : n ≤ 9223372036854775807 := by have := hs.le; omega
 have HN := Lib.hid hs.len
 have HS := Lib.hid hs
 clear hs
 have hmm := run_makeMapN
 go_enter Tryz.func177, Tryz.ntmps177
 go_wp2_with fail
 clear hmm
 have hm0 : MapAt strV i64V (w.alloc (.map #[] 0)) w.heap.size (colN l 0).1 := MapAt.new _ _ w
 have hb0 : Below w.heap.size w (w.alloc (.map #[] 0)) := (Below.refl _ _).alloc (Nat.le_refl _) _
 have HM0 := Lib.hid hm0
 have HB0 := Lib.hid hb0
 clear hm0 hb0
 go_loopg [5, 15] n (fun g t i wr => ∃ k : Nat, k ≤ n ∧ g = n - k ∧ i = .int .i64 k ∧ t = .bool (colN l k).2 ∧ MapAt strV i64V wr w.heap.size (colN l k).1 ∧ Below w.heap.size w wr)
 case atStart => exact ⟨0, Nat.zero_le _, rfl, rfl, rfl, HM0.out, HB0.out⟩
 case round =>
  clear HM0 HB0
  obtain ⟨k, hk, hg, rfl, rfl, hm, hb⟩ := hrel
  have HG := Lib.hid hg
  have HM := Lib.hid hm
  have HB := Lib.hid hb
  clear hg hm hb
  by_cases hlt : k < n
  ·
   obtain ⟨b, off, x, rfl, hbl, hx, hc⟩ := str_at (HS.out.mono strR_mono HB.out) hlt
   have HX : Hid (l[k]? = some x) := hx
   clear hx
   have hxn : x = x := rfl
   clear hxn
   obtain ⟨t, ht⟩ : ∃ t, (colN l k).2 = t := ⟨_, rfl⟩
   have HT := Lib.hid ht
   rw [ht]
   clear ht
   go_wp2_with fail
   refine (idName_any _ _).mono ?_
   rintro e w' ⟨rfl, rfl⟩
   have hmw := HM.out
   have hbw := HB.out
   have hlook := run_lookup_m (keyEq_string Tryz.underlying9) Tryz.underlying179 (z := .int .i64 0) (by kernel_rfl) hmw x true
   have HMW := Lib.hid hmw
   have HBW := Lib.hid hbw
   clear hmw hbw HM HB
   cases hgt : getM (colN l k).1 x with
   |
    some v =>
    rw [hgt] at hlook
    simp only [if_true, Option.map_some, Option.getD_some, Option.isSome_some] at hlook
    have HGT := Lib.hid hgt
    clear hgt
    go_wp2_with fail
    go_roundg (n - (k + 1))
    case measure => have := HG.out; omega
    case rel =>
     have he : colN l (k + 1) = ((colN l k).1, true) := by rw [colN_succ HX.out, cstep_yes HGT.out]
     exact ⟨k + 1, by omega, rfl, by go_num, by rw [he], by rw [he]; exact HMW.out, HBW.out⟩
   |
    none =>
    rw [hgt] at hlook
    simp only [if_true, Option.map_none, Option.getD_none, Option.isSome_none] at hlook
    have HGT := Lib.hid hgt
    clear hgt
    go_wp2_with fail
    refine (idName_any _ _).mono ?_
    rintro e w' ⟨rfl, rfl⟩
    obtain ⟨w3, hrun3, hm3, hg3⟩ := run_update_m (keyEq_string Tryz.underlying9) Tryz.underlying179 HMW.out x (k : Int)
    have HB3 := Lib.hid (HBW.out.grown hg3 HBW.out.size (fun r e => by cases e; exact Nat.le_refl _))
    have HM3 := Lib.hid hm3
    clear hm3 hg3 hlook
    go_wp2_with fail
    go_roundg (n - (k + 1))
    case measure => have := HG.out; omega
    case rel =>
     have he : colN l (k + 1) = (putM (colN l k).1 x (k : Int), (colN l k).2) := by rw [colN_succ HX.out, cstep_no HGT.out]
     exact ⟨k + 1, by omega, rfl, by go_num, by rw [he, HT.out], by rw [he]; exact HM3.out, HB3.out⟩
  ·
   have HE : Hid (colN l k = col l) := by show _ = _; have := HN.out; rw [col, show k = l.length by first | omega | (simp; omega)]
   go_wp2_with fail
   go_ret2
   exact ⟨_, by rw [HE.out]; rfl, by rw [← HE.out]; exact HM.out, Nat.le_refl _, HB.out⟩
set_option maxHeartbeats 1000000 in
theorem collectUnit_any (A : Option Addr) (n c : Nat) (l : List QUnit) (w : World) (hs : SlR 5 qUnitR w (.slice A n c) l) :
 Calls Tryz.prog 179 #[.slice A n c, .func (.func 180) #[] #[]] w (RetCol (l.map (·.name)) w) := by
 have hn2 : n ≤ 9223372036854775807 := by have := hs.le; omega
 have HN := Lib.hid hs.len
 have HS := Lib.hid hs
 clear hs
 have hmm := run_makeMapN
 go_enter Tryz.func179, Tryz.ntmps179
 go_wp2_with fail
 clear hmm
 have hm0 : MapAt strV i64V (w.alloc (.map #[] 0)) w.heap.size (colN (l.map (·.name)) 0).1 := MapAt.new _ _ w
 have hb0 : Below w.heap.size w (w.alloc (.map #[] 0)) := (Below.refl _ _).alloc (Nat.le_refl _) _
 have HM0 := Lib.hid hm0
 have HB0 := Lib.hid hb0
 clear hm0 hb0
 go_loopg [5, 15] n (fun g t i wr => ∃ k : Nat, k ≤ n ∧ g = n - k ∧ i = .int .i64 k ∧ t = .bool (colN (l.map (·.name)) k).2 ∧ MapAt strV i64V wr w.heap.size (colN (l.map (·.name)) k).1 ∧ Below w.heap.size w wr)
 case atStart => exact ⟨0, Nat.zero_le _, rfl, rfl, rfl, HM0.out, HB0.out⟩
 case round =>
  clear HM0 HB0
  obtain ⟨k, hk, hg, rfl, rfl, hm, hb⟩ := hrel
  have HG := Lib.hid hg
  have HM := Lib.hid hm
  have HB := Lib.hid hb
  clear hg hm hb
  by_cases hlt : k < n
  ·
   obtain ⟨b, off, x, rfl, hbl, hx, e0, e1, e2, e3, e4⟩ := qUnit_at (HS.out.mono qUnitR_mono HB.out) hlt
   have HX : Hid ((l.map (·.name))[k]? = some x.name) := by show _ = _; rw [List.getElem?_map, hx]; rfl
   clear hx
   obtain ⟨t, ht⟩ : ∃ t, (colN (l.map (·.name)) k).2 = t := ⟨_, rfl⟩
   have HT := Lib.hid ht
   rw [ht]
   clear ht
   go_wp2_with fail
   have hmz : MapAt strV i64V (wr.alloc (.cells #[.string x.name, .string x.of_, .int .i64 x.factor, .int .i64 x.base, .int .i64 x.scale] 116)) w.heap.size (colN (l.map (·.name)) k).1 := HM.out.grown (World.grownBy_alloc _ _ none) (by simp)
   have hbz : Below w.heap.size w (wr.alloc (.cells #[.string x.name, .string x.of_, .int .i64 x.factor, .int .i64 x.base, .int .i64 x.scale] 116)) := HB.out.alloc HB.out.size _
   have hblk : Blk (wr.alloc (.cells #[.string x.name, .string x.of_, .int .i64 x.factor, .int .i64 x.base, .int .i64 x.scale] 116)) wr.heap.size 116 #[.string x.name, .string x.of_, .int .i64 x.factor, .int .i64 x.base, .int .i64 x.scale] := Blk.new _ _ _
   generalize wr.alloc (.cells #[.string x.name, .string x.of_, .int .i64 x.factor, .int .i64 x.base, .int .i64 x.scale] 116) = wz at hmz hbz hblk ⊢
   refine (unitName_any x _).mono ?_
   rintro e w' ⟨rfl, rfl⟩
   have hmw : MapAt strV i64V (wz.alloc (.cells #[.string x.name, .string x.of_, .int .i64 x.factor, .int .i64 x.base, .int .i64 x.scale] 116)) w.heap.size (colN (l.map (·.name)) k).1 := hmz.grown (World.grownBy_alloc _ _ none) (by simp)
   have hbw : Below w.heap.size w (wz.alloc (.cells #[.string x.name, .string x.of_, .int .i64 x.factor, .int .i64 x.base, .int .i64 x.scale] 116)) := hbz.alloc hbz.size _
   have hbk := hblk.alloc (.cells #[.string x.name, .string x.of_, .int .i64 x.factor, .int .i64 x.base, .int .i64 x.scale] 116)
   generalize wz.alloc (.cells #[.string x.name, .string x.of_, .int .i64 x.factor, .int .i64 x.base, .int .i64 x.scale] 116) = w1 at hmw hbw hbk ⊢
   have d0 := hbk.cell 0
   have d1 := hbk.cell 1
   have d2 := hbk.cell 2
   have d3 := hbk.cell 3
   have d4 := hbk.cell 4
   have lb := hbk.lt
   simp only [List.getElem?_toArray, List.getElem?_cons_zero, List.getElem?_cons_succ] at d0 d1 d2 d3 d4
   clear hmz hbz hblk hbk e0 e1 e2 e3 e4 hbl
   have hlook := run_lookup_m (keyEq_string Tryz.underlying9) Tryz.underlying179 (z := .int .i64 0) (by kernel_rfl) hmw x.name true
   have HMW := Lib.hid hmw
   have HBW := Lib.hid hbw
   clear hmw hbw HM HB
   cases hgt : getM (colN (l.map (·.name)) k).1 x.name with
   |
    some v =>
    rw [hgt] at hlook
    simp only [if_true, Option.map_some, Option.getD_some, Option.isSome_some] at hlook
    have HGT := Lib.hid hgt
    clear hgt
    go_wp2_with fail
    go_roundg (n - (k + 1))
    case measure => have := HG.out; omega
    case rel =>
     have he : colN (l.map (·.name)) (k + 1) = ((colN (l.map (·.name)) k).1, true) := by rw [colN_succ HX.out, cstep_yes HGT.out]
     exact ⟨k + 1, by omega, rfl, by go_num, by rw [he], by rw [he]; exact HMW.out, HBW.out⟩
   |
    none =>
    rw [hgt] at hlook
    simp only [if_true, Option.map_none, Option.getD_none, Option.isSome_none] at hlook
    have HGT := Lib.hid hgt
    clear hgt
    go_wp2_with fail
    refine (unitName_any x _).mono ?_
    rintro e w' ⟨rfl, rfl⟩
    have hmw2 : MapAt strV i64V (w1.alloc (.cells #[.string x.name, .string x.of_, .int .i64 x.factor, .int .i64 x.base, .int .i64 x.scale] 116)) w.heap.size (colN (l.map (·.name)) k).1 := HMW.out.grown (World.grownBy_alloc _ _ none) (by simp)
    have hbw2 : Below w.heap.size w (w1.alloc (.cells #[.string x.name, .string x.of_, .int .i64 x.factor, .int .i64 x.base, .int .i64 x.scale] 116)) := HBW.out.alloc HBW.out.size _
    generalize w1.alloc (.cells #[.string x.name, .string x.of_, .int .i64 x.factor, .int .i64 x.base, .int .i64 x.scale] 116) = w2 at hmw2 hbw2 ⊢
    obtain ⟨w3, hrun3, hm3, hg3⟩ := run_update_m (keyEq_string Tryz.underlying9) Tryz.underlying179 hmw2 x.name (k : Int)
    have HB3 := Lib.hid (hbw2.grown hg3 hbw2.size (fun r e => by cases e; exact Nat.le_refl _))
    clear hmw2 hbw2
    have HM3 := Lib.hid hm3
    clear hm3 hg3 hlook
    go_wp2_with fail
    go_roundg (n - (k + 1))
    case measure => have := HG.out; omega
    case rel =>
     have he : colN (l.map (·.name)) (k + 1) = (putM (colN (l.map (·.name)) k).1 x.name (k : Int), (colN (l.map (·.name)) k).2) := by rw [colN_succ HX.out, cstep_no HGT.out]
     exact ⟨k + 1, by omega, rfl, by go_num, by rw [he, HT.out], by rw [he]; exact HM3.out, HB3.out⟩
  ·
   have HE : Hid (colN (l.map (·.name)) k = col (l.map (·.name))) := by show _ = _; have := HN.out; rw [col, show k = (l.map (·.name)).length by first | omega | (simp; omega)]
   go_wp2_with fail
   go_ret2
   exact ⟨_, by rw [HE.out]; rfl, by rw [← HE.out]; exact HM.out, Nat.le_refl _, HB.out⟩
set_option maxHeartbeats 1000000 in
theorem collectSchema_any (A : Option Addr) (n c : Nat) (l : List QSchema) (w : World) (hs : SlR 6 qSchemaR w (.slice A n c) l) :
 Calls Tryz.prog 181 #[.slice A n c, .func (.func 182) #[] #[]] w (RetCol (l.map (·.name)) w) := by
 have hn2 : n ≤ 9223372036854775807 := by have := hs.le; omega
 have HN := Lib.hid hs.len
 have HS := Lib.hid hs
 clear hs
 have hmm := run_makeMapN
 go_enter Tryz.func181, Tryz.ntmps181
 go_wp2_with fail
 clear hmm
 have hm0 : MapAt strV i64V (w.alloc (.map #[] 0)) w.heap.size (colN (l.map (·.name)) 0).1 := MapAt.new _ _ w
 have hb0 : Below w.heap.size w (w.alloc (.map #[] 0)) := (Below.refl _ _).alloc (Nat.le_refl _) _
 have HM0 := Lib.hid hm0
 have HB0 := Lib.hid hb0
 clear hm0 hb0
 go_loopg [5, 15] n (fun g t i wr => ∃ k : Nat, k ≤ n ∧ g = n - k ∧ i = .int .i64 k ∧ t = .bool (colN (l.map (·.name)) k).2 ∧ MapAt strV i64V wr w.heap.size (colN (l.map (·.name)) k).1 ∧ Below w.heap.size w wr)
 case atStart => exact ⟨0, Nat.zero_le _, rfl, rfl, rfl, HM0.out, HB0.out⟩
 case round =>
  clear HM0 HB0
  obtain ⟨k, hk, hg, rfl, rfl, hm, hb⟩ := hrel
  have HG := Lib.hid hg
  have HM := Lib.hid hm
  have HB := Lib.hid hb
  clear hg hm hb
  by_cases hlt : k < n
  ·
   obtain ⟨b, off, x, A1, n1, c1, A2, n2, c2, rfl, hbl, hx, e0, e1, e2, e3, e4, e5, _, _⟩ := qSchema_at (HS.out.mono qSchemaR_mono HB.out) hlt
   have HX : Hid ((l.map (·.name))[k]? = some x.name) := by show _ = _; rw [List.getElem?_map, hx]; rfl
   clear hx
   obtain ⟨t, ht⟩ : ∃ t, (colN (l.map (·.name)) k).2 = t := ⟨_, rfl⟩
   have HT := Lib.hid ht
   rw [ht]
   clear ht
   go_wp2_with fail
   have hmz : MapAt strV i64V (wr.alloc (.cells #[.string x.name, .string x.by_, .int .i64 x.issuer, .int .i64 x.version, .slice A1 n1 c1, .slice A2 n2 c2] 52)) w.heap.size (colN (l.map (·.name)) k).1 := HM.out.grown (World.grownBy_alloc _ _ none) (by simp)
   have hbz : Below w.heap.size w (wr.alloc (.cells #[.string x.name, .string x.by_, .int .i64 x.issuer, .int .i64 x.version, .slice A1 n1 c1, .slice A2 n2 c2] 52)) := HB.out.alloc HB.out.size _
   have hblk : Blk (wr.alloc (.cells #[.string x.name, .string x.by_, .int .i64 x.issuer, .int .i64 x.version, .slice A1 n1 c1, .slice A2 n2 c2] 52)) wr.heap.size 52 #[.string x.name, .string x.by_, .int .i64 x.issuer, .int .i64 x.version, .slice A1 n1 c1, .slice A2 n2 c2] := Blk.new _ _ _
   generalize wr.alloc (.cells #[.string x.name, .string x.by_, .int .i64 x.issuer, .int .i64 x.version, .slice A1 n1 c1, .slice A2 n2 c2] 52) = wz at hmz hbz hblk ⊢
   refine (schemaName_any _ _ _ _ _ _ x _).mono ?_
   rintro e w' ⟨rfl, rfl⟩
   have hmw : MapAt strV i64V (wz.alloc (.cells #[.string x.name, .string x.by_, .int .i64 x.issuer, .int .i64 x.version, .slice A1 n1 c1, .slice A2 n2 c2] 52)) w.heap.size (colN (l.map (·.name)) k).1 := hmz.grown (World.grownBy_alloc _ _ none) (by simp)
   have hbw : Below w.heap.size w (wz.alloc (.cells #[.string x.name, .string x.by_, .int .i64 x.issuer, .int .i64 x.version, .slice A1 n1 c1, .slice A2 n2 c2] 52)) := hbz.alloc hbz.size _
   have hbk := hblk.alloc (.cells #[.string x.name, .string x.by_, .int .i64 x.issuer, .int .i64 x.version, .slice A1 n1 c1, .slice A2 n2 c2] 52)
   generalize wz.alloc (.cells #[.string x.name, .string x.by_, .int .i64 x.issuer, .int .i64 x.version, .slice A1 n1 c1, .slice A2 n2 c2] 52) = w1 at hmw hbw hbk ⊢
   have d0 := hbk.cell 0
   have d1 := hbk.cell 1
   have d2 := hbk.cell 2
   have d3 := hbk.cell 3
   have d4 := hbk.cell 4
   have d5 := hbk.cell 5
   have lb := hbk.lt
   simp only [List.getElem?_toArray, List.getElem?_cons_zero, List.getElem?_cons_succ] at d0 d1 d2 d3 d4 d5
   clear hmz hbz hblk hbk e0 e1 e2 e3 e4 e5 hbl
   have hlook := run_lookup_m (keyEq_string Tryz.underlying9) Tryz.underlying179 (z := .int .i64 0) (by kernel_rfl) hmw x.name true
   have HMW := Lib.hid hmw
   have HBW := Lib.hid hbw
   clear hmw hbw HM HB
   cases hgt : getM (colN (l.map (·.name)) k).1 x.name with
   |
    some v =>
    rw [hgt] at hlook
    simp only [if_true, Option.map_some, Option.getD_some, Option.isSome_some] at hlook
    have HGT := Lib.hid hgt
    clear hgt
    go_wp2_with fail
    go_roundg (n - (k + 1))
    case measure => have := HG.out; omega
    case rel =>
     have he : colN (l.map (·.name)) (k + 1) = ((colN (l.map (·.name)) k).1, true) := by rw [colN_succ HX.out, cstep_yes HGT.out]
     exact ⟨k + 1, by omega, rfl, by go_num, by rw [he], by rw [he]; exact HMW.out, HBW.out⟩
   |
    none =>
    rw [hgt] at hlook
    simp only [if_true, Option.map_none, Option.getD_none, Option.isSome_none] at hlook
    have HGT := Lib.hid hgt
    clear hgt
    go_wp2_with fail
    refine (schemaName_any _ _ _ _ _ _ x _).mono ?_
    rintro e w' ⟨rfl, rfl⟩
    have hmw2 : MapAt strV i64V (w1.alloc (.cells #[.string x.name, .string x.by_, .int .i64 x.issuer, .int .i64 x.version, .slice A1 n1 c1, .slice A2 n2 c2] 52)) w.heap.size (colN (l.map (·.name)) k).1 := HMW.out.grown (World.grownBy_alloc _ _ none) (by simp)
    have hbw2 : Below w.heap.size w (w1.alloc (.cells #[.string x.name, .string x.by_, .int .i64 x.issuer, .int .i64 x.version, .slice A1 n1 c1, .slice A2 n2 c2] 52)) := HBW.out.alloc HBW.out.size _
    generalize w1.alloc (.cells #[.string x.name, .string x.by_, .int .i64 x.issuer, .int .i64 x.version, .slice A1 n1 c1, .slice A2 n2 c2] 52) = w2 at hmw2 hbw2 ⊢
    obtain ⟨w3, hrun3, hm3, hg3⟩ := run_update_m (keyEq_string Tryz.underlying9) Tryz.underlying179 hmw2 x.name (k : Int)
    have HB3 := Lib.hid (hbw2.grown hg3 hbw2.size (fun r e => by cases e; exact Nat.le_refl _))
    clear hmw2 hbw2
    have HM3 := Lib.hid hm3
    clear hm3 hg3 hlook
    go_wp2_with fail
    go_roundg (n - (k + 1))
    case measure => have := HG.out; omega
    case rel =>
     have he : colN (l.map (·.name)) (k + 1) = (putM (colN (l.map (·.name)) k).1 x.name (k : Int), (colN (l.map (·.name)) k).2) := by rw [colN_succ HX.out, cstep_no HGT.out]
     exact ⟨k + 1, by omega, rfl, by go_num, by rw [he, HT.out], by rw [he]; exact HM3.out, HB3.out⟩
  ·
   have HE : Hid (colN (l.map (·.name)) k = col (l.map (·.name))) := by show _ = _; have := HN.out; rw [col, show k = (l.map (·.name)).length by first | omega | (simp; omega)]
   go_wp2_with fail
   go_ret2
   exact ⟨_, by rw [HE.out]; rfl, by rw [← HE.out]; exact HM.out, Nat.le_refl _, HB.out⟩
set_option maxHeartbeats 1000000 in
theorem collectPurpose_any (A : Option Addr) (n c : Nat) (l : List QPurpose) (w : World) (hs : SlR 3 qPurposeR w (.slice A n c) l) :
 Calls Tryz.prog 183 #[.slice A n c, .func (.func 184) #[] #[]] w (RetCol (l.map (·.name)) w) := by
 have hn2 : n ≤ 9223372036854775807 := by have := hs.le; omega
 have HN := Lib.hid hs.len
 have HS := Lib.hid hs
 clear hs
 have hmm := run_makeMapN
 go_enter Tryz.func183, Tryz.ntmps183
 go_wp2_with fail
 clear hmm
 have hm0 : MapAt strV i64V (w.alloc (.map #[] 0)) w.heap.size (colN (l.map (·.name)) 0).1 := MapAt.new _ _ w
 have hb0 : Below w.heap.size w (w.alloc (.map #[] 0)) := (Below.refl _ _).alloc (Nat.le_refl _) _
 have HM0 := Lib.hid hm0
 have HB0 := Lib.hid hb0
 clear hm0 hb0
 go_loopg [5, 15] n (fun g t i wr => ∃ k : Nat, k ≤ n ∧ g = n - k ∧ i = .int .i64 k ∧ t = .bool (colN (l.map (·.name)) k).2 ∧ MapAt strV i64V wr w.heap.size (colN (l.map (·.name)) k).1 ∧ Below w.heap.size w wr)
 case atStart => exact ⟨0, Nat.zero_le _, rfl, rfl, rfl, HM0.out, HB0.out⟩
 case round =>
  clear HM0 HB0
  obtain ⟨k, hk, hg, rfl, rfl, hm, hb⟩ := hrel
  have HG := Lib.hid hg
  have HM := Lib.hid hm
  have HB := Lib.hid hb
  clear hg hm hb
  by_cases hlt : k < n
  ·
   obtain ⟨b, off, x, A1, n1, c1, rfl, hbl, hx, e0, e1, e2, _⟩ := qPurpose_at (HS.out.mono qPurposeR_mono HB.out) hlt
   have HX : Hid ((l.map (·.name))[k]? = some x.name) := by show _ = _; rw [List.getElem?_map, hx]; rfl
   clear hx
   obtain ⟨t, ht⟩ : ∃ t, (colN (l.map (·.name)) k).2 = t := ⟨_, rfl⟩
   have HT := Lib.hid ht
   rw [ht]
   clear ht
   go_wp2_with fail
   have hmz : MapAt strV i64V (wr.alloc (.cells #[.string x.name, .slice A1 n1 c1, .int .i64 x.most] 89)) w.heap.size (colN (l.map (·.name)) k).1 := HM.out.grown (World.grownBy_alloc _ _ none) (by simp)
   have hbz : Below w.heap.size w (wr.alloc (.cells #[.string x.name, .slice A1 n1 c1, .int .i64 x.most] 89)) := HB.out.alloc HB.out.size _
   have hblk : Blk (wr.alloc (.cells #[.string x.name, .slice A1 n1 c1, .int .i64 x.most] 89)) wr.heap.size 89 #[.string x.name, .slice A1 n1 c1, .int .i64 x.most] := Blk.new _ _ _
   generalize wr.alloc (.cells #[.string x.name, .slice A1 n1 c1, .int .i64 x.most] 89) = wz at hmz hbz hblk ⊢
   refine (purposeName_any _ _ _ x _).mono ?_
   rintro e w' ⟨rfl, rfl⟩
   have hmw : MapAt strV i64V (wz.alloc (.cells #[.string x.name, .slice A1 n1 c1, .int .i64 x.most] 89)) w.heap.size (colN (l.map (·.name)) k).1 := hmz.grown (World.grownBy_alloc _ _ none) (by simp)
   have hbw : Below w.heap.size w (wz.alloc (.cells #[.string x.name, .slice A1 n1 c1, .int .i64 x.most] 89)) := hbz.alloc hbz.size _
   have hbk := hblk.alloc (.cells #[.string x.name, .slice A1 n1 c1, .int .i64 x.most] 89)
   generalize wz.alloc (.cells #[.string x.name, .slice A1 n1 c1, .int .i64 x.most] 89) = w1 at hmw hbw hbk ⊢
   have d0 := hbk.cell 0
   have d1 := hbk.cell 1
   have d2 := hbk.cell 2
   have lb := hbk.lt
   simp only [List.getElem?_toArray, List.getElem?_cons_zero, List.getElem?_cons_succ] at d0 d1 d2
   clear hmz hbz hblk hbk e0 e1 e2 hbl
   have hlook := run_lookup_m (keyEq_string Tryz.underlying9) Tryz.underlying179 (z := .int .i64 0) (by kernel_rfl) hmw x.name true
   have HMW := Lib.hid hmw
   have HBW := Lib.hid hbw
   clear hmw hbw HM HB
   cases hgt : getM (colN (l.map (·.name)) k).1 x.name with
   |
    some v =>
    rw [hgt] at hlook
    simp only [if_true, Option.map_some, Option.getD_some, Option.isSome_some] at hlook
    have HGT := Lib.hid hgt
    clear hgt
    go_wp2_with fail
    go_roundg (n - (k + 1))
    case measure => have := HG.out; omega
    case rel =>
     have he : colN (l.map (·.name)) (k + 1) = ((colN (l.map (·.name)) k).1, true) := by rw [colN_succ HX.out, cstep_yes HGT.out]
     exact ⟨k + 1, by omega, rfl, by go_num, by rw [he], by rw [he]; exact HMW.out, HBW.out⟩
   |
    none =>
    rw [hgt] at hlook
    simp only [if_true, Option.map_none, Option.getD_none, Option.isSome_none] at hlook
    have HGT := Lib.hid hgt
    clear hgt
    go_wp2_with fail
    refine (purposeName_any _ _ _ x _).mono ?_
    rintro e w' ⟨rfl, rfl⟩
    have hmw2 : MapAt strV i64V (w1.alloc (.cells #[.string x.name, .slice A1 n1 c1, .int .i64 x.most] 89)) w.heap.size (colN (l.map (·.name)) k).1 := HMW.out.grown (World.grownBy_alloc _ _ none) (by simp)
    have hbw2 : Below w.heap.size w (w1.alloc (.cells #[.string x.name, .slice A1 n1 c1, .int .i64 x.most] 89)) := HBW.out.alloc HBW.out.size _
    generalize w1.alloc (.cells #[.string x.name, .slice A1 n1 c1, .int .i64 x.most] 89) = w2 at hmw2 hbw2 ⊢
    obtain ⟨w3, hrun3, hm3, hg3⟩ := run_update_m (keyEq_string Tryz.underlying9) Tryz.underlying179 hmw2 x.name (k : Int)
    have HB3 := Lib.hid (hbw2.grown hg3 hbw2.size (fun r e => by cases e; exact Nat.le_refl _))
    clear hmw2 hbw2
    have HM3 := Lib.hid hm3
    clear hm3 hg3 hlook
    go_wp2_with fail
    go_roundg (n - (k + 1))
    case measure => have := HG.out; omega
    case rel =>
     have he : colN (l.map (·.name)) (k + 1) = (putM (colN (l.map (·.name)) k).1 x.name (k : Int), (colN (l.map (·.name)) k).2) := by rw [colN_succ HX.out, cstep_no HGT.out]
     exact ⟨k + 1, by omega, rfl, by go_num, by rw [he, HT.out], by rw [he]; exact HM3.out, HB3.out⟩
  ·
   have HE : Hid (colN (l.map (·.name)) k = col (l.map (·.name))) := by show _ = _; have := HN.out; rw [col, show k = (l.map (·.name)).length by first | omega | (simp; omega)]
   go_wp2_with fail
   go_ret2
   exact ⟨_, by rw [HE.out]; rfl, by rw [← HE.out]; exact HM.out, Nat.le_refl _, HB.out⟩
set_option maxHeartbeats 1000000 in
theorem collectField_any (A : Option Addr) (n c : Nat) (l : List QField) (w : World) (hs : SlR 11 qFieldR w (.slice A n c) l) :
 Calls Tryz.prog 185 #[.slice A n c, .func (.func 186) #[] #[]] w (RetCol (l.map (·.name)) w) := by
 have hn2 : n ≤ 9223372036854775807 := by have := hs.le; omega
 have HN := Lib.hid hs.len
 have HS := Lib.hid hs
 clear hs
 have hmm := run_makeMapN
 go_enter Tryz.func185, Tryz.ntmps185
 go_wp2_with fail
 clear hmm
 have hm0 : MapAt strV i64V (w.alloc (.map #[] 0)) w.heap.size (colN (l.map (·.name)) 0).1 := MapAt.new _ _ w
 have hb0 : Below w.heap.size w (w.alloc (.map #[] 0)) := (Below.refl _ _).alloc (Nat.le_refl _) _
 have HM0 := Lib.hid hm0
 have HB0 := Lib.hid hb0
 clear hm0 hb0
 go_loopg [5, 15] n (fun g t i wr => ∃ k : Nat, k ≤ n ∧ g = n - k ∧ i = .int .i64 k ∧ t = .bool (colN (l.map (·.name)) k).2 ∧ MapAt strV i64V wr w.heap.size (colN (l.map (·.name)) k).1 ∧ Below w.heap.size w wr)
 case atStart => exact ⟨0, Nat.zero_le _, rfl, rfl, rfl, HM0.out, HB0.out⟩
 case round =>
  clear HM0 HB0
  obtain ⟨k, hk, hg, rfl, rfl, hm, hb⟩ := hrel
  have HG := Lib.hid hg
  have HM := Lib.hid hm
  have HB := Lib.hid hb
  clear hg hm hb
  by_cases hlt : k < n
  ·
   obtain ⟨b, off, x, A1, n1, c1, rfl, hbl, hx, e0, e1, e2, e3, e4, e5, e6, e7, e8, e9, e10, _⟩ := qField_at (HS.out.mono qFieldR_mono HB.out) hlt
   have HX : Hid ((l.map (·.name))[k]? = some x.name) := by show _ = _; rw [List.getElem?_map, hx]; rfl
   clear hx
   obtain ⟨t, ht⟩ : ∃ t, (colN (l.map (·.name)) k).2 = t := ⟨_, rfl⟩
   have HT := Lib.hid ht
   rw [ht]
   clear ht
   go_wp2_with fail
   have hmz : MapAt strV i64V (wr.alloc (.cells #[.string x.name, .int .i64 x.type.kind, .int .i64 x.type.lo, .int .i64 x.type.hi, .string x.type.of_, .int .i64 x.type.unit, .slice A1 n1 c1, .int .i64 x.w0, .int .i64 x.w1, .int .i64 x.w2, .int .i64 x.w3] 58)) w.heap.size (colN (l.map (·.name)) k).1 := HM.out.grown (World.grownBy_alloc _ _ none) (by simp)
   have hbz : Below w.heap.size w (wr.alloc (.cells #[.string x.name, .int .i64 x.type.kind, .int .i64 x.type.lo, .int .i64 x.type.hi, .string x.type.of_, .int .i64 x.type.unit, .slice A1 n1 c1, .int .i64 x.w0, .int .i64 x.w1, .int .i64 x.w2, .int .i64 x.w3] 58)) := HB.out.alloc HB.out.size _
   have hblk : Blk (wr.alloc (.cells #[.string x.name, .int .i64 x.type.kind, .int .i64 x.type.lo, .int .i64 x.type.hi, .string x.type.of_, .int .i64 x.type.unit, .slice A1 n1 c1, .int .i64 x.w0, .int .i64 x.w1, .int .i64 x.w2, .int .i64 x.w3] 58)) wr.heap.size 58 #[.string x.name, .int .i64 x.type.kind, .int .i64 x.type.lo, .int .i64 x.type.hi, .string x.type.of_, .int .i64 x.type.unit, .slice A1 n1 c1, .int .i64 x.w0, .int .i64 x.w1, .int .i64 x.w2, .int .i64 x.w3] := Blk.new _ _ _
   generalize wr.alloc (.cells #[.string x.name, .int .i64 x.type.kind, .int .i64 x.type.lo, .int .i64 x.type.hi, .string x.type.of_, .int .i64 x.type.unit, .slice A1 n1 c1, .int .i64 x.w0, .int .i64 x.w1, .int .i64 x.w2, .int .i64 x.w3] 58) = wz at hmz hbz hblk ⊢
   refine (fieldName_any _ _ _ x _).mono ?_
   rintro e w' ⟨rfl, rfl⟩
   have hmw : MapAt strV i64V (wz.alloc (.cells #[.string x.name, .int .i64 x.type.kind, .int .i64 x.type.lo, .int .i64 x.type.hi, .string x.type.of_, .int .i64 x.type.unit, .slice A1 n1 c1, .int .i64 x.w0, .int .i64 x.w1, .int .i64 x.w2, .int .i64 x.w3] 58)) w.heap.size (colN (l.map (·.name)) k).1 := hmz.grown (World.grownBy_alloc _ _ none) (by simp)
   have hbw : Below w.heap.size w (wz.alloc (.cells #[.string x.name, .int .i64 x.type.kind, .int .i64 x.type.lo, .int .i64 x.type.hi, .string x.type.of_, .int .i64 x.type.unit, .slice A1 n1 c1, .int .i64 x.w0, .int .i64 x.w1, .int .i64 x.w2, .int .i64 x.w3] 58)) := hbz.alloc hbz.size _
   have hbk := hblk.alloc (.cells #[.string x.name, .int .i64 x.type.kind, .int .i64 x.type.lo, .int .i64 x.type.hi, .string x.type.of_, .int .i64 x.type.unit, .slice A1 n1 c1, .int .i64 x.w0, .int .i64 x.w1, .int .i64 x.w2, .int .i64 x.w3] 58)
   generalize wz.alloc (.cells #[.string x.name, .int .i64 x.type.kind, .int .i64 x.type.lo, .int .i64 x.type.hi, .string x.type.of_, .int .i64 x.type.unit, .slice A1 n1 c1, .int .i64 x.w0, .int .i64 x.w1, .int .i64 x.w2, .int .i64 x.w3] 58) = w1 at hmw hbw hbk ⊢
   have d0 := hbk.cell 0
   have d1 := hbk.cell 1
   have d2 := hbk.cell 2
   have d3 := hbk.cell 3
   have d4 := hbk.cell 4
   have d5 := hbk.cell 5
   have d6 := hbk.cell 6
   have d7 := hbk.cell 7
   have d8 := hbk.cell 8
   have d9 := hbk.cell 9
   have d10 := hbk.cell 10
   have lb := hbk.lt
   simp only [List.getElem?_toArray, List.getElem?_cons_zero, List.getElem?_cons_succ] at d0 d1 d2 d3 d4 d5 d6 d7 d8 d9 d10
   clear hmz hbz hblk hbk e0 e1 e2 e3 e4 e5 e6 e7 e8 e9 e10 hbl
   have hlook := run_lookup_m (keyEq_string Tryz.underlying9) Tryz.underlying179 (z := .int .i64 0) (by kernel_rfl) hmw x.name true
   have HMW := Lib.hid hmw
   have HBW := Lib.hid hbw
   clear hmw hbw HM HB
   cases hgt : getM (colN (l.map (·.name)) k).1 x.name with
   |
    some v =>
    rw [hgt] at hlook
    simp only [if_true, Option.map_some, Option.getD_some, Option.isSome_some] at hlook
    have HGT := Lib.hid hgt
    clear hgt
    go_wp2_with fail
    go_roundg (n - (k + 1))
    case measure => have := HG.out; omega
    case rel =>
     have he : colN (l.map (·.name)) (k + 1) = ((colN (l.map (·.name)) k).1, true) := by rw [colN_succ HX.out, cstep_yes HGT.out]
     exact ⟨k + 1, by omega, rfl, by go_num, by rw [he], by rw [he]; exact HMW.out, HBW.out⟩
   |
    none =>
    rw [hgt] at hlook
    simp only [if_true, Option.map_none, Option.getD_none, Option.isSome_none] at hlook
    have HGT := Lib.hid hgt
    clear hgt
    go_wp2_with fail
    refine (fieldName_any _ _ _ x _).mono ?_
    rintro e w' ⟨rfl, rfl⟩
    have hmw2 : MapAt strV i64V (w1.alloc (.cells #[.string x.name, .int .i64 x.type.kind, .int .i64 x.type.lo, .int .i64 x.type.hi, .string x.type.of_, .int .i64 x.type.unit, .slice A1 n1 c1, .int .i64 x.w0, .int .i64 x.w1, .int .i64 x.w2, .int .i64 x.w3] 58)) w.heap.size (colN (l.map (·.name)) k).1 := HMW.out.grown (World.grownBy_alloc _ _ none) (by simp)
    have hbw2 : Below w.heap.size w (w1.alloc (.cells #[.string x.name, .int .i64 x.type.kind, .int .i64 x.type.lo, .int .i64 x.type.hi, .string x.type.of_, .int .i64 x.type.unit, .slice A1 n1 c1, .int .i64 x.w0, .int .i64 x.w1, .int .i64 x.w2, .int .i64 x.w3] 58)) := HBW.out.alloc HBW.out.size _
    generalize w1.alloc (.cells #[.string x.name, .int .i64 x.type.kind, .int .i64 x.type.lo, .int .i64 x.type.hi, .string x.type.of_, .int .i64 x.type.unit, .slice A1 n1 c1, .int .i64 x.w0, .int .i64 x.w1, .int .i64 x.w2, .int .i64 x.w3] 58) = w2 at hmw2 hbw2 ⊢
    obtain ⟨w3, hrun3, hm3, hg3⟩ := run_update_m (keyEq_string Tryz.underlying9) Tryz.underlying179 hmw2 x.name (k : Int)
    have HB3 := Lib.hid (hbw2.grown hg3 hbw2.size (fun r e => by cases e; exact Nat.le_refl _))
    clear hmw2 hbw2
    have HM3 := Lib.hid hm3
    clear hm3 hg3 hlook
    go_wp2_with fail
    go_roundg (n - (k + 1))
    case measure => have := HG.out; omega
    case rel =>
     have he : colN (l.map (·.name)) (k + 1) = (putM (colN (l.map (·.name)) k).1 x.name (k : Int), (colN (l.map (·.name)) k).2) := by rw [colN_succ HX.out, cstep_no HGT.out]
     exact ⟨k + 1, by omega, rfl, by go_num, by rw [he, HT.out], by rw [he]; exact HM3.out, HB3.out⟩
  ·
   have HE : Hid (colN (l.map (·.name)) k = col (l.map (·.name))) := by show _ = _; have := HN.out; rw [col, show k = (l.map (·.name)).length by first | omega | (simp; omega)]
   go_wp2_with fail
   go_ret2
   exact ⟨_, by rw [HE.out]; rfl, by rw [← HE.out]; exact HM.out, Nat.le_refl _, HB.out⟩
set_option maxHeartbeats 1000000 in
theorem collectFrom_any (A : Option Addr) (n c : Nat) (l : List QFrom) (w : World) (hs : SlR 8 qFromR w (.slice A n c) l) :
 Calls Tryz.prog 187 #[.slice A n c, .func (.func 188) #[] #[]] w (RetCol (l.map (·.name)) w) := by
 have hn2 : n ≤ 9223372036854775807 := by have := hs.le; omega
 have HN := Lib.hid hs.len
 have HS := Lib.hid hs
 clear hs
 have hmm := run_makeMapN
 go_enter Tryz.func187, Tryz.ntmps187
 go_wp2_with fail
 clear hmm
 have hm0 : MapAt strV i64V (w.alloc (.map #[] 0)) w.heap.size (colN (l.map (·.name)) 0).1 := MapAt.new _ _ w
 have hb0 : Below w.heap.size w (w.alloc (.map #[] 0)) := (Below.refl _ _).alloc (Nat.le_refl _) _
 have HM0 := Lib.hid hm0
 have HB0 := Lib.hid hb0
 clear hm0 hb0
 go_loopg [5, 15] n (fun g t i wr => ∃ k : Nat, k ≤ n ∧ g = n - k ∧ i = .int .i64 k ∧ t = .bool (colN (l.map (·.name)) k).2 ∧ MapAt strV i64V wr w.heap.size (colN (l.map (·.name)) k).1 ∧ Below w.heap.size w wr)
 case atStart => exact ⟨0, Nat.zero_le _, rfl, rfl, rfl, HM0.out, HB0.out⟩
 case round =>
  clear HM0 HB0
  obtain ⟨k, hk, hg, rfl, rfl, hm, hb⟩ := hrel
  have HG := Lib.hid hg
  have HM := Lib.hid hm
  have HB := Lib.hid hb
  clear hg hm hb
  by_cases hlt : k < n
  ·
   obtain ⟨b, off, x, rfl, hbl, hx, e0, e1, e2, e3, e4, e5, e6, e7⟩ := qFrom_at (HS.out.mono qFromR_mono HB.out) hlt
   have HX : Hid ((l.map (·.name))[k]? = some x.name) := by show _ = _; rw [List.getElem?_map, hx]; rfl
   clear hx
   obtain ⟨t, ht⟩ : ∃ t, (colN (l.map (·.name)) k).2 = t := ⟨_, rfl⟩
   have HT := Lib.hid ht
   rw [ht]
   clear ht
   go_wp2_with fail
   have hmz : MapAt strV i64V (wr.alloc (.cells #[.string x.name, .string x.kind, .int .i64 x.schema, .string x.of_.name, .string x.of_.path, .int .i64 x.of_.var, .int .i64 x.of_.field, .int .i64 x.of_.n] 205)) w.heap.size (colN (l.map (·.name)) k).1 := HM.out.grown (World.grownBy_alloc _ _ none) (by simp)
   have hbz : Below w.heap.size w (wr.alloc (.cells #[.string x.name, .string x.kind, .int .i64 x.schema, .string x.of_.name, .string x.of_.path, .int .i64 x.of_.var, .int .i64 x.of_.field, .int .i64 x.of_.n] 205)) := HB.out.alloc HB.out.size _
   have hblk : Blk (wr.alloc (.cells #[.string x.name, .string x.kind, .int .i64 x.schema, .string x.of_.name, .string x.of_.path, .int .i64 x.of_.var, .int .i64 x.of_.field, .int .i64 x.of_.n] 205)) wr.heap.size 205 #[.string x.name, .string x.kind, .int .i64 x.schema, .string x.of_.name, .string x.of_.path, .int .i64 x.of_.var, .int .i64 x.of_.field, .int .i64 x.of_.n] := Blk.new _ _ _
   generalize wr.alloc (.cells #[.string x.name, .string x.kind, .int .i64 x.schema, .string x.of_.name, .string x.of_.path, .int .i64 x.of_.var, .int .i64 x.of_.field, .int .i64 x.of_.n] 205) = wz at hmz hbz hblk ⊢
   refine (fromName_any x _).mono ?_
   rintro e w' ⟨rfl, rfl⟩
   have hmw : MapAt strV i64V (wz.alloc (.cells #[.string x.name, .string x.kind, .int .i64 x.schema, .string x.of_.name, .string x.of_.path, .int .i64 x.of_.var, .int .i64 x.of_.field, .int .i64 x.of_.n] 205)) w.heap.size (colN (l.map (·.name)) k).1 := hmz.grown (World.grownBy_alloc _ _ none) (by simp)
   have hbw : Below w.heap.size w (wz.alloc (.cells #[.string x.name, .string x.kind, .int .i64 x.schema, .string x.of_.name, .string x.of_.path, .int .i64 x.of_.var, .int .i64 x.of_.field, .int .i64 x.of_.n] 205)) := hbz.alloc hbz.size _
   have hbk := hblk.alloc (.cells #[.string x.name, .string x.kind, .int .i64 x.schema, .string x.of_.name, .string x.of_.path, .int .i64 x.of_.var, .int .i64 x.of_.field, .int .i64 x.of_.n] 205)
   generalize wz.alloc (.cells #[.string x.name, .string x.kind, .int .i64 x.schema, .string x.of_.name, .string x.of_.path, .int .i64 x.of_.var, .int .i64 x.of_.field, .int .i64 x.of_.n] 205) = w1 at hmw hbw hbk ⊢
   have d0 := hbk.cell 0
   have d1 := hbk.cell 1
   have d2 := hbk.cell 2
   have d3 := hbk.cell 3
   have d4 := hbk.cell 4
   have d5 := hbk.cell 5
   have d6 := hbk.cell 6
   have d7 := hbk.cell 7
   have lb := hbk.lt
   simp only [List.getElem?_toArray, List.getElem?_cons_zero, List.getElem?_cons_succ] at d0 d1 d2 d3 d4 d5 d6 d7
   clear hmz hbz hblk hbk e0 e1 e2 e3 e4 e5 e6 e7 hbl
   have hlook := run_lookup_m (keyEq_string Tryz.underlying9) Tryz.underlying179 (z := .int .i64 0) (by kernel_rfl) hmw x.name true
   have HMW := Lib.hid hmw
   have HBW := Lib.hid hbw
   clear hmw hbw HM HB
   cases hgt : getM (colN (l.map (·.name)) k).1 x.name with
   |
    some v =>
    rw [hgt] at hlook
    simp only [if_true, Option.map_some, Option.getD_some, Option.isSome_some] at hlook
    have HGT := Lib.hid hgt
    clear hgt
    go_wp2_with fail
    go_roundg (n - (k + 1))
    case measure => have := HG.out; omega
    case rel =>
     have he : colN (l.map (·.name)) (k + 1) = ((colN (l.map (·.name)) k).1, true) := by rw [colN_succ HX.out, cstep_yes HGT.out]
     exact ⟨k + 1, by omega, rfl, by go_num, by rw [he], by rw [he]; exact HMW.out, HBW.out⟩
   |
    none =>
    rw [hgt] at hlook
    simp only [if_true, Option.map_none, Option.getD_none, Option.isSome_none] at hlook
    have HGT := Lib.hid hgt
    clear hgt
    go_wp2_with fail
    refine (fromName_any x _).mono ?_
    rintro e w' ⟨rfl, rfl⟩
    have hmw2 : MapAt strV i64V (w1.alloc (.cells #[.string x.name, .string x.kind, .int .i64 x.schema, .string x.of_.name, .string x.of_.path, .int .i64 x.of_.var, .int .i64 x.of_.field, .int .i64 x.of_.n] 205)) w.heap.size (colN (l.map (·.name)) k).1 := HMW.out.grown (World.grownBy_alloc _ _ none) (by simp)
    have hbw2 : Below w.heap.size w (w1.alloc (.cells #[.string x.name, .string x.kind, .int .i64 x.schema, .string x.of_.name, .string x.of_.path, .int .i64 x.of_.var, .int .i64 x.of_.field, .int .i64 x.of_.n] 205)) := HBW.out.alloc HBW.out.size _
    generalize w1.alloc (.cells #[.string x.name, .string x.kind, .int .i64 x.schema, .string x.of_.name, .string x.of_.path, .int .i64 x.of_.var, .int .i64 x.of_.field, .int .i64 x.of_.n] 205) = w2 at hmw2 hbw2 ⊢
    obtain ⟨w3, hrun3, hm3, hg3⟩ := run_update_m (keyEq_string Tryz.underlying9) Tryz.underlying179 hmw2 x.name (k : Int)
    have HB3 := Lib.hid (hbw2.grown hg3 hbw2.size (fun r e => by cases e; exact Nat.le_refl _))
    clear hmw2 hbw2
    have HM3 := Lib.hid hm3
    clear hm3 hg3 hlook
    go_wp2_with fail
    go_roundg (n - (k + 1))
    case measure => have := HG.out; omega
    case rel =>
     have he : colN (l.map (·.name)) (k + 1) = (putM (colN (l.map (·.name)) k).1 x.name (k : Int), (colN (l.map (·.name)) k).2) := by rw [colN_succ HX.out, cstep_no HGT.out]
     exact ⟨k + 1, by omega, rfl, by go_num, by rw [he, HT.out], by rw [he]; exact HM3.out, HB3.out⟩
  ·
   have HE : Hid (colN (l.map (·.name)) k = col (l.map (·.name))) := by show _ = _; have := HN.out; rw [col, show k = (l.map (·.name)).length by first | omega | (simp; omega)]
   go_wp2_with fail
   go_ret2
   exact ⟨_, by rw [HE.out]; rfl, by rw [← HE.out]; exact HM.out, Nat.le_refl _, HB.out⟩
end Go.Proofs.YtkgmonplcdnnbaaGreat
