/- Steps of regions that draw their order. For any program. -/
import Derived.Test.YtkgmonplcdnnbaaGreatPm22
import Derived.Test.YtkgmonplcdnnbaaGreatPm00
import Derived.StillTailTactics
import Derived.Deep.RegionLaw
import Derived.Maps.AppendAt
namespace Go.Proofs.YtkgmonplcdnnbaaGreat
open Go.RowKit
def fieldStep (s : QSource) (f : QField) : Option QField :=
 if f.type.kind = 1 ∧ f.type.of_ ≠ noStr then (idx (unitNames s) f.type.of_).map (fun n => { f with type := { f.type with unit := (n : Int) } })
 else some { f with type := { f.type with unit := -1 } }
def idxI (l : List ByteArray) (x : ByteArray) : Option Int := (idx l x).map (fun n : Nat => (n : Int))
def depStep (x : QSchema) (d : QDep) : Option QDep :=
 match allP (fun _ => idxI (fieldNames x)) d.names, idxI (fieldNames x) d.name with
 | some l, some n => some { d with src := l, dst := n }
 | _, _ => none
def schemaP (s : QSource) (x : QSchema) : Option QSchema :=
 match idx s.issuers x.by_ with
 | none => none
 |
  some a => match allP (fun _ => fieldStep s) x.fields with
  | none => none
  |
   some fs => match allP (fun _ => depStep x) x.deps with
   | none => none
   | some ds => some { x with issuer := (a : Int), fields := fs, deps := ds }
theorem field_put {w : World} {cs : List Value} {l : List QField} {k : Nat} {u : QField} (h : CellsR 11 qFieldR w cs l) (hk : l[k]? = some u) (a : Int) : CellsR 11 qFieldR w (cs.set (k * 11 + 5) (.int .i64 a)) (l.set k { u with type := { u.type with unit := a } }) :=
 h.put (by omega) (List.getElem?_eq_some_iff.1 hk).1 (by
  obtain ⟨A1, n1, c1, he, hs⟩ := h.chunk hk
  rw [show chunk cs 11 k = _ from he]; exact ⟨A1, n1, c1, rfl, hs⟩)
theorem dep_put2 {w : World} {cs : List Value} {l : List QDep} {k : Nat} {u : QDep} (h : CellsR 4 qDepR w cs l) (hk : l[k]? = some u) {v : Value} {s : List Int} {A : Option Addr} {n c : Nat} (hv : v = .slice A n c) (hs : SlB 1 8 iR w v s) : CellsR 4 qDepR w (cs.set (k * 4 + 2) v) (l.set k { u with src := s }) :=
 h.put (by omega) (List.getElem?_eq_some_iff.1 hk).1 (by
  obtain ⟨A1, n1, c1, A2, n2, c2, he, h1, h2⟩ := h.chunk hk
  subst hv
  rw [show chunk cs 4 k = _ from he]; exact ⟨A1, n1, c1, _, _, _, rfl, h1, hs⟩)
theorem dep_put3 {w : World} {cs : List Value} {l : List QDep} {k : Nat} {u : QDep} (h : CellsR 4 qDepR w cs l) (hk : l[k]? = some u) (a : Int) : CellsR 4 qDepR w (cs.set (k * 4 + 3) (.int .i64 a)) (l.set k { u with dst := a }) :=
 h.put (by omega) (List.getElem?_eq_some_iff.1 hk).1 (by
  obtain ⟨A1, n1, c1, A2, n2, c2, he, h1, h2⟩ := h.chunk hk
  rw [show chunk cs 4 k = _ from he]; exact ⟨A1, n1, c1, A2, n2, c2, rfl, h1, h2⟩)
def hideV (v : Value) (w : World) : World := match v.ownBlock with
 | some H => mask H (H + 1) w
 | none => w
theorem hideV_below {v : Value} {w w' : World} (hg : w.grownBy w' v.ownBlock) : Below (hideV v w).heap.size (hideV v w) (hideV v w') := by
 unfold hideV
 cases hv : v.ownBlock with
 | none => rw [hv] at hg; exact ⟨hg.os, hg.tape, hg.output, hg.size, fun k hk => hg.block k hk (by simp)⟩
 | some H => rw [hv] at hg; exact mask_below hg (Nat.le_refl _) (Nat.lt_succ_self _)
theorem hideV_old {v : Value} {w0 w : World} (h : Below w0.heap.size w0 w) (hv : ∀ H, v.ownBlock = some H → w0.heap.size ≤ H) : Below w0.heap.size w0 (hideV v w) := by
 unfold hideV
 cases hb : v.ownBlock with
 | none => exact h
 | some H => exact mask_old w0 h (hv H hb)
theorem hideV_own {u v : Value} {w : World} {base : Nat} {e : TypeId} {sz n : Nat} {cs : List Value} (h : w.ownsRow base e sz v n cs) (hb : ∀ H, u.ownBlock = some H → H < base) : (hideV u w).ownsRow base e sz v n cs := by
 unfold hideV
 cases hu : u.ownBlock with
 | none => exact h
 | some H => exact mask_own h (hb H hu)
theorem hideV_unm {α : Type} {sz : Nat} {R : World → List Value → α → Prop} (hR : Unm R) {v : Value} {w : World} {cs : List Value} {l : List α} (h : CellsR sz R (hideV v w) cs l) : CellsR sz R w cs l := by
 unfold hideV at h
 cases hu : v.ownBlock with
 | none => rw [hu] at h; exact h
 | some H => rw [hu] at h; exact h.unm hR
theorem hideV_sl {α : Type} {sz : Nat} {R : World → List Value → α → Prop} (hR : Unm R) {v u : Value} {w : World} {l : List α} (h : SlR sz R (hideV v w) u l) : SlR sz R w u l := by
 unfold hideV at h
 cases hu : v.ownBlock with
 | none => rw [hu] at h; exact h
 | some H => rw [hu] at h; exact h.unm hR
theorem own_apart {w : World} {base : Nat} {e : TypeId} {sz : Nat} {v : Value} {n : Nat} {cs : List Value} (h : w.ownsRow base e sz v n cs) {H : Nat} (hH : H < base) : v.ownBlock ≠ some H := fun e => by have := h.lt _ e; omega
theorem grown_mid {a b c : World} {G H : Nat} (h : a.grownBy b (some G)) (h' : b.grownBy c (some H)) (hH : a.heap.size ≤ H) : a.grownBy c (some G) :=
 ⟨h'.os.trans h.os, h'.tape.trans h.tape, h'.output.trans h.output, Nat.le_trans h.size h'.size, fun k hk hne => (h'.block k (Nat.lt_of_lt_of_le hk h.size) (fun e => by injection e; omega)).trans (h.block k hk hne)⟩
theorem grown_back {w wa w' : World} {G : Nat} (h : w.grownBy wa (some G)) (h' : w.grownBy w' (some G)) (hs : wa.heap.size = w.heap.size) : wa.grownBy w' (some G) :=
 ⟨h'.os.trans h.os.symm, h'.tape.trans h.tape.symm, h'.output.trans h.output.symm, by rw [hs]; exact h'.size, fun k hk hne => (h'.block k (by omega) hne).trans (h.block k (by omega) hne).symm⟩
theorem grown_own {a b c : World} {H : Nat} {row : Option Nat} (h : a.grownBy b (some H)) (h' : b.grownBy c row) (hr : ∀ r, row = some r → a.heap.size ≤ r) : a.grownBy c (some H) :=
 ⟨h'.os.trans h.os, h'.tape.trans h.tape, h'.output.trans h.output, Nat.le_trans h.size h'.size, fun k hk hne => (h'.block k (Nat.lt_of_lt_of_le hk h.size) (fun e => by have := hr _ e.symm; omega)).trans (h.block k hk hne)⟩
theorem grown_alloc0 {a b : World} {row : Option Nat} (h : a.grownBy b row) (o : Obj) : a.grownBy (b.alloc o) row := grown_trans h (grown_of_below ((Below.refl _ _).alloc (Nat.le_refl _) _) _)
theorem own_set {w : World} {base : Nat} {e : TypeId} {sz : Nat} {v : Value} {n : Nat} {cs : List Value} (h : w.ownsRow base e sz v n cs) {p : Addr} (hp : v.ownBlock ≠ some p.block) (u : Value) : (w.setCell p u).ownsRow base e sz v n cs := ownsRow_setCell_other h hp u
theorem cellsI (w : World) (l : List Int) : CellsR 1 iR w (l.map i64W) l := by
 refine ⟨by simp, fun i x hi => ?_⟩
 show _ = _
 rw [Nat.mul_one, List.map_drop.symm, List.map_take.symm]
 have : (l.drop i).take 1 = [x] := by
  rw [drop_cons hi]; rfl
 rw [this]; rfl
theorem own_form' {w : World} {base : Nat} {e : TypeId} {sz : Nat} {v : Value} {n : Nat} {cs : List Value} (h : w.ownsRow base e sz v n cs) : ∃ A m c, v = .slice A m c ∧ m = n := by
 rcases own_row h with ⟨rfl, h0⟩ | ⟨g, cap, rfl, _⟩
 · exact ⟨_, _, _, rfl, h0.symm⟩
 · exact ⟨_, _, _, rfl, rfl⟩
section
variable {P : Program} {ops : Array Oper} {md : Region.Mode} {w : World} {Q : Exit → Act → World → Prop}
def DiesOp (P : Program) (ops : Array Oper) (w : World) (Q : Exit → Act → World → Prop) (n : Nat) (a : Act) : Prop :=
 ∃ o f args chain, ops[n]? = some o ∧ Region.wanted o (yielded ops a.tmps) = true ∧ (execOp a.eval o).run P w = .ok (.enter f args) w ∧ Calls P f args w (fun e w'' => e = .panicked chain ∧ w'' = w) ∧ Q (.panic chain) a w
def wpAnyD (P : Program) (md : Region.Mode) (ops : Array Oper) (w : World) (Q : Exit → Act → World → Prop) (n : Nat) : Nat → Array Bool → Act → Prop
 | 0, listed, a => Region.ready md ops listed ≠ [] ∧ ∀ i ∈ Region.ready md ops listed, i = n ∧ DiesOp P ops w Q n a
 | f + 1, listed, a => Region.ready md ops listed ≠ [] ∧ ∀ i ∈ Region.ready md ops listed, (i = n ∧ DiesOp P ops w Q n a) ∨ (i ≠ n ∧ stOp P ops w i (wpAnyD P md ops w Q n f (listed.setIfInBounds i true)) a)
theorem wpOp_dies {n : Nat} {a : Act} {K : Act → World → Prop} (h : DiesOp P ops w Q n a) : wpOp P ops Q n K a w := by
 obtain ⟨o, f, args, chain, ho, hw, hr, hc, hq⟩ := h
 unfold wpOp
 simp only [ho, hw, if_true]
 refine .inl ?_
 unfold Oper.wp
 rw [hr]
 exact hc.mono fun e w'' ⟨he, hw⟩ => by subst he; subst hw; exact hq
theorem wpAny_of_dies {n g : Nat} : ∀ (f : Nat) (listed : Array Bool) (a : Act), wpAnyD P md ops w Q n f listed a → wpAny P md ops Q (f + 1 + g) listed a w
 |
  0, listed, a, h => by
  rw [show 0 + 1 + g = g + 1 by omega]
  refine ⟨fun h0 => absurd h0 h.1, fun i hi => ?_⟩
  obtain ⟨rfl, hd⟩ := h.2 i hi
  exact wpOp_dies hd
 |
  f + 1, listed, a, h => by
  rw [show f + 1 + 1 + g = (f + 1 + g) + 1 by omega]
  refine ⟨fun h0 => absurd h0 h.1, fun i hi => ?_⟩
  rcases h.2 i hi with ⟨rfl, hd⟩ | ⟨_, hs⟩
  · exact wpOp_dies hd
  · exact wpOp_of_stOp (fun a' h' => wpAny_of_dies f _ a' h') hs
theorem wpAnyD_first {n i : Nat} {oi : Oper} {v : Value} (hi : ops[i]? = some oi) (hin : i ≠ n) (hsel : ∀ (j : Nat) (o : Oper) cs b, ops[j]? = some o → o.op ≠ .select cs b)
 (hQ : ∀ (d : Option Tmp) (u : Value) (c : List PanicEntry) (a : Act), Q (.panic c) (a.put d u) w → Q (.panic c) a w) :
 ∀ (f : Nat) (listed : Array Bool) (a : Act),
  (∀ j oj, ops[j]? = some oj → j ≠ i → listed.getD j true = false → (∀ e ∈ oj.after, Region.binds md e = true → e.on ≠ i) → oi.apart ops oj = true) →
  i ∈ Region.ready md ops listed → YieldsAt P ops w oi v a →
  wpAnyD P md ops w Q n f (listed.setIfInBounds i true) (a.put oi.dst v) → wpAnyD P md ops w Q n (f + 1) listed a := by
 intro f
 induction f with
 |
  zero =>
  intro listed a hfree hr hy H
  have hun := (mem_ready.1 hr).1
  refine ⟨fun h => (by rw [h] at hr; cases hr), fun j hj => ?_⟩
  by_cases hji : j = i
  · subst hji; exact .inr ⟨hin, hy.stOp hi H⟩
  ·
   obtain ⟨hjun, oj, hoj, hall⟩ := mem_ready.1 hj
   have hnot : ∀ e ∈ oj.after, Region.binds md e = true → e.on ≠ i := fun e he hb heq => by
    have h1 := hall e he hb
    rw [heq, getD_both hun] at h1
    cases h1
   obtain ⟨h1, h2, h3⟩ := Oper.apart_spec (hfree j oj hoj hji hjun hnot)
   obtain ⟨rfl, o, fn, args, chain, ho, hw, hru, hc, hq⟩ := H.2 j (ready_mono hj hji)
   have e : o = oj := Option.some.inj (ho.symm.trans hoj)
   subst e
   refine .inl ⟨rfl, o, fn, args, chain, ho, ?_, ?_, hc, hQ _ _ _ _ hq⟩
   · rw [← wanted_put o a oi.dst v h1]; exact hw
   · rw [← execOp_put o (fun cs b => hsel j o cs b ho) a oi.dst v h1]; exact hru
 |
  succ f ih =>
  intro listed a hfree hr hy H
  have hun := (mem_ready.1 hr).1
  refine ⟨fun h => (by rw [h] at hr; cases hr), fun j hj => ?_⟩
  by_cases hji : j = i
  · subst hji; exact .inr ⟨hin, hy.stOp hi H⟩
  ·
   obtain ⟨hjun, oj, hoj, hall⟩ := mem_ready.1 hj
   have hnot : ∀ e ∈ oj.after, Region.binds md e = true → e.on ≠ i := fun e he hb heq => by
    have h1 := hall e he hb
    rw [heq, getD_both hun] at h1
    cases h1
   have hap := hfree j oj hoj hji hjun hnot
   obtain ⟨h1, h2, h3⟩ := Oper.apart_spec hap
   rcases H.2 j (ready_mono hj hji) with ⟨rfl, o, fn, args, chain, ho, hw, hru, hc, hq⟩ | ⟨hjn, hst⟩
   ·
    have e : o = oj := Option.some.inj (ho.symm.trans hoj)
    subst e
    refine .inl ⟨rfl, o, fn, args, chain, ho, ?_, ?_, hc, hQ _ _ _ _ hq⟩
    · rw [← wanted_put o a oi.dst v h1]; exact hw
    · rw [← execOp_put o (fun cs b => hsel j o cs b ho) a oi.dst v h1]; exact hru
   ·
    refine .inr ⟨hjn, ?_⟩
    have hs2 := stOp_put hoj hap (fun cs b => hsel i oi cs b hi) (fun cs b => hsel j oj cs b hoj) hy hst
    have hfree' : ∀ k ok, ops[k]? = some ok → k ≠ i → (listed.setIfInBounds j true).getD k true = false →
     (∀ e ∈ ok.after, Region.binds md e = true → e.on ≠ i) → oi.apart ops ok = true := fun k ok hk hki hun hno => by
     refine hfree k ok hk hki ?_ hno
     by_cases hjk : j = k
     · subst hjk; exact hjun
     · rw [getD_set_ne true hjk] at hun; exact hun
    refine stOp_mono (fun a' h3 => ih (listed.setIfInBounds j true) a' hfree' (ready_mono hr (Ne.symm hji)) h3.1 ?_) hs2
    rw [Array.setIfInBounds_comm _ _ hji]
    exact h3.2
def diesB (md : Region.Mode) (ops : Array Oper) (n : Nat) : List Nat → Array Bool → Bool
 | [], listed => decide (Region.ready md ops listed = [n])
 | k :: ks, listed => (Region.ready md ops listed).contains k && Region.free md ops listed k && decide (k ≠ n) && diesB md ops n ks (listed.setIfInBounds k true)
theorem wpAnyD_lex {n : Nat} (hsel : Region.noSelect ops = true) (hQ : ∀ (d : Option Tmp) (u : Value) (c : List PanicEntry) (a : Act), Q (.panic c) (a.put d u) w → Q (.panic c) a w) :
 ∀ (l : List Oper) (ks : List Nat) (listed : Array Bool) (a : Act), ks.map (fun k => ops[k]?) = l.map some →
 diesB md ops n ks listed = true → wpStill P ops w (DiesOp P ops w Q n) l a → wpAnyD P md ops w Q n l.length listed a
 |
  [], [], listed, a, _, hB, h => by
  have hB' : Region.ready md ops listed = [n] := by simpa [diesB] using hB
  have h' : DiesOp P ops w Q n a := h
  refine ⟨by rw [hB']; simp, fun i hi => ?_⟩
  rw [hB', List.mem_singleton] at hi
  exact ⟨hi, h'⟩
 | [], _ :: _, _, _, hm, _, _ => by simp at hm
 | _ :: _, [], _, _, hm, _, _ => by simp at hm
 |
  o :: l, k :: ks, listed, a, hm, hB, h => by
  simp only [List.map_cons, List.cons.injEq] at hm
  simp only [diesB, Bool.and_eq_true, decide_eq_true_eq] at hB
  obtain ⟨⟨⟨hr, hf⟩, hkn⟩, hB'⟩ := hB
  have hr' : k ∈ Region.ready md ops listed := by simpa using hr
  have hst : stOp P ops w k (wpStill P ops w (DiesOp P ops w Q n) l) a := by unfold stOp; simp only [hm.1]; exact h
  obtain ⟨v, hy, hK⟩ := yieldsAt_of_stOp hm.1 hst
  exact wpAnyD_first hm.1 hkn (Region.noSelect_spec hsel) hQ l.length listed a (Region.free_spec hm.1 hf) hr' hy (wpAnyD_lex hsel hQ l ks _ _ hm.2 hB' hK)
theorem wp_region_still_dies {id : Nat} {a : Act} {w : World} {l : List Oper} (n : Nat) (ks : List Nat) (pick : List Oper → List Oper) (hm : P.follows .mixedOrders = true) (hk : ks.map (fun k => l.toArray[k]?) = (pick l).map some)
 (hB : (decide (ks.length < l.length) && Region.noSelect l.toArray && diesB .any l.toArray n ks (Array.replicate l.toArray.size false)) = true)
 (hQ : ∀ (d : Option Tmp) (u : Value) (c : List PanicEntry) (a : Act), Q (.panic c) (a.put d u) w.drew → Q (.panic c) a w.drew)
 (h : wpStill P l.toArray w.drew (DiesOp P l.toArray w.drew Q n) (pick l) a) : (Code.region id l.toArray true).wp P Q a w := by
 simp only [Bool.and_eq_true, decide_eq_true_eq] at hB
 obtain ⟨⟨hn, hsel⟩, hB⟩ := hB
 have hl : (pick l).length = ks.length := by have := congrArg List.length hk; simpa using this.symm
 have H := wpAnyD_lex (md := .any) hsel hQ (pick l) ks _ a hk hB h
 refine wp_region_any hm ?_
 have := wpAny_of_dies (Q := Q) (g := l.toArray.size - ks.length - 1) _ _ _ H
 rw [hl, show ks.length + 1 + (l.toArray.size - ks.length - 1) = l.toArray.size by simp; omega] at this
 exact this
end
theorem step_append_own_at {P : Program} (w : World) {ops : Array Oper} {o : Oper} {a : Act} {K : Act → World → Prop} {Q : Exit → Act → World → Prop} {E : Prop} (hgd : o.guard = none) (s x : Operand) (t : TypeId)
 (ho : o.op = .call { callee := .builtin .append, args := #[s, x], argTypes := #[t, t] })
 (base : Nat) (e : TypeId) (i : TypeInfo) (z : Value) (size bytes : Nat) (ht : P.underlying t = some (.slice e)) (hi : P.info? e = some i) (hz : i.zero = some z)
 (hsize : i.size = size) (hby : i.bytes = bytes) (hzs : z.cells.size = size) (hsz : 0 < size)
 (v : Value) (n : Nat) (xs : List Value) (hs : a.eval s = v) (hown : w.ownsRow base e size v n xs)
 (ad : Addr) (m c : Nat) (news : List Value) (hx : a.eval x = .slice (some ad) m c) (hl : news.length = m * size) (hnews : ∀ j u, news[j]? = some u → w.cell? (ad.add j) = some u) (h1 : ∀ u ∈ news, u.oneCell' = true)
 (h63 : n + m ≤ maxLen) (hbytes : (n + m) * bytes ≤ 140737488355328) (hbase : base ≤ w.heap.size)
 (h : ∀ v' w', w'.ownsRow base e size v' (n + m) (xs ++ news) → w.grownBy w' v.ownBlock → (v'.ownBlock = v.ownBlock ∨ v'.ownBlock = some w.heap.size) → K (a.put o.dst v') w') :
 if Region.wanted o (yielded ops a.tmps) = true then Oper.wp P o a w K Q else E := by
 have hw : Region.wanted o (yielded ops a.tmps) = true := by simp [Region.wanted, hgd]
 rw [if_pos hw]
 obtain ⟨v', w', hr, h2, h3, _, h5⟩ := run_append_own_at (P := P) w base t o.type e i z size bytes ht hi hz hsize hby hzs hsz v n xs hown ad m c news hl hnews h1 h63 hbytes hbase
 unfold Oper.wp execOp
 simp only [ho, resolve, invoke, builtin, Sem.run_bind, Sem.run_pure, Result.andThen_ok, List.map_toArray, List.map_cons, List.map_nil, hs, hx, hr]
 exact h v' w' h2 h3 h5
theorem step_call_still {P : Program} {w : World} {ops : Array Oper} {o : Oper} {a : Act} {K : Act → World → Prop} {Q : Exit → Act → World → Prop} {E : Prop} (hgd : o.guard = none) (f : FuncId) (args : Array Value) {v : Value}
 (hex : (execOp a.eval o).run P w = .ok (.enter f args) w) (hc : Calls P f args w (fun e w' => e = .returned v ∧ w' = w)) (hK : K (a.put o.dst v) w) :
 if Region.wanted o (yielded ops a.tmps) = true then Oper.wp P o a w K Q else E := by
 have hw : Region.wanted o (yielded ops a.tmps) = true := by simp [Region.wanted, hgd]
 rw [if_pos hw]
 unfold Oper.wp
 rw [hex]
 exact hc.mono fun e w' ⟨he, hw⟩ => by subst he; subst hw; exact hK
theorem step_call_any {P : Program} {w : World} {ops : Array Oper} {o : Oper} {a : Act} {K : Act → World → Prop} {Q : Exit → Act → World → Prop} {E : Prop} (hgd : o.guard = none) (f : FuncId) (args : Array Value) {R : Ending → World → Prop}
 (hex : (execOp a.eval o).run P w = .ok (.enter f args) w) (hc : Calls P f args w R) (hK : ∀ e w', R e w' → ∃ v, e = .returned v ∧ K (a.put o.dst v) w') :
 if Region.wanted o (yielded ops a.tmps) = true then Oper.wp P o a w K Q else E := by
 have hw : Region.wanted o (yielded ops a.tmps) = true := by simp [Region.wanted, hgd]
 rw [if_pos hw]
 unfold Oper.wp
 rw [hex]
 exact hc.mono fun e w' h => by obtain ⟨v, rfl, hk⟩ := hK e w' h; exact hk
def Via3 {α β γ : Type} (F : α → β → γ → Act) (G : α → β → γ → World → Prop) : Exit → Act → World → Prop
 | .normal, a', w' => ∃ x y z, a' = F x y z ∧ G x y z w'
 | _, _, _ => False
theorem wp_via3 {P : Program} {c : Code} {Q : Exit → Act → World → Prop} {a : Act} {w : World} {α β γ : Type} (F : α → β → γ → Act) (G : α → β → γ → World → Prop) (h1 : c.wp P (Via3 F G) a w) (h2 : ∀ x y z w', G x y z w' → Q .normal (F x y z) w') : c.wp P Q a w :=
 Code.wp_mono (fun e a' w' h => by
  cases e with
  | normal => obtain ⟨x, y, z, rfl, hg⟩ := h; exact h2 x y z w' hg
  | _ => exact h.elim) h1
end Go.Proofs.YtkgmonplcdnnbaaGreat
