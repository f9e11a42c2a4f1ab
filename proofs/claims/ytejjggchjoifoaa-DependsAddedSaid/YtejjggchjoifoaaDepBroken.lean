/- Contract of depends.Broken. -/
import Derived.Test.YtejjggchjoifoaaDepPairsW
import Derived.Test.YtejjggchjoifoaaDepW3
import Derived.Test.YtejjggchjoifoaaDepCnt
namespace Go.Proofs.Ytejjggchjoifoaa
open Go.RowKit Go.Shelf
attribute [local go_sem] Oper.semAt_some

theorem pairs_any (A nA gA : Option Addr) (ln c nn nc gn gc : Nat) (s : ByteArray) (to : Int) (w : World) :
    Calls Try.prog 33 #[.slice A ln c, .agg #[.slice nA nn nc, .string s, .slice gA gn gc, .int .i64 to]] w fun e w' =>
      e = .returned (.func (.func 37) #[] #[.pointer (some ⟨w.heap.size, 0, none⟩), .pointer (some ⟨w.heap.size + 1, 0, none⟩)]) ∧
      (w.alloc (.cells #[.slice A ln c] 40)).alloc (.cells #[.slice nA nn nc, .string s, .slice gA gn gc, .int .i64 to] 29) = w' := by
  have hmf : ∀ (fn : Fn) (first cap : Array Value) (w : World), (Instr.makeFunc fn first cap).run Try.prog w = .ok (.func fn first cap) w := fun _ _ _ _ => rfl
  go_enter Try.func33, Try.ntmps33
  go_wp2
  go_ret
  exact ⟨rfl, rfl⟩

/-- The state of Broken's search: a, b, depend, ok. -/
structure BS where
  a : Int
  b : Int
  dep : Int
  ok : Bool

def bstep (i : Int) (s : BS) (p : Int × Int) : BS :=
  if !s.ok || decide (p.1 < s.a) || (p.1 == s.a && decide (p.2 < s.b)) then ⟨p.1, p.2, i, true⟩ else s
def bdep (l : List Inst) (s : BS) (i : Nat) (d : Dep) : BS := (pairsL d l).foldl (bstep (i : Int)) s
def bdeps (l : List Inst) (ds : List Dep) : Nat → BS
  | 0 => ⟨0, 0, 0, false⟩
  | n + 1 => match ds[n]? with
    | some d => bdep l (bdeps l ds n) n d
    | none => bdeps l ds n

def brokenOk (nf : Nat) (ds : List Dep) (l : List Inst) : Bool := checkB nf ds && l.all (fun x => x.length == nf)
def brokenS (nf : Nat) (ds : List Dep) (l : List Inst) : BS := if brokenOk nf ds l then bdeps l ds ds.length else ⟨0, 0, 0, false⟩

theorem bstep_stop {i : Int} {s : BS} {p : Int × Int} (ha : s.a = 0) (hb : s.b = 1) (hk : s.ok = true) (h0 : 0 ≤ p.1) (h1 : p.1 < p.2) : bstep i s p = s := by
  unfold bstep
  rw [if_neg]
  simp only [ha, hb, hk, Bool.not_true, Bool.false_or, Bool.or_eq_true, decide_eq_true_eq, Bool.and_eq_true, beq_iff_eq]
  omega
theorem bfold_stop {i : Int} : ∀ {ps : List (Int × Int)} {s : BS}, s.a = 0 → s.b = 1 → s.ok = true → (∀ p ∈ ps, 0 ≤ p.1 ∧ p.1 < p.2) → ps.foldl (bstep i) s = s
  | [], _, _, _, _, _ => rfl
  | p :: ps, s, ha, hb, hk, h => by
    rw [List.foldl_cons, bstep_stop ha hb hk (h p (by simp)).1 (h p (by simp)).2]
    exact bfold_stop ha hb hk (fun q hq => h q (by simp [hq]))
theorem pairsL_mem {d : Dep} {l : List Inst} {p : Int × Int} (h : p ∈ pairsL d l) : 0 ≤ p.1 ∧ p.1 < p.2 := by
  have := pst_out d l _ p h; omega
theorem bdeps_stop {l : List Inst} {ds : List Dep} {n : Nat} (ha : (bdeps l ds n).a = 0) (hb : (bdeps l ds n).b = 1) (hk : (bdeps l ds n).ok = true) (m : Nat) : bdeps l ds (n + m) = bdeps l ds n := by
  induction m with
  | zero => rfl
  | succ m ih =>
    show bdeps l ds (n + m + 1) = _
    rw [bdeps]
    split
    · rw [ih]
      exact bfold_stop ha hb hk (fun p hp => pairsL_mem hp)
    · exact ih
theorem bdeps_succ {l : List Inst} {ds : List Dep} {n : Nat} {d : Dep} (h : ds[n]? = some d) : bdeps l ds (n + 1) = (pairsL d l).foldl (bstep (n : Int)) (bdeps l ds n) := by
  rw [bdeps, h]; rfl
/-- The search ended early: nothing more would have changed. -/
theorem bdeps_early {l : List Inst} {ds : List Dep} {n : Nat} {d : Dep} (h : ds[n]? = some d) {pre : List (Int × Int)} (hp : pre <+: pairsL d l) (ha : (pre.foldl (bstep (n : Int)) (bdeps l ds n)).a = 0) (hb : (pre.foldl (bstep (n : Int)) (bdeps l ds n)).b = 1)
    (hk : (pre.foldl (bstep (n : Int)) (bdeps l ds n)).ok = true) : pre.foldl (bstep (n : Int)) (bdeps l ds n) = bdeps l ds ds.length := by
  obtain ⟨r, hr⟩ := hp
  have h1 : bdeps l ds (n + 1) = pre.foldl (bstep (n : Int)) (bdeps l ds n) := by
    rw [bdeps_succ h, ← hr, List.foldl_append]
    exact bfold_stop ha hb hk (fun p hp => pairsL_mem (by rw [← hr]; simp [hp]))
  have hn := (List.getElem?_eq_some_iff.1 h).1
  have h2 := bdeps_stop (l := l) (ds := ds) (n := n + 1) (by rw [h1]; exact ha) (by rw [h1]; exact hb) (by rw [h1]; exact hk) (ds.length - (n + 1))
  rw [show n + 1 + (ds.length - (n + 1)) = ds.length by omega] at h2
  rw [h2, h1]
theorem bstep_ok (i : Int) (s : BS) (p : Int × Int) : (bstep i s p).ok = true := by
  unfold bstep
  split
  · rfl
  · rename_i h
    cases hk : s.ok
    · simp [hk] at h
    · rfl

def RetBroken (s : BS) (ok : Bool) (w : World) (e : Ending) (w' : World) : Prop :=
  e = .returned (.tuple #[.int .i64 s.a, .int .i64 s.b, .int .i64 s.dep, .bool s.ok, .int .i64 (eno ok)]) ∧ Below w.heap.size w w'

def mark (D : Nat) : Deferred := { target := .collected D, args := #[] }
/-- The blocks for deferred calls that the loops so far have left. -/
structure Marks (B : Nat) (W : World) (Ds : List Nat) : Prop where
  nodup : Ds.Nodup
  at_ : ∀ D ∈ Ds, B ≤ D ∧ W.heap[D]? = some (.deferred (some []))

theorem Marks.grown {B : Nat} {W W' : World} {Ds : List Nat} (h : Marks B W Ds) {row : Option Nat} (hg : W.grownBy W' row) (hr : ∀ r, row = some r → r ∉ Ds) : Marks B W' Ds :=
  ⟨h.nodup, fun D hD => ⟨(h.at_ D hD).1, (hg.block D (Array.getElem?_eq_some_iff.1 (h.at_ D hD).2).1 (fun e => hr D e.symm hD)).trans (h.at_ D hD).2⟩⟩

theorem leaves_marks {F : Fence} {n : Nat} {P : Program} {fn : Func} {tmps : Array Value} {R : Ending → World → Prop} {B : Nat} : ∀ (Ds : List Nat) (W : World), Marks B W Ds →
    (∀ W', W'.os = W.os → W'.tape = W.tape → W'.output = W.output → W'.heap.size = W.heap.size → (∀ k, k < B → W'.heap[k]? = W.heap[k]?) → LeavesInM F n P fn tmps R [] .returning W') → LeavesInM F n P fn tmps R (Ds.map mark) .returning W
  | [], W, _, h => h W rfl rfl rfl rfl (fun _ _ => rfl)
  | D :: Ds, W, hm, h => by
    have hD := hm.at_ D (by simp)
    refine ⟨by simp, .inl ⟨D, W.putObj D (.deferred none), rfl, run_takeDeferred hD.2, ?_⟩⟩
    have hnd := List.nodup_cons.1 hm.nodup
    have hot : ∀ k, k ≠ D → (W.putObj D (.deferred none)).heap[k]? = W.heap[k]? := fun k hk => World.putObj_heap_other (by omega)
    refine leaves_marks (B := B) Ds _ ⟨hnd.2, fun D' hD' => ⟨(hm.at_ D' (by simp [hD'])).1, (hot D' (fun e => hnd.1 (e ▸ hD'))).trans (hm.at_ D' (by simp [hD'])).2⟩⟩ ?_
    intro W' h1 h2 h3 h4 h5
    exact h W' h1 h2 h3 (h4.trans (by simp [World.putObj])) (fun k hk => (h5 k hk).trans (hot k (by omega)))

theorem KpB.trans {r0 B : Nat} {X Y Z : World} (h : KpB r0 B X Y) (k : KpB r0 B Y Z) : KpB r0 B X Z :=
  ⟨k.os.trans h.os, k.tape.trans h.tape, k.output.trans h.output, Nat.le_trans h.size k.size, fun i hi hr => (k.old i hi hr).trans (h.old i hi hr), fun i o hi ho hw => k.new i o hi (h.new i o hi ho hw) hw⟩
theorem KpB.book {r0 B : Nat} (W : World) (l : Nat) (o o' : Obj) (hl : B ≤ l) (h : W.heap[l]? = some o) (h1 : o.isCells = false) (h2 : o.isWalk = false) : KpB r0 B W (W.putObj l o') :=
  ⟨rfl, rfl, rfl, by simp [World.putObj], fun k hk _ => World.putObj_heap_other (by omega), fun k ob _ hk hw => by
    by_cases e : k = l
    · subst e
      rw [h] at hk
      cases hk
      rw [h1, h2] at hw
      simp at hw
    · exact (World.putObj_heap_other e).trans hk⟩
theorem KpB.refl (r0 B : Nat) (W : World) : KpB r0 B W W := ⟨rfl, rfl, rfl, Nat.le_refl _, fun _ _ _ => rfl, fun _ _ _ h _ => h⟩
theorem KpB.alloc (r0 B : Nat) (W : World) (o : Obj) (hB : B ≤ W.heap.size) : KpB r0 B W (W.alloc o) :=
  ⟨rfl, rfl, rfl, by simp, fun k hk _ => Below.heap_alloc W o k (by omega), fun k ob _ hk _ => (Below.heap_alloc W o k (Array.getElem?_eq_some_iff.1 hk).1).trans hk⟩
theorem KpB.setCell {r0 B : Nat} (W : World) (p : Addr) (u : Value) (h0 : r0 ≤ p.block) (h1 : p.block < r0 + 4) (hB : r0 + 4 ≤ B) : KpB r0 B W (W.setCell p u) :=
  ⟨rfl, rfl, rfl, by simp [World.setCell], fun k _ hr => Below.heap_setCell W p u k (by omega), fun k ob hk h _ => (Below.heap_setCell W p u k (by omega)).trans h⟩
theorem KpB.drewN {r0 B : Nat} {W W' : World} (h : KpB r0 B W W') (n : Nat) : KpB r0 B W (W'.drewN n) := ⟨h.os, h.tape, h.output, h.size, h.old, h.new⟩
theorem KpB.drew {r0 B : Nat} {W W' : World} (h : KpB r0 B W W') : KpB r0 B W W'.drew := ⟨h.os, h.tape, h.output, h.size, h.old, h.new⟩

/-- The five boxes of Broken: the schema, a, b, depend, ok. -/
structure BrW (w : World) (s1 s2 : ByteArray) (i1 i2 : Int) (vf vd : Value) (W : World) (s : BS) : Prop where
  old : Below w.heap.size w W
  bs : Blk W w.heap.size 25 #[.string s1, .string s2, .int .i64 i1, .int .i64 i2, vf, vd]
  ba : Blk W (w.heap.size + 1) 3 #[.int .i64 s.a]
  bb : Blk W (w.heap.size + 1 + 1) 3 #[.int .i64 s.b]
  bd : Blk W (w.heap.size + 1 + 1 + 1) 3 #[.int .i64 s.dep]
  bk : Blk W (w.heap.size + 1 + 1 + 1 + 1) 4 #[.bool s.ok]

theorem BrW.below {w : World} {s1 s2 : ByteArray} {i1 i2 : Int} {vf vd : Value} {W W' : World} {s : BS} (h : BrW w s1 s2 i1 i2 vf vd W s) {B : Nat} (hb : Below B W W') (hB : w.heap.size + 4 < B) : BrW w s1 s2 i1 i2 vf vd W' s :=
  ⟨h.old.trans (hb.mono (by omega)), h.bs.below hb (by omega), h.ba.below hb (by omega), h.bb.below hb (by omega), h.bd.below hb (by omega), h.bk.below hb (by omega)⟩

theorem BrW.grown {w : World} {s1 s2 : ByteArray} {i1 i2 : Int} {vf vd : Value} {W W' : World} {s : BS} (h : BrW w s1 s2 i1 i2 vf vd W s) {row : Option Nat} (hg : W.grownBy W' row) (hr : ∀ r, row = some r → w.heap.size + 4 < r) : BrW w s1 s2 i1 i2 vf vd W' s :=
  ⟨h.old.grown hg h.old.size (fun k e => by have := hr k e; omega), h.bs.grown hg (fun e => by have := hr _ e.symm; omega), h.ba.grown hg (fun e => by have := hr _ e.symm; omega), h.bb.grown hg (fun e => by have := hr _ e.symm; omega),
    h.bd.grown hg (fun e => by have := hr _ e.symm; omega), h.bk.grown hg (fun e => by have := hr _ e.symm; omega)⟩

section
variable {w : World} {s1 s2 : ByteArray} {i1 i2 : Int} {vf vd : Value} {W : World} {s : BS}
theorem BrW.setA (h : BrW w s1 s2 i1 i2 vf vd W s) (x : Int) : BrW w s1 s2 i1 i2 vf vd (W.setCell ⟨w.heap.size + 1, 0, none⟩ (.int .i64 x)) { s with a := x } :=
  ⟨h.old.setCell (by simp <;> omega) _, h.bs.far (by simp <;> omega) _, h.ba.put 0 _, h.bb.far (by simp <;> omega) _, h.bd.far (by simp <;> omega) _, h.bk.far (by simp <;> omega) _⟩
theorem BrW.setB (h : BrW w s1 s2 i1 i2 vf vd W s) (x : Int) : BrW w s1 s2 i1 i2 vf vd (W.setCell ⟨w.heap.size + 1 + 1, 0, none⟩ (.int .i64 x)) { s with b := x } :=
  ⟨h.old.setCell (by simp <;> omega) _, h.bs.far (by simp <;> omega) _, h.ba.far (by simp <;> omega) _, h.bb.put 0 _, h.bd.far (by simp <;> omega) _, h.bk.far (by simp <;> omega) _⟩
theorem BrW.setD (h : BrW w s1 s2 i1 i2 vf vd W s) (x : Int) : BrW w s1 s2 i1 i2 vf vd (W.setCell ⟨w.heap.size + 1 + 1 + 1, 0, none⟩ (.int .i64 x)) { s with dep := x } :=
  ⟨h.old.setCell (by simp <;> omega) _, h.bs.far (by simp <;> omega) _, h.ba.far (by simp <;> omega) _, h.bb.far (by simp <;> omega) _, h.bd.put 0 _, h.bk.far (by simp <;> omega) _⟩
theorem BrW.setK (h : BrW w s1 s2 i1 i2 vf vd W s) (x : Bool) : BrW w s1 s2 i1 i2 vf vd (W.setCell ⟨w.heap.size + 1 + 1 + 1 + 1, 0, none⟩ (.bool x)) { s with ok := x } :=
  ⟨h.old.setCell (by simp <;> omega) _, h.bs.far (by simp <;> omega) _, h.ba.far (by simp <;> omega) _, h.bb.far (by simp <;> omega) _, h.bd.far (by simp <;> omega) _, h.bk.put 0 _⟩

theorem BrW.setAll (h : BrW w s1 s2 i1 i2 vf vd W s) (x y z : Int) (k : Bool) : BrW w s1 s2 i1 i2 vf vd ((((W.setCell ⟨w.heap.size + 1, 0, none⟩ (.int .i64 x)).setCell ⟨w.heap.size + 1 + 1, 0, none⟩ (.int .i64 y)).setCell ⟨w.heap.size + 1 + 1 + 1, 0, none⟩ (.int .i64 z)).setCell ⟨w.heap.size + 1 + 1 + 1 + 1, 0, none⟩ (.bool k)) ⟨x, y, z, k⟩ :=
  (((h.setA x).setB y).setD z).setK k
theorem BrW.drew (h : BrW w s1 s2 i1 i2 vf vd W s) : BrW w s1 s2 i1 i2 vf vd W.drew s := h.grown (grown_drew (World.grownBy.refl W none)) (fun r e => by cases e)
theorem Marks.same {B : Nat} {W W' : World} {Ds : List Nat} (h : Marks B W Ds) (hs : ∀ k, B ≤ k → W'.heap[k]? = W.heap[k]?) : Marks B W' Ds :=
  ⟨h.nodup, fun D hD => ⟨(h.at_ D hD).1, (hs D (h.at_ D hD).1).trans (h.at_ D hD).2⟩⟩
theorem Marks.put {B : Nat} {W : World} {Ds : List Nat} (h : Marks B W Ds) {p : Addr} (hp : p.block < B) (u : Value) : Marks B (W.setCell p u) Ds := h.same (fun k hk => Below.heap_setCell W p u k (by omega))

theorem BrW.res (h : BrW w s1 s2 i1 i2 vf vd W s) {tmps : Array Value} (t4 : tmps.getD 4 undef = .pointer (some ⟨w.heap.size + 1, 0, none⟩)) (t5 : tmps.getD 5 undef = .pointer (some ⟨w.heap.size + 1 + 1, 0, none⟩))
    (t6 : tmps.getD 6 undef = .pointer (some ⟨w.heap.size + 1 + 1 + 1, 0, none⟩)) (t7 : tmps.getD 7 undef = .pointer (some ⟨w.heap.size + 1 + 1 + 1 + 1, 0, none⟩)) {e : Int} (t8 : tmps.getD 8 undef = .int .i64 e) :
    (results Try.f20 tmps).run Try.prog W = .ok (.tuple #[.int .i64 s.a, .int .i64 s.b, .int .i64 s.dep, .bool s.ok, .int .i64 e]) W := by
  have ca := h.ba.cell 0
  have cb := h.bb.cell 0
  have cd := h.bd.cell 0
  have ck := h.bk.cell 0
  simp only [List.getElem?_toArray, List.getElem?_cons_zero] at ca cb cd ck
  rw [Array.getD_eq_getD_getElem?] at t4 t5 t6 t7 t8
  simp [results, Try.results20, go_sem, t4, t5, t6, t7, t8, ca, cb, cd, ck]
end

/-- Broken's frame at the head of the loop over the dependencies. -/
def brFr (A : Option Addr) (ln c B : Nat) (dA : Option Addr) (nd dc q : Nat) (u : Nat → Value) : Array Value := #[u 0, .slice A ln c, .pointer (some ⟨B, 0, none⟩), u 3, .pointer (some ⟨B + 1, 0, none⟩), .pointer (some ⟨B + 1 + 1, 0, none⟩), .pointer (some ⟨B + 1 + 1 + 1, 0, none⟩), .pointer (some ⟨B + 1 + 1 + 1 + 1, 0, none⟩), u 8, u 9, u 10, u 11, u 12, u 13, u 14, u 15, u 16, u 17, u 18, u 19, u 20, u 21, u 22, u 23, u 24, u 25, u 26, u 27, u 28, u 29, u 30, u 31, u 32, u 33, u 34, .slice dA nd dc, .int .i64 nd, .int .i64 q, u 38, u 39, u 40, u 41, u 42, u 43, u 44, u 45, u 46, u 47, u 48, u 49, u 50, u 51, u 52, u 53, u 54, u 55, u 56, u 57, u 58, u 59, u 60, u 61, u 62, u 63, u 64, u 65, u 66, u 67, u 68, u 69, u 70, u 71, u 72, u 73, u 74, u 75, u 76, u 77, u 78, u 79, u 80, u 81]
set_option maxRecDepth 100000 in
theorem brFr_of (A : Option Addr) (ln c B : Nat) (dA : Option Addr) (nd dc q : Nat) (t : Array Value) (hs : t.size = 82) (h1 : t[1]? = some (.slice A ln c)) (h2 : t[2]? = some (.pointer (some ⟨B, 0, none⟩))) (h4 : t[4]? = some (.pointer (some ⟨B + 1, 0, none⟩))) (h5 : t[5]? = some (.pointer (some ⟨B + 1 + 1, 0, none⟩))) (h6 : t[6]? = some (.pointer (some ⟨B + 1 + 1 + 1, 0, none⟩))) (h7 : t[7]? = some (.pointer (some ⟨B + 1 + 1 + 1 + 1, 0, none⟩))) (h35 : t[35]? = some (.slice dA nd dc)) (h36 : t[36]? = some (.int .i64 nd)) (h37 : t[37]? = some (.int .i64 q)) : ∃ u, t = brFr A ln c B dA nd dc q u := by
  have key : t.toList = (List.range 82).map (fun i => t.getD i undef) := by
    apply List.ext_getElem
    · simp [hs]
    · intro i h1 h2
      have h3 : i < t.size := by simpa using h1
      simp [Array.getD_eq_getD_getElem?, Array.getElem?_eq_getElem h3]
  have hg : ∀ {i : Nat} {v : Value}, t[i]? = some v → t.getD i undef = v := fun h => by rw [Array.getD_eq_getD_getElem?, h]; rfl
  refine ⟨fun i => t.getD i undef, ?_⟩
  have h0 : brFr A ln c B dA nd dc q (fun i => t.getD i undef) = ((List.range 82).map (fun i => if i = 1 then .slice A ln c else if i = 2 then .pointer (some ⟨B, 0, none⟩) else if i = 4 then .pointer (some ⟨B + 1, 0, none⟩) else if i = 5 then .pointer (some ⟨B + 1 + 1, 0, none⟩) else if i = 6 then .pointer (some ⟨B + 1 + 1 + 1, 0, none⟩) else if i = 7 then .pointer (some ⟨B + 1 + 1 + 1 + 1, 0, none⟩) else if i = 35 then .slice dA nd dc else if i = 36 then .int .i64 nd else if i = 37 then .int .i64 q else t.getD i undef)).toArray := rfl
  rw [h0]
  apply Array.toList_inj.1
  rw [key]
  show _ = List.map _ _
  refine List.map_congr_left (fun i _ => ?_)
  repeat' (split; · rename_i h; subst h; exact hg (by assumption))
  rfl

/-- The frame of a round of Broken's inner loop: the slots that are read later. -/
def rdFr (p4 p5 p6 p7 p12 p14 b65 : Value) (u : Nat → Value) : Array Value := #[u 0, u 1, u 2, u 3, p4, p5, p6, p7, u 8, u 9, u 10, u 11, p12, u 13, p14, u 15, u 16, u 17, u 18, u 19, u 20, u 21, u 22, u 23, u 24, u 25, u 26, u 27, u 28, u 29, u 30, u 31, u 32, u 33, u 34, u 35, u 36, u 37, u 38, u 39, u 40, u 41, u 42, u 43, u 44, u 45, u 46, u 47, u 48, u 49, u 50, u 51, u 52, u 53, u 54, u 55, u 56, u 57, u 58, u 59, u 60, u 61, u 62, u 63, u 64, b65, u 66, u 67, u 68, u 69, u 70, u 71, u 72, u 73, u 74, u 75, u 76, u 77, u 78, u 79, u 80, u 81]
structure RdFr (p4 p5 p6 p7 p12 p14 b65 : Value) (t : Array Value) : Prop where
  size : t.size = 82
  h4 : t[4]? = some p4
  h5 : t[5]? = some p5
  h6 : t[6]? = some p6
  h7 : t[7]? = some p7
  h12 : t[12]? = some p12
  h14 : t[14]? = some p14
  h65 : t[65]? = some b65
set_option maxRecDepth 100000 in
theorem RdFr.form {p4 p5 p6 p7 p12 p14 b65 : Value} {t : Array Value} (h : RdFr p4 p5 p6 p7 p12 p14 b65 t) : ∃ u, t = rdFr p4 p5 p6 p7 p12 p14 b65 u := by
  obtain ⟨hs, h4, h5, h6, h7, h12, h14, h65⟩ := h
  have key : t.toList = (List.range 82).map (fun i => t.getD i undef) := by
    apply List.ext_getElem
    · simp [hs]
    · intro i h1 h2
      have h3 : i < t.size := by simpa using h1
      simp [Array.getD_eq_getD_getElem?, Array.getElem?_eq_getElem h3]
  have hg : ∀ {i : Nat} {v : Value}, t[i]? = some v → t.getD i undef = v := fun h => by rw [Array.getD_eq_getD_getElem?, h]; rfl
  refine ⟨fun i => t.getD i undef, ?_⟩
  have h0 : rdFr p4 p5 p6 p7 p12 p14 b65 (fun i => t.getD i undef) = ((List.range 82).map (fun i => if i = 4 then p4 else if i = 5 then p5 else if i = 6 then p6 else if i = 7 then p7 else if i = 12 then p12 else if i = 14 then p14 else if i = 65 then b65 else t.getD i undef)).toArray := rfl
  rw [h0]
  apply Array.toList_inj.1
  rw [key]
  show _ = List.map _ _
  refine List.map_congr_left (fun i _ => ?_)
  repeat' (split; · rename_i h; subst h; exact hg (by assumption))
  rfl

set_option maxRecDepth 100000 in
set_option maxHeartbeats 4000000 in
theorem Broken_any (s1 s2 : ByteArray) (i1 i2 : Int) (fA dA : Option Addr) (nf fc nd dc : Nat) (ds : List Dep) (A : Option Addr) (ln c : Nat) (l : List Inst) (w : World)
    (hnf : nf ≤ 9223372036854775807) (hs : SlR 4 depR w (.slice dA nd dc) ds) (hl : SlR 4 instR w (.slice A ln c) l) :
    Calls Try.prog 20 #[.agg #[.string s1, .string s2, .int .i64 i1, .int .i64 i2, .slice fA nf fc, .slice dA nd dc], .slice A ln c] w (RetBroken (brokenS nf ds l) (brokenOk nf ds l) w) := by
  refine (callsIn_wide (n := 8)).1 ?_
  have hln : ln ≤ 9223372036854775807 := by have := hl.le; omega
  have hnd : nd ≤ 9223372036854775807 := by have := hs.le; omega
  have HN := Lib.hid hs.len
  have HLN := Lib.hid hl.len
  have HS := Lib.hid hs
  have HL := Lib.hid hl
  clear hs hl
  obtain ⟨cb, hcb⟩ : ∃ cb, checkB nf ds = cb := ⟨_, rfl⟩
  have HCB := Lib.hid hcb
  clear hcb
  refine callsIn_of_wp_marks Try.func20 rfl trivial ?_ rfl
  simp only [Try.ntmps20, List.size_toArray, List.length_cons, List.length_nil, Nat.reduceAdd, Nat.reduceSub, Array.replicate_succ, Array.replicate_zero, List.push_toArray, List.append_toArray, List.nil_append, List.cons_append]
  refine wpIn_wide.2 ?_
  obtain ⟨W0, hW0⟩ : ∃ W0, (((((w.alloc (.cells #[.string s1, .string s2, .int .i64 i1, .int .i64 i2, .slice fA nf fc, .slice dA nd dc] 25)).alloc (.cells #[.int .i64 0] 3)).alloc (.cells #[.int .i64 0] 3)).alloc (.cells #[.int .i64 0] 3)).alloc (.cells #[.bool false] 4)) = W0 := ⟨_, rfl⟩
  have hbr : BrW w s1 s2 i1 i2 (.slice fA nf fc) (.slice dA nd dc) W0 ⟨0, 0, 0, false⟩ := by
    rw [← hW0]
    refine ⟨(((((Below.refl _ _).alloc (Nat.le_refl _) _).alloc (by simp) _).alloc (by simp; omega) _).alloc (by simp; omega) _).alloc (by simp; omega) _, ?_, ?_, ?_, ?_, ?_⟩
    · exact ((((Blk.new w _ _).alloc _).alloc _).alloc _).alloc _
    · have := Blk.new (w.alloc (.cells #[.string s1, .string s2, .int .i64 i1, .int .i64 i2, .slice fA nf fc, .slice dA nd dc] 25)) 3 #[.int .i64 0]
      rw [World.size_alloc] at this
      exact ((this.alloc _).alloc _).alloc _
    · have := Blk.new ((w.alloc (.cells #[.string s1, .string s2, .int .i64 i1, .int .i64 i2, .slice fA nf fc, .slice dA nd dc] 25)).alloc (.cells #[.int .i64 0] 3)) 3 #[.int .i64 0]
      rw [World.size_alloc, World.size_alloc] at this
      exact (this.alloc _).alloc _
    · have := Blk.new (((w.alloc (.cells #[.string s1, .string s2, .int .i64 i1, .int .i64 i2, .slice fA nf fc, .slice dA nd dc] 25)).alloc (.cells #[.int .i64 0] 3)).alloc (.cells #[.int .i64 0] 3)) 3 #[.int .i64 0]
      rw [World.size_alloc, World.size_alloc, World.size_alloc] at this
      exact this.alloc _
    · have := Blk.new ((((w.alloc (.cells #[.string s1, .string s2, .int .i64 i1, .int .i64 i2, .slice fA nf fc, .slice dA nd dc] 25)).alloc (.cells #[.int .i64 0] 3)).alloc (.cells #[.int .i64 0] 3)).alloc (.cells #[.int .i64 0] 3)) 4 #[.bool false]
      rw [World.size_alloc, World.size_alloc, World.size_alloc, World.size_alloc] at this
      exact this
  have q0 := hbr.bs.cell 0
  have q1 := hbr.bs.cell 1
  have q2 := hbr.bs.cell 2
  have q3 := hbr.bs.cell 3
  have q4 := hbr.bs.cell 4
  have q5 := hbr.bs.cell 5
  simp only [List.getElem?_toArray, List.getElem?_cons_zero, List.getElem?_cons_succ] at q0 q1 q2 q3 q4 q5
  have HBR := Lib.hid hbr
  clear hbr
  go_wp2_with fail
  clear hW0
  go_step3
  go_wp2_with fail
  refine (check_any s1 s2 i1 i2 fA dA nf fc nd dc ds _ hnf (HS.out.mono depR_mono HBR.out.old)).mono ?_
  rintro e w1 ⟨rfl, hb1⟩
  have hsz0 : w.heap.size + 4 < W0.heap.size := by have := HBR.out.bk.lt; omega
  have hbr := HBR.out.below hb1 hsz0
  clear q0 q1 q2 q3 q4 q5
  have c4 := hbr.bs.cell 4
  have c5 := hbr.bs.cell 5
  have ca := hbr.ba.cell 0
  have cb' := hbr.bb.cell 0
  have cd := hbr.bd.cell 0
  have ck := hbr.bk.cell 0
  have fa := hbr.ba.frozen 0
  have fb := hbr.bb.frozen 0
  have fd := hbr.bd.frozen 0
  have fk := hbr.bk.frozen 0
  simp only [List.getElem?_toArray, List.getElem?_cons_zero, List.getElem?_cons_succ] at c4 c5 ca cb' cd ck
  have HBR1 := Lib.hid hbr
  have HB1 := Lib.hid hb1
  clear hbr hb1
  rw [HCB.out]
  rcases cb with _ | _
  · have HOK : Hid (brokenOk nf ds l = false) := by show _ = _; simp [brokenOk, HCB.out]
    rw [show eno false = 130 from rfl]
    go_wp2_with fail
    rw [Exit.noGoto_ret]
    have hfin := (((HBR1.out.setA 0).setB 0).setD 0).setK false
    refine ⟨_, hfin.res rfl rfl rfl rfl (e := 130) rfl, ?_⟩
    rw [HOK.out]
    refine ⟨?_, hfin.old⟩
    simp [brokenS, HOK.out, eno]
  · rw [show eno true = 0 from rfl]
    obtain ⟨k1, k2, k3, k4⟩ := checkB_ok HCB.out
    have HK := Lib.hid k4
    clear k4
    go_wp2_with fail
    clear c4 c5 ca cb' cd ck fa fb fd fk
    go_loopg [8, 22] ln (fun g x i wr => ∃ k : Nat, k ≤ ln ∧ g = ln - k ∧ i = .int .i64 k ∧ x = .int .i64 0 ∧ BrW w s1 s2 i1 i2 (.slice fA nf fc) (.slice dA nd dc) wr ⟨0, 0, 0, false⟩ ∧ (l.take k).all (fun x => x.length == nf) = true)
    case atStart => exact ⟨0, Nat.zero_le _, rfl, rfl, rfl, HBR1.out, rfl⟩
    case round =>
      obtain ⟨k, hk, hg, rfl, rfl, hbr, hv⟩ := hrel
      have c4 := hbr.bs.cell 4
      have c5 := hbr.bs.cell 5
      have ca := hbr.ba.cell 0
      have cb' := hbr.bb.cell 0
      have cd := hbr.bd.cell 0
      have ck := hbr.bk.cell 0
      have fa := hbr.ba.frozen 0
      have fb := hbr.bb.frozen 0
      have fd := hbr.bd.frozen 0
      have fk := hbr.bk.frozen 0
      have z0 := hbr.bk.lt
      simp only [List.getElem?_toArray, List.getElem?_cons_zero, List.getElem?_cons_succ] at c4 c5 ca cb' cd ck
      have HG := Lib.hid hg
      have HBR2 := Lib.hid hbr
      have HV := Lib.hid hv
      clear hg hbr hv
      have zs : w.heap.size < wr.heap.size := by omega
      have za : w.heap.size + 1 < wr.heap.size := by omega
      have zb : w.heap.size + 1 + 1 < wr.heap.size := by omega
      have zd : w.heap.size + 1 + 1 + 1 < wr.heap.size := by omega
      by_cases hlt : k < ln
      · obtain ⟨xb, off, x, j1, j2, j3, vA, vn, vc, hA, hxb, hxx, e0, e1, e2, e3, hxs⟩ := inst_at (HL.out.mono instR_mono HBR2.out.old) hlt
        obtain rfl := hA
        have hvn : vn = x.length := hxs.len
        have HXX := Lib.hid hxx
        have HVN := Lib.hid hvn
        clear hxx hxs hvn
        by_cases heq : vn = nf
        · have hne : ((vn : Int) != nf) = false := by rw [heq]; simp
          go_wp2_with fail
          go_roundg (ln - (k + 1))
          case measure => have := HG.out; omega
          case rel =>
            refine ⟨k + 1, by omega, rfl, by go_num, rfl, HBR2.out.grown (World.grownBy_alloc wr _ none) (fun r e => by cases e), ?_⟩
            rw [take_snoc HXX.out, List.all_append, HV.out]
            have := HVN.out
            simp; omega
        · have hne : ((vn : Int) != nf) = true := by rw [bne_iff_ne]; omega
          have HOK : Hid (brokenOk nf ds l = false) := by
            show _ = _
            have : l.all (fun x => x.length == nf) = false := by
              rw [List.all_eq_false]
              refine ⟨x, List.mem_of_getElem? HXX.out, ?_⟩
              have := HVN.out
              simp; omega
            simp [brokenOk, this]
          go_wp2_with fail
          rw [Exit.noGoto_ret]
          have hfin := ((((HBR2.out.setA 0).setB 0).setD 0).setK false).grown (World.grownBy_alloc _ (.cells #[.int .i64 j1, .int .i64 j2, .int .i64 j3, .slice vA vn vc] 49) none) (fun r e => by cases e)
          refine ⟨_, hfin.res rfl rfl rfl rfl (e := 130) rfl, ?_⟩
          rw [HOK.out]
          refine ⟨?_, hfin.old⟩
          simp [brokenS, HOK.out, eno]
      · go_wp2_with fail
        go_step3
        go_wp2_with fail
        have hlen : l.all (fun x => x.length == nf) = true := by
          have h1 := HV.out
          rw [List.take_of_length_le (by have := HLN.out; omega)] at h1
          exact h1
        have HLEN := Lib.hid hlen
        clear hlen c4 c5 ca cb' cd ck fa fb fd fk
        refine wp_loop_ghost_k (fun g a W => ∃ (q : Nat) (Ds : List Nat) (u : Nat → Value), (q ≤ nd ∧ g = nd - q ∧ BrW w s1 s2 i1 i2 (.slice fA nf fc) (.slice dA nd dc) W (bdeps l ds q) ∧ Marks (w.heap.size + 5) W Ds) ∧
          a = { tmps := brFr A ln c w.heap.size dA nd dc q u, defers := Ds.map mark }) nd ?start ?round
        case start =>
          refine ⟨0, [], _, ⟨Nat.zero_le _, rfl, HBR2.out, ⟨List.nodup_nil, fun D hD => by simp at hD⟩⟩, congrArg (fun t => Act.mk t []) (Exists.choose_spec (brFr_of A ln c w.heap.size dA nd dc 0 _ rfl rfl rfl rfl rfl rfl rfl rfl rfl rfl))⟩
        case round =>
          clear HBR2 HV HG hlt hk z0 zs za zb zd
          rintro g a W ⟨q, Ds, u, ⟨hq, hg, hbr, hmk⟩, rfl⟩ J K hJ hK
          unfold brFr
          have HG := Lib.hid hg
          have HJ := Lib.hid hJ
          have HBR2 := Lib.hid hbr
          have HMK := Lib.hid hmk
          have z0 := hbr.bk.lt
          clear hg hJ hbr hmk
          by_cases hlt : q < nd
          · obtain ⟨xb, off, d, nA, nn, nc, s, gA, gn, gc, hdA, hxb0, hdd, e0, e1, e2, e3, hsrc, hlo, hhi⟩ := dep_at HS.out hlt
            have hxb : xb < W.heap.size := Nat.lt_of_lt_of_le hxb0 HBR2.out.old.size
            replace e0 := (HBR2.out.old.cell (p := ⟨xb, off + q * 4, none⟩) hxb0).trans e0
            replace e1 := (HBR2.out.old.cell (p := ⟨xb, off + q * 4 + 1, none⟩) hxb0).trans e1
            replace e2 := (HBR2.out.old.cell (p := ⟨xb, off + q * 4 + 2, none⟩) hxb0).trans e2
            replace e3 := (HBR2.out.old.cell (p := ⟨xb, off + q * 4 + 3, none⟩) hxb0).trans e3
            obtain rfl := hdA
            have HDD := Lib.hid hdd
            have HSRC0 := Lib.hid hsrc
            clear hdd hsrc
            go_wp2_with fail
            refine (pairs_any _ _ _ _ _ _ _ _ _ _ _ _).mono ?_
            rintro e w2 ⟨rfl, hw2⟩
            go_wp2_with fail
            have hbW : Below W.heap.size W w2 := by rw [← hw2]; exact ((((Below.refl _ _).alloc (Nat.le_refl _) _).alloc (by simp) _).alloc (by simp; omega) _).alloc (by simp; omega) _
            have hib : Blk w2 W.heap.size 3 #[.int .i64 q] := by rw [← hw2]; exact (((Blk.new W _ _).alloc _).alloc _).alloc _
            have hlb : Blk w2 (W.heap.size + 1 + 1) 40 #[.slice A ln c] := by
              rw [← hw2]
              have := Blk.new ((W.alloc (.cells #[.int .i64 q] 3)).alloc (.cells #[.slice nA nn nc, .string s, .slice gA gn gc, .int .i64 d.dst] 29)) 40 #[.slice A ln c]
              rw [World.size_alloc, World.size_alloc] at this
              exact this.alloc _
            have hdb : Blk w2 (W.heap.size + 1 + 1 + 1) 29 #[.slice nA nn nc, .string s, .slice gA gn gc, .int .i64 d.dst] := by
              rw [← hw2]
              have := Blk.new (((W.alloc (.cells #[.int .i64 q] 3)).alloc (.cells #[.slice nA nn nc, .string s, .slice gA gn gc, .int .i64 d.dst] 29)).alloc (.cells #[.slice A ln c] 40)) 29 #[.slice nA nn nc, .string s, .slice gA gn gc, .int .i64 d.dst]
              rw [World.size_alloc, World.size_alloc, World.size_alloc] at this
              exact this
            have hsz : W.heap.size + 3 < w2.heap.size := by rw [← hw2]; simp
            clear hw2
            have hdm : d ∈ ds := List.mem_of_getElem? HDD.out
            have hvd : validB nf d = true := by
              have := HCB.out
              simp only [checkB, Bool.and_eq_true, List.all_eq_true] at this
              exact this.2 d hdm
            have hbr2 : BrW w s1 s2 i1 i2 (.slice fA nf fc) (.slice (some ⟨xb, off, none⟩) nd dc) w2 (bdeps l ds q) := HBR2.out.below hbW (by omega)
            have hmk2 : Marks (w.heap.size + 5) w2 Ds := ⟨HMK.out.nodup, fun D hD => ⟨(HMK.out.at_ D hD).1, (hbW.block D (Array.getElem?_eq_some_iff.1 (HMK.out.at_ D hD).2).1).trans (HMK.out.at_ D hD).2⟩⟩
            have hDs : ∀ D ∈ Ds, D < W.heap.size := fun D hD => (Array.getElem?_eq_some_iff.1 (HMK.out.at_ D hD).2).1
            refine (wpIn_wide (n := 8)).1 ?_
            refine wpIn_rangeFunc_ownH (F := Fence.wide) rfl (by omega) (gf := 37) (lb := #[.pointer (some ⟨W.heap.size + 1 + 1, 0, none⟩), .pointer (some ⟨W.heap.size + 1 + 1 + 1, 0, none⟩)]) rfl trivial (enters_of Try.func37 (by kernel_rfl) rfl)
              (pairs1_in Fence.wide 7 trivial rfl (by omega) w w2 (W.heap.size + 1 + 1) (W.heap.size + 1 + 1 + 1) (w.heap.size + 1) A nA gA ln c nn nc gn gc s l d nf hbr2.old (by omega) hlb hdb (by omega) (by omega) HL.out HSRC0.out (validB_ok hvd) (Nat.le_trans (validB_len hvd) k2)
                (fun x hx => by have := List.all_eq_true.1 HLEN.out x hx; simpa using this)) (fun h k => h.trans k) (fun W l o o' hl h h1 h2 => KpB.book W l o o' hl h h1 h2) (Below.refl _ _) (fun _ => rfl)
              (fun pre Z => BrW w s1 s2 i1 i2 (.slice fA nf fc) (.slice (some ⟨xb, off, none⟩) nd dc) Z (pre.foldl (bstep (q : Int)) (bdeps l ds q)) ∧ Blk Z W.heap.size 3 #[.int .i64 q] ∧ Marks (w.heap.size + 5) Z Ds ∧ w2.heap.size ≤ Z.heap.size)
              (fun cd pre Z => cd = .exit 2 ∧ BrW w s1 s2 i1 i2 (.slice fA nf fc) (.slice (some ⟨xb, off, none⟩) nd dc) Z (pre.foldl (bstep (q : Int)) (bdeps l ds q)) ∧ Marks (w.heap.size + 5) Z Ds ∧ (pre.foldl (bstep (q : Int)) (bdeps l ds q)).a = 0 ∧ (pre.foldl (bstep (q : Int)) (bdeps l ds q)).b = 1 ∧ (pre.foldl (bstep (q : Int)) (bdeps l ds q)).ok = true)
              (fun s X Y row hs hg hr => ⟨hs.1.grown hg (fun r e => by have := (hr r e).1; omega), hs.2.1.grown hg (fun e => by have := (hr _ e.symm).1; omega), hs.2.2.1.grown hg (fun r e hD => by have := (hr r e).1; have := hDs r hD; omega), Nat.le_trans hs.2.2.2 hg.size⟩)
              (fun cd s X Y row hs hg hr => ⟨hs.1, hs.2.1.grown hg (fun r e => by have := (hr r e).1; omega), hs.2.2.1.grown hg (fun r e hD => by have := (hr r e).1; have := hDs r hD; omega), hs.2.2.2⟩)
              ⟨hbr2, hib, hmk2, Nat.le_refl _⟩
              (fun x a' Z => ∃ Bx, w2.heap.size ≤ Bx ∧ Blk Z Bx 68 #[.int .i64 x.1, .int .i64 x.2] ∧ a' = { tmps := #[u 0, .slice A ln c, .pointer (some ⟨w.heap.size, 0, none⟩), u 3, .pointer (some ⟨w.heap.size + 1, 0, none⟩), .pointer (some ⟨w.heap.size + 1 + 1, 0, none⟩), .pointer (some ⟨w.heap.size + 1 + 1 + 1, 0, none⟩), .pointer (some ⟨w.heap.size + 1 + 1 + 1 + 1, 0, none⟩), u 8, u 9, u 10, u 11, .pointer (some ⟨W.heap.size, 0, none⟩), .pointer (some ⟨W.heap.size + 1, 0, none⟩), .pointer (some ⟨Bx, 0, none⟩), u 15, u 16, u 17, u 18, u 19, u 20, u 21, u 22, u 23, u 24, u 25, u 26, u 27, u 28, u 29, u 30, u 31, u 32, u 33, u 34, .slice (some ⟨xb, off, none⟩) nd dc, .int .i64 nd, .int .i64 q, .bool true, .int .i64 q, .pointer (some ⟨xb, off + q * 4, none⟩), .agg #[.slice nA nn nc, .string s, .slice gA gn gc, .int .i64 d.dst], .slice A ln c, .agg #[.slice nA nn nc, .string s, .slice gA gn gc, .int .i64 d.dst], .func (.func 37) #[] #[.pointer (some ⟨W.heap.size + 1 + 1, 0, none⟩), .pointer (some ⟨W.heap.size + 1 + 1 + 1, 0, none⟩)], .agg #[.int .i64 x.1, .int .i64 x.2], u 46, u 47, u 48, u 49, u 50, u 51, u 52, u 53, u 54, u 55, u 56, u 57, u 58, u 59, u 60, u 61, u 62, u 63, u 64, u 65, u 66, u 67, u 68, u 69, u 70, u 71, u 72, u 73, u 74, u 75, u 76, u 77, u 78, u 79, u 80, u 81], defers := [] })
              (fun x a' s X Y row hs hg hr => by
                obtain ⟨Bx, hB, hb, ha⟩ := hs
                exact ⟨Bx, hB, hb.grown hg (fun e => by obtain ⟨_, o, ho, hc⟩ := hr _ e.symm; rw [show X.heap[Bx]? = _ from hb] at ho; cases ho; cases hc), ha⟩) ?assign ?body ?done ?stop
            case assign =>
              rintro lp pre x Z K ⟨hbz, hiz, hmz, hzz⟩ hK
              dsimp only [pairV]
              have HKK := Lib.hid hK
              clear hK
              gi_wp2
              exact HKK.out _ _ ((KeepsOthers.alloc _ _).from _) (KpB.alloc _ _ _ _ hzz) ⟨hbz.grown (World.grownBy_alloc _ _ none) (fun r e => by cases e), hiz.alloc _, hmz.grown (World.grownBy_alloc _ _ none) (fun r e => by cases e), Nat.le_trans hzz (by simp)⟩ ⟨Z.heap.size, hzz, Blk.new _ _ _, rfl⟩
            case body =>
              rintro lp pre x a' Z hlp ⟨rr, hrr⟩ ⟨hbz, hiz, hmz, hzz⟩ ⟨Bx, hBx, hbx, rfl⟩ hlt2
              obtain ⟨x1, x2⟩ := x
              obtain ⟨st, hst⟩ : ∃ st, pre.foldl (bstep (q : Int)) (bdeps l ds q) = st := ⟨_, rfl⟩
              have hfold : (pre ++ [(x1, x2)]).foldl (bstep (q : Int)) (bdeps l ds q) = bstep (q : Int) st (x1, x2) := by rw [List.foldl_append, hst]; rfl
              rw [hst] at hbz
              have ca := hbz.ba.cell 0
              have cb' := hbz.bb.cell 0
              have cd := hbz.bd.cell 0
              have ck := hbz.bk.cell 0
              have ci := hiz.cell 0
              have cx0 := hbx.cell 0
              have cx1 := hbx.cell 1
              have fa := hbz.ba.frozen 0
              have fb := hbz.bb.frozen 0
              have fd := hbz.bd.frozen 0
              have fk := hbz.bk.frozen 0
              simp only [List.getElem?_toArray, List.getElem?_cons_zero, List.getElem?_cons_succ] at ca cb' cd ck ci cx0 cx1
              have HBZ := Lib.hid hbz
              have HIZ := Lib.hid hiz
              have HMZ := Lib.hid hmz
              have HFOLD := Lib.hid hfold
              obtain ⟨sta, stb, std, stk⟩ := st
              dsimp only at ca cb' cd ck
              have n1 : Bx ≠ w.heap.size + 1 := by omega
              clear hbz hiz hmz hst hfold hrr hbx HBR2 HMK HG HJ hK hib hlb hdb hbW hbr2 hmk2 e0 e1 e2 e3
              have hmix : Try.prog.follows .mixedOrders = true := by kernel_rfl
              obtain ⟨up, hup⟩ : ∃ up : Bool, (!stk || decide (x1 < sta) || (x1 == sta && decide (x2 < stb))) = up := ⟨_, rfl⟩
              have HUP := Lib.hid hup
              clear hup
              obtain ⟨P4, hP4⟩ : ∃ v : Value, v = .pointer (some ⟨w.heap.size + 1, 0, none⟩) := ⟨_, rfl⟩
              refine wpIn_block ?_
              refine wpIn_seq ?_
              refine wpIn_mono (Q := fun e a' Z' => e = .normal ∧ (∃ b, RdFr (.pointer (some ⟨w.heap.size + 1, 0, none⟩)) (.pointer (some ⟨w.heap.size + 1 + 1, 0, none⟩)) (.pointer (some ⟨w.heap.size + 1 + 1 + 1, 0, none⟩)) (.pointer (some ⟨w.heap.size + 1 + 1 + 1 + 1, 0, none⟩)) (.pointer (some ⟨W.heap.size, 0, none⟩)) (.pointer (some ⟨Bx, 0, none⟩)) b a'.tmps) ∧ a'.defers = [] ∧
                Z' = if up then ((((Z.setCell ⟨w.heap.size + 1, 0, none⟩ (.int .i64 x1)).setCell ⟨w.heap.size + 1 + 1, 0, none⟩ (.int .i64 x2)).setCell ⟨w.heap.size + 1 + 1 + 1, 0, none⟩ (.int .i64 q)).setCell ⟨w.heap.size + 1 + 1 + 1 + 1, 0, none⟩ (.bool true)).drew else Z) ?first ?second
              case first =>
                refine wpIn_seq ?_
                refine wpIn_mono (Q := fun e a' Z' => e = .normal ∧ RdFr (.pointer (some ⟨w.heap.size + 1, 0, none⟩)) (.pointer (some ⟨w.heap.size + 1 + 1, 0, none⟩)) (.pointer (some ⟨w.heap.size + 1 + 1 + 1, 0, none⟩)) (.pointer (some ⟨w.heap.size + 1 + 1 + 1 + 1, 0, none⟩)) (.pointer (some ⟨W.heap.size, 0, none⟩)) (.pointer (some ⟨Bx, 0, none⟩)) (.bool up) a'.tmps ∧ a'.defers = [] ∧ Z' = Z) ?_ ?_
                · cases stk
                  · obtain rfl : true = up := HUP.out
                    gi_wp2
                    exact ⟨rfl, rfl, rfl, rfl, rfl, rfl, rfl, rfl⟩
                  · gi_wp2
                    · refine ⟨rfl, rfl, rfl, rfl, rfl, rfl, rfl, ?_⟩
                      have h1 : x1 = sta := by assumption
                      have h2 := HUP.out
                      rw [← h2, h1]
                      simp
                    · refine ⟨rfl, rfl, rfl, rfl, rfl, rfl, rfl, ?_⟩
                      have h1 : ¬ x1 = sta := by assumption
                      have h2 := HUP.out
                      rw [← h2]
                      simp [h1]
                    · refine ⟨rfl, rfl, rfl, rfl, rfl, rfl, rfl, ?_⟩
                      have h1 : x1 < sta := by assumption
                      have h2 := HUP.out
                      rw [← h2]
                      simp [h1]
                · rintro e a' Z' ⟨rfl, hfr, hdf, rfl⟩
                  obtain ⟨at', ad'⟩ := a'
                  obtain ⟨u', rfl⟩ := hfr.form
                  obtain rfl : ad' = [] := hdf
                  unfold rdFr
                  cases up
                  · gi_wp2
                    exact ⟨_, rfl, rfl, rfl, rfl, rfl, rfl, rfl, rfl⟩
                  · gi_wp2
                    gi_region_o
                    all_goals first
                      | exact ⟨rfl, ⟨_, rfl, rfl, rfl, rfl, rfl, rfl, rfl, rfl⟩, rfl, rfl⟩
                      | exact ⟨_, rfl, rfl, rfl, rfl, rfl, rfl, rfl, rfl⟩
              case second =>
                rintro e a' Z' ⟨rfl, ⟨b, hfr⟩, hdf, rfl⟩
                obtain ⟨at', ad'⟩ := a'
                obtain ⟨u', rfl⟩ := hfr.form
                obtain rfl : ad' = [] := hdf
                unfold rdFr
                have hbzf : BrW w s1 s2 i1 i2 (.slice fA nf fc) (.slice (some ⟨xb, off, none⟩) nd dc) (if up then ((((Z.setCell ⟨w.heap.size + 1, 0, none⟩ (.int .i64 x1)).setCell ⟨w.heap.size + 1 + 1, 0, none⟩ (.int .i64 x2)).setCell ⟨w.heap.size + 1 + 1 + 1, 0, none⟩ (.int .i64 q)).setCell ⟨w.heap.size + 1 + 1 + 1 + 1, 0, none⟩ (.bool true)).drew else Z) (bstep (q : Int) ⟨sta, stb, std, stk⟩ (x1, x2)) := by
                  have h2 := HUP.out
                  cases up
                  · have : bstep (q : Int) ⟨sta, stb, std, stk⟩ (x1, x2) = ⟨sta, stb, std, stk⟩ := by unfold bstep; rw [if_neg]; simpa using h2
                    rw [this]; exact HBZ.out
                  · have : bstep (q : Int) ⟨sta, stb, std, stk⟩ (x1, x2) = ⟨x1, x2, q, true⟩ := by unfold bstep; rw [if_pos]; simpa using h2
                    rw [this]; exact (HBZ.out.setAll x1 x2 q true).drew
                have hkz : KpB (w.heap.size + 1) w2.heap.size Z (if up then ((((Z.setCell ⟨w.heap.size + 1, 0, none⟩ (.int .i64 x1)).setCell ⟨w.heap.size + 1 + 1, 0, none⟩ (.int .i64 x2)).setCell ⟨w.heap.size + 1 + 1 + 1, 0, none⟩ (.int .i64 q)).setCell ⟨w.heap.size + 1 + 1 + 1 + 1, 0, none⟩ (.bool true)).drew else Z) := by
                  cases up
                  · exact KpB.refl _ _ _
                  · exact ((((KpB.setCell _ _ _ (by simp <;> omega) (by simp <;> omega) (by omega)).trans (KpB.setCell _ _ _ (by simp <;> omega) (by simp <;> omega) (by omega))).trans (KpB.setCell _ _ _ (by simp <;> omega) (by simp <;> omega) (by omega))).trans (KpB.setCell _ _ _ (by simp <;> omega) (by simp <;> omega) (by omega))).drew
                have hoz : KeepsOthers Z (if up then ((((Z.setCell ⟨w.heap.size + 1, 0, none⟩ (.int .i64 x1)).setCell ⟨w.heap.size + 1 + 1, 0, none⟩ (.int .i64 x2)).setCell ⟨w.heap.size + 1 + 1 + 1, 0, none⟩ (.int .i64 q)).setCell ⟨w.heap.size + 1 + 1 + 1 + 1, 0, none⟩ (.bool true)).drew else Z) := by
                  cases up
                  · exact KeepsOthers.refl _
                  · exact ((((KeepsOthers.setCell _ _ _).trans (KeepsOthers.setCell _ _ _)).trans (KeepsOthers.setCell _ _ _)).trans (KeepsOthers.setCell _ _ _)).trans (KeepsOthers.drew _)
                obtain ⟨Zf, hZf⟩ : ∃ Zf, (if up then ((((Z.setCell ⟨w.heap.size + 1, 0, none⟩ (.int .i64 x1)).setCell ⟨w.heap.size + 1 + 1, 0, none⟩ (.int .i64 x2)).setCell ⟨w.heap.size + 1 + 1 + 1, 0, none⟩ (.int .i64 q)).setCell ⟨w.heap.size + 1 + 1 + 1 + 1, 0, none⟩ (.bool true)).drew else Z) = Zf := ⟨_, rfl⟩
                rw [hZf] at hbzf hkz hoz ⊢
                clear hZf HUP ca cb' cd ck ci cx0 cx1 fa fb fd fk
                obtain ⟨s', hs'⟩ : ∃ s', bstep (q : Int) ⟨sta, stb, std, stk⟩ (x1, x2) = s' := ⟨_, rfl⟩
                have hok' : s'.ok = true := by rw [← hs']; exact bstep_ok _ _ _
                rw [hs'] at hbzf
                have HF : Hid ((pre ++ [(x1, x2)]).foldl (bstep (q : Int)) (bdeps l ds q) = s') := by
                  show _ = _
                  rw [HFOLD.out, hs']
                clear hs' HFOLD HBZ
                have hmzf : Marks (w.heap.size + 5) Zf Ds := ⟨HMZ.out.nodup, fun D hD => ⟨(HMZ.out.at_ D hD).1, hoz.same D _ (HMZ.out.at_ D hD).2 rfl⟩⟩
                have hizf : Blk Zf W.heap.size 3 #[.int .i64 q] := hkz.blk HIZ.out (by omega) (by omega)
                have ca := hbzf.ba.cell 0
                have cb' := hbzf.bb.cell 0
                simp only [List.getElem?_toArray, List.getElem?_cons_zero] at ca cb'
                have HBZ := Lib.hid hbzf
                have HKZ := Lib.hid hkz
                have HOZ := Lib.hid hoz
                have HMF := Lib.hid hmzf
                have HIF := Lib.hid hizf
                have HOK' := Lib.hid hok'
                clear hbzf hkz hoz hmzf hizf hok'
                by_cases hstop : s'.a = 0 ∧ s'.b = 1
                · have t1 : (s'.a == 0) = true := by rw [hstop.1]; rfl
                  have t2 : (s'.b == 1) = true := by rw [hstop.2]; rfl
                  have HST := Lib.hid hstop
                  clear hstop
                  gi_wp2
                  exact ⟨HOZ.out.from _, rfl, by rw [HF.out]; exact HBZ.out, HMF.out, by rw [HF.out]; exact HST.out.1, by rw [HF.out]; exact HST.out.2, by rw [HF.out]; exact HOK'.out⟩
                · have HST := Lib.hid hstop
                  by_cases t0 : s'.a = 0
                  · have t1 : (s'.a == 0) = true := by rw [t0]; rfl
                    have t2 : (s'.b == 1) = false := by rw [beq_eq_false_iff_ne]; exact fun e => hstop ⟨t0, e⟩
                    clear hstop t0
                    gi_wp2
                    exact ⟨HOZ.out.from _, HKZ.out, by rw [HF.out]; exact HBZ.out, HIF.out, HMF.out, Nat.le_trans hzz HOZ.out.size⟩
                  · have t1 : (s'.a == 0) = false := by rw [beq_eq_false_iff_ne]; exact t0
                    clear hstop t0
                    gi_wp2
                    exact ⟨HOZ.out.from _, HKZ.out, by rw [HF.out]; exact HBZ.out, HIF.out, HMF.out, Nat.le_trans hzz HOZ.out.size⟩
            case done =>
              rintro D xs Z hD rfl ⟨hbz, hiz, hmz, hzz⟩ hDz
              have hbz' : BrW w s1 s2 i1 i2 (.slice fA nf fc) (.slice (some ⟨xb, off, none⟩) nd dc) Z (bdeps l ds (q + 1)) := by rw [bdeps_succ HDD.out]; exact hbz
              have hmz' : Marks (w.heap.size + 5) Z (D :: Ds) := ⟨List.nodup_cons.2 ⟨fun h => by have := hDs D h; omega, hmz.nodup⟩, fun D' h => by
                rcases List.mem_cons.1 h with rfl | h
                · exact ⟨by omega, hDz⟩
                · exact hmz.at_ D' h⟩
              have HBZ := Lib.hid hbz'
              have HMZ := Lib.hid hmz'
              clear hbz hiz hmz hDz hbz' hmz' hib hlb hdb hbW hbr2 hmk2 e0 e1 e2 e3
              go_wp2_with fail
              refine Handed.intro (nd - (q + 1)) (by have := HG.out; omega) (HJ.out _ _ _ ?_)
              exact ⟨q + 1, D :: Ds, _, ⟨by omega, rfl, HBZ.out, HMZ.out⟩, congrArg (fun t => Act.mk t ((D :: Ds).map mark)) (Exists.choose_spec (brFr_of A ln c w.heap.size (some ⟨xb, off, none⟩) nd dc (q + 1) _ rfl rfl rfl rfl rfl rfl rfl rfl rfl rfl))⟩
            case stop =>
              rintro D cd pre Z hD hpre ⟨rfl, hbz, hmz, sa, sb, sk⟩ hDz
              have hse := bdeps_early HDD.out hpre sa sb sk
              rw [hse] at hbz
              have hmz' : Marks (w.heap.size + 5) Z (D :: Ds) := ⟨List.nodup_cons.2 ⟨fun h => by have := hDs D h; omega, hmz.nodup⟩, fun D' h => by
                rcases List.mem_cons.1 h with rfl | h
                · exact ⟨by omega, hDz⟩
                · exact hmz.at_ D' h⟩
              clear HBR2 HMK
              have HBR2 := Lib.hid hbz
              have HMK := Lib.hid hmz'
              clear hbz hmz hDz hmz' hib hlb hdb hbW hbr2 hmk2 e0 e1 e2 e3 sa sb sk hse hpre
              have ca := HBR2.out.ba.cell 0
              have cb' := HBR2.out.bb.cell 0
              have cd := HBR2.out.bd.cell 0
              have ck := HBR2.out.bk.cell 0
              have fa := HBR2.out.ba.frozen 0
              have fb := HBR2.out.bb.frozen 0
              have fd := HBR2.out.bd.frozen 0
              have fk := HBR2.out.bk.frozen 0
              simp only [List.getElem?_toArray, List.getElem?_cons_zero] at ca cb' cd ck
              have hqe : bdeps l ds ds.length = brokenS nf ds l := by
                simp only [brokenS, brokenOk, HCB.out, HLEN.out]; rfl
              have HQE := Lib.hid hqe
              have HOK : Hid (brokenOk nf ds l = true) := by show _ = _; simp [brokenOk, HCB.out, HLEN.out]
              clear hqe
              refine wpIn_wide.2 ?_
              go_wp2_with fail
              go_region
              go_wp2_with fail
              rw [Exit.noGoto_ret]
              have hfin := (HBR2.out.setAll (bdeps l ds ds.length).a (bdeps l ds ds.length).b (bdeps l ds ds.length).dep (bdeps l ds ds.length).ok).drew
              have hmfin := ((((HMK.out.put (p := ⟨w.heap.size + 1, 0, none⟩) (by simp <;> omega) (.int .i64 (bdeps l ds ds.length).a)).put (p := ⟨w.heap.size + 1 + 1, 0, none⟩) (by simp <;> omega) (.int .i64 (bdeps l ds ds.length).b)).put (p := ⟨w.heap.size + 1 + 1 + 1, 0, none⟩) (by simp <;> omega) (.int .i64 (bdeps l ds ds.length).dep)).put (p := ⟨w.heap.size + 1 + 1 + 1 + 1, 0, none⟩) (by simp <;> omega) (.bool (bdeps l ds ds.length).ok))
              refine leaves_marks (D :: Ds) _ (hmfin.same (fun k hk => rfl)) ?_
              intro W' h1 h2 h3 h4 h5
              have hf2 := hfin.below (W' := W') (B := w.heap.size + 5) ⟨h1, h2, h3, Nat.le_of_eq h4.symm, h5⟩ (by omega)
              refine ⟨_, hf2.res rfl rfl rfl rfl (e := 0) rfl, ?_⟩
              rw [HOK.out]
              exact ⟨by rw [← HQE.out]; rfl, hf2.old⟩
          · have ca := HBR2.out.ba.cell 0
            have cb' := HBR2.out.bb.cell 0
            have cd := HBR2.out.bd.cell 0
            have ck := HBR2.out.bk.cell 0
            have fa := HBR2.out.ba.frozen 0
            have fb := HBR2.out.bb.frozen 0
            have fd := HBR2.out.bd.frozen 0
            have fk := HBR2.out.bk.frozen 0
            simp only [List.getElem?_toArray, List.getElem?_cons_zero] at ca cb' cd ck
            have hqe : bdeps l ds q = brokenS nf ds l := by
              have h1 := HN.out
              simp only [brokenS, brokenOk, HCB.out, HLEN.out]
              rw [show q = ds.length by omega]; rfl
            have HQE := Lib.hid hqe
            have HOK : Hid (brokenOk nf ds l = true) := by show _ = _; simp [brokenOk, HCB.out, HLEN.out]
            clear hqe
            go_wp2_with fail
            go_region
            go_wp2_with fail
            rw [Exit.noGoto_ret]
            have hfin := (HBR2.out.setAll (bdeps l ds q).a (bdeps l ds q).b (bdeps l ds q).dep (bdeps l ds q).ok).drew
            have hmfin := ((((HMK.out.put (p := ⟨w.heap.size + 1, 0, none⟩) (by simp <;> omega) (.int .i64 (bdeps l ds q).a)).put (p := ⟨w.heap.size + 1 + 1, 0, none⟩) (by simp <;> omega) (.int .i64 (bdeps l ds q).b)).put (p := ⟨w.heap.size + 1 + 1 + 1, 0, none⟩) (by simp <;> omega) (.int .i64 (bdeps l ds q).dep)).put (p := ⟨w.heap.size + 1 + 1 + 1 + 1, 0, none⟩) (by simp <;> omega) (.bool (bdeps l ds q).ok))
            refine leaves_marks Ds _ (hmfin.same (fun k hk => rfl)) ?_
            intro W' h1 h2 h3 h4 h5
            have hf2 := hfin.below (W' := W') (B := w.heap.size + 5) ⟨h1, h2, h3, Nat.le_of_eq h4.symm, h5⟩ (by omega)
            refine ⟨_, hf2.res rfl rfl rfl rfl (e := 0) rfl, ?_⟩
            rw [HOK.out]
            exact ⟨by rw [← HQE.out]; rfl, hf2.old⟩

end Go.Proofs.Ytejjggchjoifoaa
