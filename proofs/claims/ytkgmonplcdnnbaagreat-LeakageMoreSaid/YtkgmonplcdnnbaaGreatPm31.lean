/- Contract of package types: purposeOK. Written by genty.py. -/
import Derived.Test.YtkgmonplcdnnbaaGreatPm30
import Derived.Test.YtkgmonplcdnnbaaGreatPm14
import Derived.Deep.RegionHeld3
import Derived.Test.YtkgmonplcdnnbaaGreatPm08
import Derived.Test.YtkgmonplcdnnbaaGreatPm09
import Derived.Test.YtkgmonplcdnnbaaGreatPm16
namespace Go.Proofs.YtkgmonplcdnnbaaGreat
open Go.RowKit Go.Shelf
attribute [local go_sem] Oper.semAt_some
def w4V (a b c d : Int) : Array Value := #[.int .i64 a, .int .i64 b, .int .i64 c, .int .i64 d]
def sumI (g : QField → Int) (l : List QField) : Int := l.foldl (fun s x => s + g x) 0
theorem sumI_snoc (g : QField → Int) (l : List QField) (x : QField) : sumI g (l ++ [x]) = sumI g l + g x := by simp [sumI, List.foldl_append]
theorem foldl_bound (g : QField → Int) : ∀ (l : List QField) (s : Int), (∀ x ∈ l, 0 ≤ g x ∧ g x ≤ 9) → s ≤ l.foldl (fun s x => s + g x) s ∧ l.foldl (fun s x => s + g x) s ≤ s + 9 * l.length
 | [], s, _ => by simp
 |
  x :: l, s, h => by
  have h1 := h x (by simp)
  have h2 := foldl_bound g l (s + g x) (fun y hy => h y (by simp [hy]))
  simp only [List.foldl_cons, List.length_cons]
  omega
theorem sumI_bound (g : QField → Int) (l : List QField) (h : ∀ x ∈ l, 0 ≤ g x ∧ g x ≤ 9) : 0 ≤ sumI g l ∧ sumI g l ≤ 9 * l.length := by
 have := foldl_bound g l 0 h
 unfold sumI
 omega
def pickF (fs : List QField) (L : List Int) : List QField := L.filterMap fun f => fs[f.toNat]?
def fieldsV (fs : List QField) (L : List Int) : Array Value := w4V (1 + sumI (·.w0) (pickF fs L)) (sumI (·.w1) (pickF fs L)) (sumI (·.w2) (pickF fs L)) (sumI (·.w3) (pickF fs L))
theorem pick_sel {fs : List QField} : ∀ (xs : List (Sel fs)), pickF fs (xs.map (·.f)) = xs.map Sel.x
 | [] => rfl
 |
  x :: xs => by
  have ih := pick_sel xs
  unfold pickF at ih ⊢
  simp [x.hx, ih]
def accAt (a b c d : Int) (x : QField) : Nat → Array Value
 | 0 => w4V a b c d
 | 1 => w4V (a + x.w0) b c d
 | 2 => w4V (a + x.w0) (b + x.w1) c d
 | 3 => w4V (a + x.w0) (b + x.w1) (c + x.w2) d
 | _ => w4V (a + x.w0) (b + x.w1) (c + x.w2) (d + x.w3)
theorem ptOf_ints {W : World} {r t : Nat} {a b c d : Int} (h : Blk W r t (w4V a b c d)) : ptOf r W = none := by
 have := h.cell 0
 unfold ptOf
 simp only [w4V, List.getElem?_toArray, List.getElem?_cons_zero] at this
 simp [this, Value.ownBlock]
theorem KpE.set {r0 : Nat} {W : World} {t i : Nat} {a b c d a' b' c' d' : Int} {u : Value} (h : Blk W r0 t (w4V a b c d)) (h' : Blk (W.setCell ⟨r0, i, none⟩ u) r0 t (w4V a' b' c' d')) : KpE r0 W (W.setCell ⟨r0, i, none⟩ u) :=
 ⟨by simp [World.setCell], fun q cs t fz hq hne _ => Below.heap_setCell _ _ _ _ hne, .inl ((ptOf_ints h').trans (ptOf_ints h).symm)⟩
structure RdF (r0 : Nat) (a b c d : Int) (x : QField) (j : Nat) (Z Z' : World) : Prop where
 blk : Blk Z' r0 56 (accAt a b c d x j)
 kp : KpE r0 Z Z'
 oth : KeepsOthers Z Z'
 old : Below r0 Z Z'
theorem RdF.put {r0 : Nat} {a b c d : Int} {x : QField} {j : Nat} {Z Z' : World} (h : RdF r0 a b c d x j Z Z') {i : Nat} {u : Value} (h' : Blk (Z'.setCell ⟨r0, i, none⟩ u) r0 56 (accAt a b c d x (j + 1))) : RdF r0 a b c d x (j + 1) Z (Z'.setCell ⟨r0, i, none⟩ u) := by
 refine ⟨h', h.kp.trans ?_, h.oth.trans (KeepsOthers.setCell _ _ _), h.old.setCell (Nat.le_refl _) _⟩
 have hh := h.blk
 unfold accAt at hh h'
 split at hh <;> split at h' <;> first | exact KpE.set hh h' | omega
set_option maxHeartbeats 8000000 in
set_option maxRecDepth 100000 in
theorem Fields_any (s1 s2 : ByteArray) (i1 i2 : Int) (fA dA A : Option Addr) (nf fc nd dc n c : Nat) (fs : List QField) (ds : List Dep) (l : List Int) (w : World)
 (hfd : SlR 11 qFieldR w (.slice fA nf fc) fs) (hs : SlR 4 depR w (.slice dA nd dc) ds) (hl : SlR 1 intR w (.slice A n c) l) (hnf : nf ≤ 1000)
 (hwt : ∀ x ∈ fs, (0 ≤ x.w0 ∧ x.w0 ≤ 9) ∧ (0 ≤ x.w1 ∧ x.w1 ≤ 9) ∧ (0 ≤ x.w2 ∧ x.w2 ≤ 9) ∧ (0 ≤ x.w3 ∧ x.w3 ≤ 9)) :
 Calls Tryz.prog 26 #[.agg #[.string s1, .string s2, .int .i64 i1, .int .i64 i2, .slice fA nf fc, .slice dA nd dc], .slice A n c] w fun e w' => e = .returned (.agg (fieldsV fs (closL nf ds l))) ∧ Below w.heap.size w w' := by
 refine (callsIn_wide (n := 8)).1 ?_
 have hLL : (closL nf ds l).length ≤ nf := by
  unfold closL
  split
  · exact listX_len _ _
  · simp
 have HFD := Lib.hid hfd
 have HS := Lib.hid hs
 have HL := Lib.hid hl
 have HWT := Lib.hid hwt
 have HLL := Lib.hid hLL
 clear hfd hs hl hwt hLL
 refine callsIn_of_wp_marks Tryz.func26 rfl trivial ?_ rfl
 simp only [Tryz.ntmps26, List.size_toArray, List.length_cons, List.length_nil, Nat.reduceAdd, Nat.reduceSub, Array.replicate_succ, Array.replicate_zero, List.push_toArray, List.append_toArray, List.nil_append, List.cons_append]
 refine wpIn_wide.2 ?_
 go_wp2_with (go_at_call 30; refine (determined_any' _ _ _ _ _ _ _ _ _ _ _ _ _ _).mono ?_)
 first | rintro e w2 rfl hw2 | rintro e w2 ⟨rfl, hw2⟩
 have hbW : Below w.heap.size w w2 := by
  rw [hw2]
  exact (((Below.refl _ _).alloc (Nat.le_refl _) _).alloc (by simp) _).alloc (by simp; omega) _ |>.alloc (by simp; omega) _
 have hsz : w2.heap.size = w.heap.size + 4 := by rw [hw2]; simp
 have hr0 : Blk w2 (w.heap.size + 1) 56 (w4V 1 0 0 0) := by
  rw [hw2]
  have := Blk.new (w.alloc (.cells #[.string s1, .string s2, .int .i64 i1, .int .i64 i2, .slice fA nf fc, .slice dA nd dc] 52)) 56 #[.int .i64 1, .int .i64 0, .int .i64 0, .int .i64 0]
  rw [World.size_alloc] at this
  exact (this.alloc _).alloc _
 have hbs : Blk w2 (w.heap.size + 1 + 1) 52 #[.string s1, .string s2, .int .i64 i1, .int .i64 i2, .slice fA nf fc, .slice dA nd dc] := by
  rw [hw2]
  have := Blk.new ((w.alloc (.cells #[.string s1, .string s2, .int .i64 i1, .int .i64 i2, .slice fA nf fc, .slice dA nd dc] 52)).alloc (.cells #[.int .i64 1, .int .i64 0, .int .i64 0, .int .i64 0] 56)) 52 #[.string s1, .string s2, .int .i64 i1, .int .i64 i2, .slice fA nf fc, .slice dA nd dc]
  rw [World.size_alloc, World.size_alloc] at this
  exact this.alloc _
 have hbf : Blk w2 (w.heap.size + 1 + 1 + 1) 30 #[.slice A n c] := by
  rw [hw2]
  have := Blk.new (((w.alloc (.cells #[.string s1, .string s2, .int .i64 i1, .int .i64 i2, .slice fA nf fc, .slice dA nd dc] 52)).alloc (.cells #[.int .i64 1, .int .i64 0, .int .i64 0, .int .i64 0] 56)).alloc (.cells #[.string s1, .string s2, .int .i64 i1, .int .i64 i2, .slice fA nf fc, .slice dA nd dc] 52)) 30 #[.slice A n c]
  rw [World.size_alloc, World.size_alloc, World.size_alloc] at this
  exact this
 clear hw2
 go_wp2_with fail
 refine (wpIn_wide (n := 8)).1 ?_
 refine wpIn_rangeFunc_ownH (F := Fence.wide) rfl (by omega) (gf := 39) (lb := #[.pointer (some ⟨w.heap.size + 1 + 1, 0, none⟩), .pointer (some ⟨w.heap.size + 1 + 1 + 1, 0, none⟩)]) rfl trivial (enters_of Tryz.func39 (by kernel_rfl) rfl)
  (det1_in 7 (w.heap.size + 1) (w.heap.size + 1 + 1) (w.heap.size + 1 + 1 + 1) w w2 s1 s2 i1 i2 fA dA A nf fc nd dc n c fs ds l hbW hbs hbf (by omega) (by omega) (by omega) (ptOf_ints hr0) HFD.out HS.out HL.out)
  (fun h k => h.trans k) (fun W q o o' hq h h1 _ => KpE.book W q o o' (by omega) h h1) (Below.refl _ _) (fun _ => rfl)
  (fun pre Z => Blk Z (w.heap.size + 1) 56 (w4V (1 + sumI (·.w0) (pre.map Sel.x)) (sumI (·.w1) (pre.map Sel.x)) (sumI (·.w2) (pre.map Sel.x)) (sumI (·.w3) (pre.map Sel.x))) ∧ Below w.heap.size w Z ∧ w2.heap.size ≤ Z.heap.size)
  (fun _ _ _ => False)
  (fun s X Y row hs hg hr => ⟨hs.1.grown hg (fun e => by have := (hr _ e.symm).1; omega), hs.2.1.grown hg (by have := hs.2.2; omega) (fun r e => by have := (hr r e).1; omega), Nat.le_trans hs.2.2 hg.size⟩)
  (fun cd s X Y row hs hg hr => hs.elim)
  ⟨hr0, hbW, Nat.le_refl _⟩
  (fun x a' Z => ∃ Bx, w2.heap.size ≤ Bx ∧ Blk Z Bx 58 #[.string x.x.name, .int .i64 x.x.type.kind, .int .i64 x.x.type.lo, .int .i64 x.x.type.hi, .string x.x.type.of_, .int .i64 x.x.type.unit, .slice x.vA x.vn x.vc, .int .i64 x.x.w0, .int .i64 x.x.w1, .int .i64 x.x.w2, .int .i64 x.x.w3] ∧ a' = { tmps := #[.agg #[.string s1, .string s2, .int .i64 i1, .int .i64 i2, .slice fA nf fc, .slice dA nd dc], .slice A n c, .pointer (some ⟨w.heap.size, 0, none⟩), undef, .pointer (some ⟨w.heap.size + 1, 0, none⟩), undef, .pointer (some ⟨Bx, 0, none⟩), undef, undef, .pointer (some ⟨w.heap.size + 1, 0, none⟩), .agg #[.string s1, .string s2, .int .i64 i1, .int .i64 i2, .slice fA nf fc, .slice dA nd dc], .slice A n c, .func (.func 39) #[] #[.pointer (some ⟨w.heap.size + 1 + 1, 0, none⟩), .pointer (some ⟨w.heap.size + 1 + 1 + 1, 0, none⟩)], .int .i64 x.f, fieldV (.slice x.vA x.vn x.vc) x.x, undef, undef, undef, undef, undef, undef, undef, undef, undef, undef, undef, undef, undef, undef], defers := [] })
  (fun x a' s X Y row hs hg hr => by
   obtain ⟨Bx, hB, hb, ha⟩ := hs
   exact ⟨Bx, hB, hb.grown hg (fun e => by obtain ⟨_, o, ho, hc⟩ := hr _ e.symm; rw [show X.heap[Bx]? = _ from hb] at ho; cases ho; cases hc), ha⟩) ?assign ?body ?done ?stop
 case assign =>
  rintro lp pre x Z K ⟨hbz, hiz, hzz⟩ hK
  dsimp only [detV, fieldV]
  have HKK := Lib.hid hK
  clear hK
  gi_wp2
  exact HKK.out _ _ ((KeepsOthers.alloc _ _).from _) (KpE.alloc _ _ (by omega)) ⟨hbz.alloc _, hiz.alloc (by omega) _, Nat.le_trans hzz (by simp)⟩ ⟨Z.heap.size, hzz, Blk.new _ _ _, rfl⟩
 case body =>
  rintro lp pre x a' Z hlp ⟨rr, hrr⟩ ⟨hbz, hiz, hzz⟩ ⟨Bx, hBx, hbx, rfl⟩ hlt2
  have hxs : ∀ y ∈ pre.map Sel.x, y ∈ fs := fun y hy => by
   obtain ⟨q, _, rfl⟩ := List.mem_map.1 hy
   exact List.mem_of_getElem? q.hx
  have hw0 := HWT.out x.x (List.mem_of_getElem? x.hx)
  have hb0 := sumI_bound (·.w0) (pre.map Sel.x) (fun y hy => (HWT.out y (hxs y hy)).1)
  have hb1 := sumI_bound (·.w1) (pre.map Sel.x) (fun y hy => (HWT.out y (hxs y hy)).2.1)
  have hb2 := sumI_bound (·.w2) (pre.map Sel.x) (fun y hy => (HWT.out y (hxs y hy)).2.2.1)
  have hb3 := sumI_bound (·.w3) (pre.map Sel.x) (fun y hy => (HWT.out y (hxs y hy)).2.2.2)
  rw [List.length_map] at hb0 hb1 hb2 hb3
  have hpl : pre.length ≤ 1000 := by have := HLL.out; omega
  have HSN : Hid (w4V (1 + sumI (·.w0) ((pre ++ [x]).map Sel.x)) (sumI (·.w1) ((pre ++ [x]).map Sel.x)) (sumI (·.w2) ((pre ++ [x]).map Sel.x)) (sumI (·.w3) ((pre ++ [x]).map Sel.x)) = accAt (1 + sumI (·.w0) (pre.map Sel.x)) (sumI (·.w1) (pre.map Sel.x)) (sumI (·.w2) (pre.map Sel.x)) (sumI (·.w3) (pre.map Sel.x)) x.x 4) := Lib.hid (by
   simp only [List.map_append, List.map_cons, List.map_nil, sumI_snoc, accAt, Int.add_assoc])
  obtain ⟨a, ha⟩ : ∃ v, 1 + sumI (·.w0) (pre.map Sel.x) = v := ⟨_, rfl⟩
  obtain ⟨b, hb⟩ : ∃ v, sumI (·.w1) (pre.map Sel.x) = v := ⟨_, rfl⟩
  obtain ⟨c', hc⟩ : ∃ v, sumI (·.w2) (pre.map Sel.x) = v := ⟨_, rfl⟩
  obtain ⟨d, hd⟩ : ∃ v, sumI (·.w3) (pre.map Sel.x) = v := ⟨_, rfl⟩
  have hba : 0 ≤ a ∧ a ≤ 9001 := by omega
  have hbb : 0 ≤ b ∧ b ≤ 9000 := by omega
  have hbc : 0 ≤ c' ∧ c' ≤ 9000 := by omega
  have hbd : 0 ≤ d ∧ d ≤ 9000 := by omega
  rw [ha, hb, hc, hd] at hbz
  rw [ha, hb, hc, hd] at HSN
  clear ha hb hc hd hb0 hb1 hb2 hb3 hxs
  have e7 := hbx.cell 7
  have e8 := hbx.cell 8
  have e9 := hbx.cell 9
  have e10 := hbx.cell 10
  simp only [List.getElem?_toArray, List.getElem?_cons_zero, List.getElem?_cons_succ] at e7 e8 e9 e10
  have HRZ : Hid (RdF (w.heap.size + 1) a b c' d x.x 0 Z Z) := Lib.hid ⟨hbz, KpE.refl _ _, KeepsOthers.refl _, Below.refl _ _⟩
  have HIZ := Lib.hid hiz
  have hZw := hbz.lt
  clear hbz hiz hrr hbx hr0 hbs hbf
  have hi0 : ∀ w : World, (Instr.index 56 (.agg #[.int .i64 x.x.w0, .int .i64 x.x.w1, .int .i64 x.x.w2, .int .i64 x.x.w3]) (.int .i64 0)).run Tryz.prog w = .ok (.int .i64 x.x.w0) w := fun _ => by kernel_rfl
  have hi1 : ∀ w : World, (Instr.index 56 (.agg #[.int .i64 x.x.w0, .int .i64 x.x.w1, .int .i64 x.x.w2, .int .i64 x.x.w3]) (.int .i64 1)).run Tryz.prog w = .ok (.int .i64 x.x.w1) w := fun _ => by kernel_rfl
  have hi2 : ∀ w : World, (Instr.index 56 (.agg #[.int .i64 x.x.w0, .int .i64 x.x.w1, .int .i64 x.x.w2, .int .i64 x.x.w3]) (.int .i64 2)).run Tryz.prog w = .ok (.int .i64 x.x.w2) w := fun _ => by kernel_rfl
  have hi3 : ∀ w : World, (Instr.index 56 (.agg #[.int .i64 x.x.w0, .int .i64 x.x.w1, .int .i64 x.x.w2, .int .i64 x.x.w3]) (.int .i64 3)).run Tryz.prog w = .ok (.int .i64 x.x.w3) w := fun _ => by kernel_rfl
  dsimp only [fieldV]
  gi_wp2
  gi_loopg [17] 4 (fun q i wq => ∃ j : Nat, j ≤ 4 ∧ q = 4 - j ∧ i = .int .i64 j ∧ RdF (w.heap.size + 1) a b c' d x.x j Z wq)
  case atStart => exact ⟨0, Nat.zero_le _, rfl, rfl, HRZ.out⟩
  case round =>
   clear HRZ
   obtain ⟨j, hj, hq, rfl, hrd⟩ := hrel
   obtain ⟨wq, rfl⟩ : ∃ q, q = wr := ⟨_, rfl⟩
   obtain ⟨Z2, rfl⟩ : ∃ q, q = Z := ⟨_, rfl⟩
   have HQ := Lib.hid hq
   have HRD := Lib.hid hrd
   clear hq hrd
   by_cases hj4 : j < 4
   ·
    obtain h0 | h0 | h0 | h0 : j = 0 ∨ j = 1 ∨ j = 2 ∨ j = 3 := by omega
    ·
     subst h0
     have kr := HRD.out.blk
     dsimp only [accAt, w4V] at kr
     have c0 := kr.cell 0
     have c1 := kr.cell 1
     have c2 := kr.cell 2
     have c3 := kr.cell 3
     have fz := kr.frozen 0
     simp only [List.getElem?_toArray, List.getElem?_cons_zero, List.getElem?_cons_succ] at c0 c1 c2 c3
     have HP : Hid (RdF (w.heap.size + 1) a b c' d x.x (0 + 1) Z2 (wq.setCell ⟨w.heap.size + 1, 0, none⟩ (.int .i64 (a + x.x.w0)))) := Lib.hid (HRD.out.put (kr.put 0 _))
     clear kr
     gi_wp2
     go_roundg (4 - (0 + 1))
     case measure => have := HQ.out; omega
     case rel => exact ⟨0 + 1, by omega, rfl, by go_num, HP.out⟩
    ·
     subst h0
     have kr := HRD.out.blk
     dsimp only [accAt, w4V] at kr
     have c0 := kr.cell 0
     have c1 := kr.cell 1
     have c2 := kr.cell 2
     have c3 := kr.cell 3
     have fz := kr.frozen 1
     simp only [List.getElem?_toArray, List.getElem?_cons_zero, List.getElem?_cons_succ] at c0 c1 c2 c3
     have HP : Hid (RdF (w.heap.size + 1) a b c' d x.x (1 + 1) Z2 (wq.setCell ⟨w.heap.size + 1, 1, none⟩ (.int .i64 (b + x.x.w1)))) := Lib.hid (HRD.out.put (kr.put 1 _))
     clear kr
     gi_wp2
     go_roundg (4 - (1 + 1))
     case measure => have := HQ.out; omega
     case rel => exact ⟨1 + 1, by omega, rfl, by go_num, HP.out⟩
    ·
     subst h0
     have kr := HRD.out.blk
     dsimp only [accAt, w4V] at kr
     have c0 := kr.cell 0
     have c1 := kr.cell 1
     have c2 := kr.cell 2
     have c3 := kr.cell 3
     have fz := kr.frozen 2
     simp only [List.getElem?_toArray, List.getElem?_cons_zero, List.getElem?_cons_succ] at c0 c1 c2 c3
     have HP : Hid (RdF (w.heap.size + 1) a b c' d x.x (2 + 1) Z2 (wq.setCell ⟨w.heap.size + 1, 2, none⟩ (.int .i64 (c' + x.x.w2)))) := Lib.hid (HRD.out.put (kr.put 2 _))
     clear kr
     gi_wp2
     go_roundg (4 - (2 + 1))
     case measure => have := HQ.out; omega
     case rel => exact ⟨2 + 1, by omega, rfl, by go_num, HP.out⟩
    ·
     subst h0
     have kr := HRD.out.blk
     dsimp only [accAt, w4V] at kr
     have c0 := kr.cell 0
     have c1 := kr.cell 1
     have c2 := kr.cell 2
     have c3 := kr.cell 3
     have fz := kr.frozen 3
     simp only [List.getElem?_toArray, List.getElem?_cons_zero, List.getElem?_cons_succ] at c0 c1 c2 c3
     have HP : Hid (RdF (w.heap.size + 1) a b c' d x.x (3 + 1) Z2 (wq.setCell ⟨w.heap.size + 1, 3, none⟩ (.int .i64 (d + x.x.w3)))) := Lib.hid (HRD.out.put (kr.put 3 _))
     clear kr
     gi_wp2
     go_roundg (4 - (3 + 1))
     case measure => have := HQ.out; omega
     case rel => exact ⟨3 + 1, by omega, rfl, by go_num, HP.out⟩
   ·
    obtain rfl : j = 4 := by omega
    gi_wp2
    refine ⟨HRD.out.oth.from _, HRD.out.kp, ?_, HIZ.out.trans (HRD.out.old.mono (by omega)), Nat.le_trans hzz HRD.out.oth.size⟩
    rw [HSN.out]
    exact HRD.out.blk
 case done =>
  rintro D xs W hD hS ⟨hb, hB, hz⟩ hK
  have hpk : pickF fs (closL nf ds l) = xs.map Sel.x := by rw [← hS, pick_sel]
  have HR : Hid (Blk W (w.heap.size + 1) 56 (fieldsV fs (closL nf ds l))) := Lib.hid (by unfold fieldsV; rw [hpk]; exact hb)
  clear hpk hS hb
  have hlt := HR.out.lt
  have kr := HR.out
  unfold fieldsV w4V at kr
  have c0 := kr.cell 0
  have c1 := kr.cell 1
  have c2 := kr.cell 2
  have c3 := kr.cell 3
  have z0 := kr.frozen 0
  have z1 := kr.frozen 1
  have z2 := kr.frozen 2
  have z3 := kr.frozen 3
  simp only [List.getElem?_toArray, List.getElem?_cons_zero, List.getElem?_cons_succ] at c0 c1 c2 c3
  clear kr
  go_wp2_with fail
  have hB4 : Below w.heap.size w ((((W.setCell ⟨w.heap.size + 1, 0, none⟩ (.int .i64 (1 + sumI (·.w0) (pickF fs (closL nf ds l))))).setCell ⟨w.heap.size + 1, 1, none⟩ (.int .i64 (sumI (·.w1) (pickF fs (closL nf ds l))))).setCell ⟨w.heap.size + 1, 2, none⟩ (.int .i64 (sumI (·.w2) (pickF fs (closL nf ds l))))).setCell ⟨w.heap.size + 1, 3, none⟩ (.int .i64 (sumI (·.w3) (pickF fs (closL nf ds l))))) := (((hB.setCell (by simp) _).setCell (by simp) _).setCell (by simp) _).setCell (by simp) _
  have hb4 := (((HR.out.put 0 (.int .i64 (1 + sumI (·.w0) (pickF fs (closL nf ds l))))).put 1 (.int .i64 (sumI (·.w1) (pickF fs (closL nf ds l))))).put 2 (.int .i64 (sumI (·.w2) (pickF fs (closL nf ds l))))).put 3 (.int .i64 (sumI (·.w3) (pickF fs (closL nf ds l))))
  have hD4 : ((((W.setCell ⟨w.heap.size + 1, 0, none⟩ (.int .i64 (1 + sumI (·.w0) (pickF fs (closL nf ds l))))).setCell ⟨w.heap.size + 1, 1, none⟩ (.int .i64 (sumI (·.w1) (pickF fs (closL nf ds l))))).setCell ⟨w.heap.size + 1, 2, none⟩ (.int .i64 (sumI (·.w2) (pickF fs (closL nf ds l))))).setCell ⟨w.heap.size + 1, 3, none⟩ (.int .i64 (sumI (·.w3) (pickF fs (closL nf ds l))))).heap[D]? = some (.deferred (some [])) :=
   (Below.heap_setCell _ _ _ D (by simp; omega)).trans ((Below.heap_setCell _ _ _ D (by simp; omega)).trans ((Below.heap_setCell _ _ _ D (by simp; omega)).trans ((Below.heap_setCell _ _ _ D (by simp; omega)).trans hK)))
  generalize ((((W.setCell ⟨w.heap.size + 1, 0, none⟩ (.int .i64 (1 + sumI (·.w0) (pickF fs (closL nf ds l))))).setCell ⟨w.heap.size + 1, 1, none⟩ (.int .i64 (sumI (·.w1) (pickF fs (closL nf ds l))))).setCell ⟨w.heap.size + 1, 2, none⟩ (.int .i64 (sumI (·.w2) (pickF fs (closL nf ds l))))).setCell ⟨w.heap.size + 1, 3, none⟩ (.int .i64 (sumI (·.w3) (pickF fs (closL nf ds l))))) = W4 at hB4 hb4 hD4 ⊢
  have hb4 : Blk W4 (w.heap.size + 1) 56 (fieldsV fs (closL nf ds l)) := hb4
  refine ⟨by simp, .inl ⟨_, _, rfl, run_takeDeferred hD4, ?_⟩⟩
  have hb5 : Blk (W4.putObj D (.deferred none)) (w.heap.size + 1) 56 (fieldsV fs (closL nf ds l)) := (World.putObj_heap_other (by omega)).trans hb4
  have k0 := hb5.cell 0
  have k1 := hb5.cell 1
  have k2 := hb5.cell 2
  have k3 := hb5.cell 3
  simp only [fieldsV, w4V, List.getElem?_toArray, List.getElem?_cons_zero, List.getElem?_cons_succ] at k0 k1 k2 k3
  exact ⟨_, by simp [results, Tryz.results26, go_sem, k0, k1, k2, k3]; rfl, rfl, hB4.trans (belowK_b (w := w) (Nat.le_refl _) W4 D _ _ (by omega) hD4 rfl rfl)⟩
 case stop =>
  rintro D cd pre W hD hS hf hK
  exact hf.elim
attribute [local go_sem] Oper.semAt_some
def CheckSays (T : Value) (ck : Int) (w : World) : Prop :=
 ∀ W, Below w.heap.size w W → Calls Tryz.prog 23 #[T] W fun e W' => e = .returned (.int .i64 ck) ∧ Below W.heap.size W W'
theorem CheckSays.below {T : Value} {ck : Int} {w w' : World} (h : CheckSays T ck w) (hb : Below w.heap.size w w') : CheckSays T ck w' :=
 fun W hW => h W (hb.trans (hW.mono hb.size))
def wholeE (ck : Int) (ss : List QSchema) (sc : Int) (F : List Int) (nv : Nat) : Int := if ck = 0 then (if fitsP ss sc F nv then 0 else 230) else 160
def wholeL (ck : Int) (ss : List QSchema) (sc : Int) (F : List Int) (nv : Nat) : List Int :=
 if wholeE ck ss sc F nv = 0 then (match ss[sc.toNat]? with | some x => closL x.fields.length (x.deps.map depOf) F | none => []) else []
theorem fitsP_yes {ss : List QSchema} {sc : Int} {F : List Int} {nv : Nat} (h : fitsP ss sc F nv = true) : 0 ≤ sc ∧ sc < ss.length ∧ F.length = nv := by
 simp only [fitsP, Bool.and_eq_true, decide_eq_true_eq] at h
 exact ⟨h.1.1.1, h.1.1.2, h.1.2⟩
theorem closL_len (nf : Nat) (ds : List Dep) (l : List Int) : (closL nf ds l).length ≤ nf := by
 unfold closL
 split
 · exact listX_len _ _
 · simp
set_option maxHeartbeats 8000000 in
set_option maxRecDepth 100000 in
theorem Whole_any (A1 A2 A3 A4 A5 A6 : Option Addr) (n1 c1 n2 c2 n3 c3 n4 c4 n5 c5 n6 c6 : Nat) (A7 FA VA : Option Addr) (n7 c7 nf cf nv cv : Nat) (ss : List QSchema) (sc ck : Int) (F : List Int) (w : World) (hK : CheckSays (.agg #[.slice A1 n1 c1, .slice A2 n2 c2, .slice A3 n3 c3, .slice A4 n4 c4, .slice A5 n5 c5, .slice A6 n6 c6, .slice A7 n7 c7]) ck w) (h3 : SlB 6 96 qSchemaR w (.slice A3 n3 c3) ss) (hF : SlR 1 intR w (.slice FA nf cf) F) (hnv : nv ≤ 9223372036854775807) (hI : ∀ x ∈ ss, ∀ d ∈ x.deps, depI64 d) :
 Calls Tryz.prog 14 #[.agg #[.slice A1 n1 c1, .slice A2 n2 c2, .slice A3 n3 c3, .slice A4 n4 c4, .slice A5 n5 c5, .slice A6 n6 c6, .slice A7 n7 c7], .agg #[.int .i64 sc, .slice FA nf cf, .slice VA nv cv]] w fun e w' => ∃ v, e = .returned (.tuple #[v, .int .i64 (wholeE ck ss sc F nv)]) ∧ w'.ownsRow w.heap.size 3 1 v (wholeL ck ss sc F nv).length ((wholeL ck ss sc F nv).map (Value.int .i64)) ∧ Below w.heap.size w w' := by
 refine (callsIn_wide (n := 8)).1 ?_
 obtain ⟨i0, hi, hz0, hz1, hz2⟩ := info_parts Tryz.infoIntD
 have HI := Lib.hid hi
 have HZ := Lib.hid (And.intro hz0 (And.intro hz1 hz2))
 have HLN := Lib.hid h3.1.len
 have HNF := Lib.hid hF.len
 have HK := Lib.hid hK
 have H3 := Lib.hid h3
 have HF := Lib.hid hF
 have HII := Lib.hid hI
 clear hi hz0 hz1 hz2 hK h3 hF hI
 refine callsIn_of_wp_marks Tryz.func14 rfl trivial ?_ rfl
 simp only [Tryz.ntmps14, List.size_toArray, List.length_cons, List.length_nil, Nat.reduceAdd, Nat.reduceSub, Array.replicate_succ, Array.replicate_zero, List.push_toArray, List.append_toArray, List.nil_append, List.cons_append]
 refine wpIn_wide.2 ?_
 obtain ⟨W0, hW0⟩ : ∃ W0, W0 = (((w.alloc (.cells #[.slice A1 n1 c1, .slice A2 n2 c2, .slice A3 n3 c3, .slice A4 n4 c4, .slice A5 n5 c5, .slice A6 n6 c6, .slice A7 n7 c7] 32)).alloc (.cells #[.int .i64 sc, .slice FA nf cf, .slice VA nv cv] 42)).alloc (.cells #[.slice none 0 0] 30)) := ⟨_, rfl⟩
 have hb0 : Below w.heap.size w W0 := by rw [hW0]; exact (((Below.refl _ _).alloc (Nat.le_refl _) _).alloc (by simp) _).alloc (by simp; omega) _
 have kT : Blk W0 w.heap.size 32 #[.slice A1 n1 c1, .slice A2 n2 c2, .slice A3 n3 c3, .slice A4 n4 c4, .slice A5 n5 c5, .slice A6 n6 c6, .slice A7 n7 c7] := by rw [hW0]; exact ((Blk.new _ _ _).alloc _).alloc _
 have kC : Blk W0 (w.heap.size + 1) 42 #[.int .i64 sc, .slice FA nf cf, .slice VA nv cv] := by rw [hW0]; exact (blkNew (by simp)).alloc _
 have kR : Blk W0 (w.heap.size + 1 + 1) 30 #[.slice none 0 0] := by rw [hW0]; exact blkNew (by simp)
 have hs0 : W0.heap.size = w.heap.size + 3 := by rw [hW0]; simp
 go_wp2_with (go_at_call 23; rw [← hW0]; refine (HK.out _ hb0).mono ?_)
 rintro e w1 ⟨rfl, hb1⟩
 have hb01 := hb0.trans (hb1.mono hb0.size)
 have kT1 := kT.below hb1 kT.lt
 have kC1 := kC.below hb1 kC.lt
 have kR1 := kR.below hb1 kR.lt
 have t0 := kT1.cell 0
 have t1 := kT1.cell 1
 have t2 := kT1.cell 2
 have t3 := kT1.cell 3
 have t4 := kT1.cell 4
 have t5 := kT1.cell 5
 have t6 := kT1.cell 6
 have u0 := kC1.cell 0
 have u1 := kC1.cell 1
 have u2 := kC1.cell 2
 have r0 := kR1.cell 0
 have f0 := kR1.frozen 0
 have lt := kT1.lt
 have lc := kC1.lt
 have lr := kR1.lt
 simp only [List.getElem?_toArray, List.getElem?_cons_zero, List.getElem?_cons_succ] at t0 t1 t2 t3 t4 t5 t6 u0 u1 u2 r0
 have HB1 := Lib.hid hb01
 have HKT := Lib.hid kT1
 have HKC := Lib.hid kC1
 have HKR := Lib.hid kR1
 clear hb0 hb1 hb01 kT kC kR kT1 kC1 kR1 hW0
 by_cases hck : ck = 0
 case neg =>
  have htn : (ck != 0) = true := by simpa using hck
  have HE : Hid (wholeE ck ss sc F nv = 160) := Lib.hid (by rw [wholeE, if_neg hck])
  have HL : Hid (wholeL ck ss sc F nv = []) := Lib.hid (by rw [wholeL, HE.out, if_neg (by decide)])
  clear hck
  go_wp2_with fail
  rw [HE.out, HL.out]
  have kr := (HKR.out.put 0 (.slice none 0 0)).cell 0
  simp at kr
  exact ⟨_, by simp [results, Tryz.results14, go_sem, kr], _, rfl, World.ownsRow_nil _ _ _ _, HB1.out.setCell (by simp; omega) _⟩
 subst hck
 obtain ⟨fb, hfb⟩ : ∃ v, fitsP ss sc F nv = v := ⟨_, rfl⟩
 have HFT : Hid (Calls Tryz.prog 25 #[.agg #[.slice A1 n1 c1, .slice A2 n2 c2, .slice A3 n3 c3, .slice A4 n4 c4, .slice A5 n5 c5, .slice A6 n6 c6, .slice A7 n7 c7], .agg #[.int .i64 sc, .slice FA nf cf, .slice VA nv cv]] w1 fun e w' => e = .returned (.bool fb) ∧ Below w1.heap.size w1 w') := Lib.hid (by
  rw [← hfb]
  exact fits_any A1 A2 A3 A4 A5 A6 n1 c1 n2 c2 n3 c3 n4 c4 n5 c5 n6 c6 A7 FA VA n7 c7 nf cf nv cv ss sc F w1 (H3.out.mono qSchemaR_mono HB1.out).1 (i_of_ints (HF.out.mono intR_mono HB1.out)) hnv)
 have HFB := Lib.hid hfb
 clear hfb
 go_wp2_with (go_at_call 25; refine HFT.out.mono ?_; clear HFT)
 rintro e w2 ⟨rfl, hb2⟩
 cases fb with
 |
  false =>
  have HE : Hid (wholeE 0 ss sc F nv = 230) := Lib.hid (by rw [wholeE, if_pos rfl, HFB.out, if_neg (by decide)])
  have HL : Hid (wholeL 0 ss sc F nv = []) := Lib.hid (by rw [wholeL, HE.out, if_neg (by decide)])
  have kR2 := HKR.out.below hb2 lr
  have r02 := kR2.cell 0
  have f02 := kR2.frozen 0
  have lr2 := kR2.lt
  have HKR2 := Lib.hid kR2
  have HB2 := Lib.hid (HB1.out.trans (hb2.mono HB1.out.size))
  simp only [List.getElem?_toArray, List.getElem?_cons_zero] at r02
  clear hb2 kR2 t0 t1 t2 t3 t4 t5 t6 u0 u1 u2 r0 f0
  go_wp2_with fail
  rw [HE.out, HL.out]
  have kr := (HKR2.out.put 0 (.slice none 0 0)).cell 0
  simp at kr
  exact ⟨_, by simp [results, Tryz.results14, go_sem, kr], _, rfl, World.ownsRow_nil _ _ _ _, HB2.out.setCell (by simp; omega) _⟩
 |
  true =>
  obtain ⟨g0, g1, g2⟩ := fitsP_yes HFB.out
  obtain ⟨k, rfl⟩ : ∃ k : Nat, sc = k := ⟨sc.toNat, by omega⟩
  have hkn : k < n3 := by have := HLN.out; omega
  obtain ⟨b, off, x, B1, m1, d1, B2, m2, d2, hA3, hbl, hx, e0, e1, e2, e3, e4, e5, G1, G2⟩ := qSchema_at H3.out.1 (k := k) hkn
  subst hA3
  have HB2 := Lib.hid (HB1.out.trans (hb2.mono HB1.out.size))
  have hw2 : w.heap.size ≤ w2.heap.size := HB2.out.size
  rw [← HB2.out.cell (p := ⟨b, _, none⟩) hbl] at e0 e1 e2 e3 e4 e5
  have hblw : b < w2.heap.size := Nat.lt_of_lt_of_le hbl hw2
  have HE : Hid (wholeE 0 ss k F nv = 0) := Lib.hid (by rw [wholeE, if_pos rfl, HFB.out, if_pos rfl])
  have HL : Hid (wholeL 0 ss k F nv = closL m1 (x.deps.map depOf) F) := Lib.hid (by rw [wholeL, HE.out, if_pos rfl, Int.toNat_natCast, hx, G1.1.len])
  have HM : Hid (m1 = x.fields.length) := Lib.hid G1.1.len
  have HG1 := Lib.hid G1
  have HG2 := Lib.hid (deps_of_q G2.1 (HII.out x (List.mem_of_getElem? hx)))
  have kT2 := HKT.out.below hb2 lt
  have kC2 := HKC.out.below hb2 lc
  have kR2 := HKR.out.below hb2 lr
  have t2 := kT2.cell 2
  have u0 := kC2.cell 0
  have u1 := kC2.cell 1
  have lt2 := kT2.lt
  have lc2 := kC2.lt
  have lr2 := kR2.lt
  have hk0 : (0 : Int) ≤ (k : Int) := by omega
  have hk1 : (k : Int) < (n3 : Int) := by omega
  simp only [List.getElem?_toArray, List.getElem?_cons_zero, List.getElem?_cons_succ] at t2 u0 u1
  have HKR2 := Lib.hid kR2
  clear kT2 kC2 kR2 hb2 G1 G2 hx t0 t1 t3 t4 t5 t6 u2 r0 f0 lt lc lr g0 g1 g2 HFB HKT HKC HKR
  go_upto_region 5 with fail
  go_region_held3 (fun w' => w'.cell? ⟨w.heap.size, 2, none⟩ = some (.slice (some ⟨b, off, none⟩) n3 c3) ∧ w'.cell? ⟨w.heap.size + 1, 0, none⟩ = some (.int .i64 k) ∧ w'.cell? ⟨w.heap.size + 1, 1, none⟩ = some (.slice FA nf cf) ∧ w'.cell? ⟨b, off + k * 6, none⟩ = some (.string x.name) ∧ w'.cell? ⟨b, off + k * 6 + 1, none⟩ = some (.string x.by_) ∧ w'.cell? ⟨b, off + k * 6 + 2, none⟩ = some (.int .i64 x.issuer) ∧ w'.cell? ⟨b, off + k * 6 + 3, none⟩ = some (.int .i64 x.version) ∧ w'.cell? ⟨b, off + k * 6 + 4, none⟩ = some (.slice B1 m1 d1) ∧ w'.cell? ⟨b, off + k * 6 + 5, none⟩ = some (.slice B2 m2 d2))
   (first | go_keep | exact ⟨t2, u0, u1, e0, e1, e2, e3, e4, e5⟩)
   (first
    | (go_at_call 30; refine (determined_any' _ _ _ _ _ _ _ _ _ _ _ _ _ _).mono ?_; rintro e w3 ⟨rfl, hw3⟩))
  clear hw3
  obtain ⟨w4, hw4⟩ : ∃ w4, w4 = ((w2.alloc (.cells #[.string x.name, .string x.by_, .int .i64 x.issuer, .int .i64 x.version, .slice B1 m1 d1, .slice B2 m2 d2] 52)).alloc (.cells #[.slice FA nf cf] 30)).drew := ⟨_, rfl⟩
  rw [← hw4]
  have hb24 : Below w2.heap.size w2 w4 := by rw [hw4]; exact (((Below.refl _ _).alloc (Nat.le_refl _) _).alloc (by simp) _).drew
  have hb4 : Below w.heap.size w w4 := HB2.out.trans (hb24.mono hw2)
  have hbs : Blk w4 w2.heap.size 52 #[.string x.name, .string x.by_, .int .i64 x.issuer, .int .i64 x.version, .slice B1 m1 d1, .slice B2 m2 d2] := by rw [hw4]; exact ((Blk.new _ _ _).alloc _).drew
  have hbf : Blk w4 (w2.heap.size + 1) 30 #[.slice FA nf cf] := by rw [hw4]; exact (blkNew (by simp)).drew
  have hsz4 : w4.heap.size = w2.heap.size + 2 := by rw [hw4]; simp [World.drew]
  have hbr : Boxed w4 (w.heap.size + 1 + 1) 30 (.slice none 0 0) := HKR2.out.below hb24 lr2
  clear hw4 hb24 e0 e1 e2 e3 e4 e5 t2 u0 u1 HKR2 HB2 HM
  go_wp2_with fail
  refine (wpIn_wide (n := 8)).1 ?_
  refine wpIn_rangeFunc_ownH (F := Fence.wide) rfl (by omega) (gf := 39) (lb := #[.pointer (some ⟨w2.heap.size, 0, none⟩), .pointer (some ⟨w2.heap.size + 1, 0, none⟩)]) rfl trivial (enters_of Tryz.func39 (by kernel_rfl) rfl)
   (det1_in 7 (w.heap.size + 1 + 1) w2.heap.size (w2.heap.size + 1) w w4 x.name x.by_ x.issuer x.version B1 B2 FA m1 d1 m2 d2 nf cf x.fields (x.deps.map depOf) F hb4 hbs hbf (by omega) (by omega) (by omega) ((ptOf_blk (t := 30) hbr).trans rfl) HG1.out.1 HG2.out HF.out)
   (fun h k => h.trans k) (fun W q o o' hq h h1 _ => KpE.book W q o o' (by omega) h h1) (Below.refl _ _) (fun _ => rfl)
   (fun pre Z => (∃ v, Boxed Z (w.heap.size + 1 + 1) 30 v ∧ Z.ownsRow w.heap.size 3 1 v pre.length (pre.map (fun p => Value.int .i64 p.f))) ∧ Below w.heap.size w Z ∧ w4.heap.size ≤ Z.heap.size)
   (fun _ _ _ => False)
   ?grown (fun cd s X Y row hs hg hr => hs.elim)
   ⟨⟨_, hbr, World.ownsRow_nil _ _ _ _⟩, hb4, Nat.le_refl _⟩
   (fun y a' Z => a' = { tmps := #[.agg #[.slice A1 n1 c1, .slice A2 n2 c2, .slice (some ⟨b, off, none⟩) n3 c3, .slice A4 n4 c4, .slice A5 n5 c5, .slice A6 n6 c6, .slice A7 n7 c7], .agg #[.int .i64 k, .slice FA nf cf, .slice VA nv cv], .pointer (some ⟨w.heap.size, 0, none⟩), .pointer (some ⟨w.heap.size + 1, 0, none⟩), .pointer (some ⟨w.heap.size + 1 + 1, 0, none⟩), .int .i64 0, .int .i64 y.f, .agg #[.slice A1 n1 c1, .slice A2 n2 c2, .slice (some ⟨b, off, none⟩) n3 c3, .slice A4 n4 c4, .slice A5 n5 c5, .slice A6 n6 c6, .slice A7 n7 c7], .int .i64 0, .bool false, .agg #[.slice A1 n1 c1, .slice A2 n2 c2, .slice (some ⟨b, off, none⟩) n3 c3, .slice A4 n4 c4, .slice A5 n5 c5, .slice A6 n6 c6, .slice A7 n7 c7], .agg #[.int .i64 k, .slice FA nf cf, .slice VA nv cv], .bool true, .bool false, .pointer (some ⟨w.heap.size, 0, none⟩), .pointer (some ⟨w.heap.size, 2, none⟩), .slice (some ⟨b, off, none⟩) n3 c3, .pointer (some ⟨w.heap.size + 1, 0, none⟩), .int .i64 k, .pointer (some ⟨b, off + k * 6, none⟩), .agg #[.string x.name, .string x.by_, .int .i64 x.issuer, .int .i64 x.version, .slice B1 m1 d1, .slice B2 m2 d2], .pointer (some ⟨w.heap.size + 1, 1, none⟩), .slice FA nf cf, .func (.func 39) #[] #[.pointer (some ⟨w2.heap.size, 0, none⟩), .pointer (some ⟨w2.heap.size + 1, 0, none⟩)], .int .i64 y.f, fieldV (.slice y.vA y.vn y.vc) y.x, undef, undef, undef, undef, undef], defers := [] })
   (fun y a' s X Y row hs hg hr => hs) ?assign ?body ?done ?stop
  case grown =>
   rintro s X Y row ⟨⟨v, hv, hr2⟩, hB, hz⟩ hg hr
   have hne : some (w.heap.size + 1 + 1) ≠ row := fun e => by
    have := (hr _ e.symm).1
    omega
   refine ⟨⟨v, hv.kept hg hne, hr2.kept hg ?_⟩, hB.grown hg (by omega) (fun r e => by have := (hr r e).1; omega), Nat.le_trans hz hg.size⟩
   cases hvb : v.ownBlock with
   | none => exact .inl rfl
   |
    some r =>
    right
    intro e
    obtain ⟨cur, hcur⟩ := own_kind hr2 hvb
    obtain ⟨_, o, ho, hc⟩ := hr r e.symm
    rw [hcur] at ho
    cases ho
    cases hc
  case assign =>
   rintro lp pre y Z K hI hK
   dsimp only [detV, fieldV]
   have HKK := Lib.hid hK
   have HII2 := Lib.hid hI
   clear hK hI
   gi_wp2
   exact HKK.out _ _ (KeepsFrom.refl _ _) (KpE.refl _ _) HII2.out rfl
  case body =>
   rintro lp pre y a' W hlp ⟨rr, hrr⟩ ⟨⟨v, hv, hr⟩, hB, hz⟩ rfl hlen
   have hc := hv.cell
   have HV := Lib.hid hv
   have HR := Lib.hid hr
   have HB := Lib.hid hB
   have hBs := hB.size
   have hll : pre.length < 1200000000000 := by have := closL_len m1 (x.deps.map depOf) F; have := HG1.out.2; have := HG1.out.1.len; omega
   dsimp only [fieldV]
   clear hv hr hB hrr hbs hbf hbr hb4
   gi_wp2_with (gi_at_builtin; refine wpListIn_append_own_at _ rfl (.tmp 26) (.tmp 28) 30 rfl w.heap.size 3 i0 (.int .i64 0) 1 8 Tryz.underlying30 HI.out HZ.out.1 HZ.out.2.1 HZ.out.2.2 rfl (by decide) v pre.length _ rfl (HR.out.alloc _) ⟨W.heap.size, 0, none⟩ 1 1 [.int .i64 y.f] rfl rfl (cell_one_new _ _ _) (by simp [Value.oneCell']) (by unfold maxLen; omega) (by omega) (by simp; omega) ?_; intro v' w1 hown' hgrow _ hat; obtain ⟨g', cap', rfl⟩ := ownsRow_succ hown'; have HA := Lib.hid (HV.out.appended (by decide) HR.out hBs (by omega) hown' hgrow); have hc1 := HA.out.1.cell; have hf1 := HA.out.1.frozen; have HGR := Lib.hid hgrow; have HAT := Lib.hid hat; clear hown' hgrow hat)
   obtain ⟨ha1, ha2, ha3, ha4, ha5⟩ := HA.out
   have hptW : ptOf (w.heap.size + 1 + 1) W = v.ownBlock := ptOf_blk (t := 30) HV.out
   have hpt2 : ptOf (w.heap.size + 1 + 1) (w1.setCell ⟨w.heap.size + 1 + 1, 0, none⟩ (.slice (some ⟨g', 0, none⟩) (pre.length + 1) cap')) = some g' := ptOf_blk (t := 30) ha2
   refine ⟨ha4.from _, ⟨ha5.size, fun q cs t fz hq hne hp => ?_, ?_⟩, ⟨⟨_, ha2, ?_⟩, HB.out.trans ha5, Nat.le_trans hz ha5.size⟩⟩
   ·
    have hbl2 := (Array.getElem?_eq_some_iff.1 hq).1
    exact (Below.heap_setCell _ _ _ q hne).trans ((HGR.out.block q (by simp; omega) (fun e => hp (by rw [hptW, e]))).trans (Below.heap_alloc W _ q hbl2))
   ·
    rw [hpt2, hptW]
    rcases HAT.out with e | e
    · exact .inl e
    · exact .inr ⟨g', rfl, by
     injection e with e
     simp at e
     omega⟩
   ·
    have := ha3
    simpa using this
  case done =>
   rintro D xs W hD hS ⟨⟨v, hv, hr⟩, hB, hz⟩ hK
   have hvf : ∃ Av nv c, v = .slice Av nv c := by
    rcases hr.2 with ⟨rfl, h0⟩ | ⟨g, cap, cur, rfl, _⟩
    · exact ⟨_, _, _, rfl⟩
    · exact ⟨_, _, _, rfl⟩
   obtain ⟨Av, nvv, cvv, rfl⟩ := hvf
   have hW1 : (wholeL 0 ss k F nv).length = xs.length := by rw [HL.out, ← hS, List.length_map]
   have hW2 : (wholeL 0 ss k F nv).map (Value.int .i64) = xs.map (fun p => Value.int .i64 p.f) := by rw [HL.out, ← hS, List.map_map]; rfl
   have HW1 := Lib.hid hW1
   have HW2 := Lib.hid hW2
   have hc := hv.cell
   have hf := hv.frozen
   have hl := hv.lt
   have HV := Lib.hid hv
   have HR := Lib.hid hr
   have HB := Lib.hid hB
   have HKD := Lib.hid hK
   clear hv hr hB hK hbs hbf hbr hb4 hW1 hW2 hS
   go_wp2_with fail
   rw [HW1.out, HW2.out, HE.out]
   have hv2 := HV.out.set (.slice Av nvv cvv)
   have hr2 := HR.out.kept (grownBy_setCell' W (w.heap.size + 1 + 1) (.slice Av nvv cvv)) (.inr (HV.out.not_row (by decide) HR.out).symm)
   have hB2 : Below w.heap.size w (W.setCell ⟨w.heap.size + 1 + 1, 0, none⟩ (.slice Av nvv cvv)) := HB.out.setCell (by simp; omega) _
   have hK2 : (W.setCell ⟨w.heap.size + 1 + 1, 0, none⟩ (.slice Av nvv cvv)).heap[D]? = some (.deferred (some [])) := (Below.heap_setCell _ _ _ D (by simp; omega)).trans HKD.out
   refine ⟨by simp, .inl ⟨_, _, rfl, run_takeDeferred hK2, ?_⟩⟩
   have hv3 : Boxed ((W.setCell ⟨w.heap.size + 1 + 1, 0, none⟩ (.slice Av nvv cvv)).putObj D (.deferred none)) (w.heap.size + 1 + 1) 30 (.slice Av nvv cvv) := (World.putObj_heap_other (by omega)).trans hv2
   have kr := hv3.cell
   exact ⟨_, by simp [results, Tryz.results14, go_sem, kr], _, rfl, ownsRow_putObj hr2 _ hK2 rfl, hB2.trans (belowK_b (w := w) (Nat.le_refl _) _ D _ _ (by omega) hK2 rfl rfl)⟩
  case stop =>
   rintro D cd pre W hD hS hf hK
   exact hf.elim
theorem cloneInt_g {α : Type} {R : World → List Value → α → Prop} (hone : One R) (A : Option Addr) (n c : Nat) (l : List α) (w : World) (hs : SlB 1 8 R w (.slice A n c) l) :
 Calls Tryz.prog 27 #[.slice A n c] w (RetRow 3 1 R l w) := by
 have hlen := hs.1.len
 have hbd := hs.2
 have HS := Lib.hid hs.1
 clear hs
 rcases A with _ | ad
 ·
  have hl : l = [] := by
   obtain ⟨cs, hcs, _⟩ := HS.out.cells
   cases l with
   | nil => rfl
   | cons x r => obtain ⟨b, off, x, cs, e, _⟩ := HS.out.at_ (k := 0) (by rw [hlen]; simp); cases e
  subst hl
  obtain rfl : n = 0 := by simpa using hlen
  clear hlen hbd
  have hnil := fun w : World => Lib.run_eql_slice_nil (P := Tryz.prog) w 30 3 none 0 c 0 0 Tryz.underlying30
  simp only [Option.isNone_none] at hnil
  go_enter Tryz.func27, Tryz.ntmps27
  go_wp2
  go_ret
  exact ⟨_, [], rfl, CellsR.nil, World.ownsRow_nil _ _ _ _, Below.refl _ _⟩
 ·
  obtain ⟨i0, hi, hz0, hz1, hz2⟩ := info_parts Tryz.infoIntD
  have HLEN := Lib.hid hlen
  clear hlen
  have hnb : n * 8 ≤ 140737488355328 := by rw [HLEN.out]; exact hbd
  have hnil := fun w : World => Lib.run_eql_slice_nil (P := Tryz.prog) w 30 3 (some ad) n c 0 0 Tryz.underlying30
  simp only [Option.isNone_some] at hnil
  go_enter Tryz.func27, Tryz.ntmps27
  go_wp2_with (at_builtin; refine wpList_append_row _ rfl (.tmp 5) (.tmp 6) 30 3 rfl i0 _ 8 Tryz.underlying30 hi hz0 hz1 hz2 rfl (by decide) (R := fun _ => R w) (fun _ => hone w) w.heap.size (.slice (some ⟨w.heap.size, 0, none⟩) 0 0) 0 [] rfl (World.ownsRow_lit w #[] 0 (Nat.le_refl _) (Nat.zero_le _) rfl) (some ad) n c l rfl (HS.out.fix ((Below.refl _ _).alloc (Nat.le_refl _) _)) (by unfold maxLen; omega) (by omega) (by simp) ?_; intro v' w1 cs hcs hown hgr hat)
  go_ret
  refine ⟨v', cs, rfl, hcs, ?_, ((Below.refl _ _).alloc (Nat.le_refl _) _).grown hgr (by simp) (by simp [Value.ownBlock])⟩
  rw [← HLEN.out]
  simpa using hown
structure QClaims where
 schema : Int
 fields : List Int
 values : List Int
 deriving DecidableEq
def qClaimsR (w : World) (cs : List Value) (x : QClaims) : Prop := ∃ A1 n1 c1 A2 n2 c2, cs = [.int .i64 x.schema, .slice A1 n1 c1, .slice A2 n2 c2] ∧ SlR 1 intR w (.slice A1 n1 c1) x.fields ∧ SlR 1 intR w (.slice A2 n2 c2) x.values
theorem qClaimsR_mono : Mono qClaimsR := by
 rintro w w' hb cs x ⟨A1, n1, c1, A2, n2, c2, h0, h1, h2⟩
 exact ⟨A1, n1, c1, A2, n2, c2, h0, h1.mono intR_mono hb, h2.mono intR_mono hb⟩
theorem qClaims_at {w : World} {A : Option Addr} {n cap : Nat} {l : List QClaims} (h : SlR 3 qClaimsR w (.slice A n cap) l) {k : Nat} (hk : k < n) :
 ∃ b off x A1 n1 c1 A2 n2 c2, A = some ⟨b, off, none⟩ ∧ b < w.heap.size ∧ l[k]? = some x ∧
  w.cell? ⟨b, off + k * 3, none⟩ = some (.int .i64 x.schema) ∧
  w.cell? ⟨b, off + k * 3 + 1, none⟩ = some (.slice A1 n1 c1) ∧
  w.cell? ⟨b, off + k * 3 + 2, none⟩ = some (.slice A2 n2 c2) ∧ SlR 1 intR w (.slice A1 n1 c1) x.fields ∧ SlR 1 intR w (.slice A2 n2 c2) x.values := by
 obtain ⟨b, off, x, cs, e, hb, hl, hlen, hc, hR⟩ := h.at_ hk
 obtain ⟨A1, n1, c1, A2, n2, c2, rfl, h1, h2⟩ := hR
 exact ⟨b, off, x, A1, n1, c1, A2, n2, c2, e, hb, hl, by simpa using hc 0 _ rfl, by simpa [Nat.add_assoc] using hc 1 _ rfl, by simpa [Nat.add_assoc] using hc 2 _ rfl, h1, h2⟩
theorem ints_blk' {W : World} {g : Nat} {t : TypeId} {l : List Int} (h : Blk W g t (l.map (Value.int .i64)).toArray) (hm : l.length ≤ maxLen) : SlR 1 iR W (.slice (some ⟨g, 0, none⟩) l.length l.length) l := by
 refine ⟨some ⟨g, 0, none⟩, l.length, rfl, Nat.le_refl _, hm, fun i x hi => ⟨g, 0, [.int .i64 x], rfl, h.lt, rfl, ?_, rfl⟩⟩
 intro j u hu
 rcases j with _ | j
 ·
  simp only [List.getElem?_cons_zero, Option.some.injEq] at hu
  subst hu
  have := h.cell i
  simpa [hi] using this
 · simp at hu
def lkAt (ss : List QSchema) (g : QField → Int) (base : Int) (c : QClaims) : Int :=
 match ss[c.schema.toNat]? with
 | some x => base + sumI g (pickF x.fields (closL x.fields.length (x.deps.map depOf) c.fields))
 | none => 0
def tot (f : QClaims → Int) (cs : List QClaims) : Int := cs.foldl (fun s c => s + f c) 0
theorem tot_snoc (f : QClaims → Int) (l : List QClaims) (x : QClaims) : tot f (l ++ [x]) = tot f l + f x := by simp [tot, List.foldl_append]
theorem tot_go (f : QClaims → Int) (hf : ∀ c, 0 ≤ f c ∧ f c ≤ 9001) : ∀ (l : List QClaims) (s : Int), s ≤ l.foldl (fun s x => s + f x) s ∧ l.foldl (fun s x => s + f x) s ≤ s + 9001 * l.length
 | [], s => by simp
 |
  x :: l, s => by
  have h1 := hf x
  have h2 := tot_go f hf l (s + f x)
  simp only [List.foldl_cons, List.length_cons]
  omega
theorem tot_bound (f : QClaims → Int) (hf : ∀ c, 0 ≤ f c ∧ f c ≤ 9001) (l : List QClaims) : 0 ≤ tot f l ∧ tot f l ≤ 9001 * l.length := by
 have := tot_go f hf l 0
 unfold tot
 omega
def Weighed (ss : List QSchema) : Prop := ∀ x ∈ ss, x.fields.length ≤ 1000 ∧ ∀ y ∈ x.fields, (0 ≤ y.w0 ∧ y.w0 ≤ 9) ∧ (0 ≤ y.w1 ∧ y.w1 ≤ 9) ∧ (0 ≤ y.w2 ∧ y.w2 ≤ 9) ∧ (0 ≤ y.w3 ∧ y.w3 ≤ 9)
theorem pickF_mem {fs : List QField} {L : List Int} {y : QField} (h : y ∈ pickF fs L) : y ∈ fs := by
 obtain ⟨f, _, hf⟩ := List.mem_filterMap.1 h
 exact List.mem_of_getElem? hf
theorem pickF_len (fs : List QField) (L : List Int) : (pickF fs L).length ≤ L.length := List.length_filterMap_le _ _
theorem lkAt_bound {ss : List QSchema} (hw : Weighed ss) (g : QField → Int) (base : Int) (hb : 0 ≤ base ∧ base ≤ 1) (hg : ∀ x ∈ ss, ∀ y ∈ x.fields, 0 ≤ g y ∧ g y ≤ 9) (c : QClaims) : 0 ≤ lkAt ss g base c ∧ lkAt ss g base c ≤ 9001 := by
 unfold lkAt
 split
 ·
  rename_i x hx
  have hm := List.mem_of_getElem? hx
  have h1 := sumI_bound g (pickF x.fields (closL x.fields.length (x.deps.map depOf) c.fields)) (fun y hy => hg x hm y (pickF_mem hy))
  have h2 := pickF_len x.fields (closL x.fields.length (x.deps.map depOf) c.fields)
  have h3 := closL_len x.fields.length (x.deps.map depOf) c.fields
  have h4 := (hw x hm).1
  omega
 · omega
def t0 (ss : List QSchema) (cs : List QClaims) : Int := tot (lkAt ss (·.w0) 1) cs
def t1 (ss : List QSchema) (cs : List QClaims) : Int := tot (lkAt ss (·.w1) 0) cs
def t2 (ss : List QSchema) (cs : List QClaims) : Int := tot (lkAt ss (·.w2) 0) cs
def t3 (ss : List QSchema) (cs : List QClaims) : Int := tot (lkAt ss (·.w3) 0) cs
def ofE (ck : Int) (ss : List QSchema) (cs : List QClaims) : Int := if ck = 0 then (if cs.all (fun c => fitsP ss c.schema c.fields c.values.length) then 0 else 230) else 160
def ofL (ck : Int) (ss : List QSchema) (cs : List QClaims) : List Int := if ofE ck ss cs = 0 then [t0 ss cs, t1 ss cs, t2 ss cs, t3 ss cs] else []
def yF (a b c d : Int) : QField := ⟨⟨#[]⟩, ⟨0, 0, 0, ⟨#[]⟩, 0, []⟩, a, b, c, d⟩
theorem acc_step {ss : List QSchema} {cs : List QClaims} {k : Nat} {c : QClaims} {x : QSchema} (hc : cs[k]? = some c) (hx : ss[c.schema.toNat]? = some x) :
 w4V (t0 ss (cs.take (k + 1))) (t1 ss (cs.take (k + 1))) (t2 ss (cs.take (k + 1))) (t3 ss (cs.take (k + 1))) =
  accAt (t0 ss (cs.take k)) (t1 ss (cs.take k)) (t2 ss (cs.take k)) (t3 ss (cs.take k)) (yF (1 + sumI (·.w0) (pickF x.fields (closL x.fields.length (x.deps.map depOf) c.fields))) (sumI (·.w1) (pickF x.fields (closL x.fields.length (x.deps.map depOf) c.fields))) (sumI (·.w2) (pickF x.fields (closL x.fields.length (x.deps.map depOf) c.fields))) (sumI (·.w3) (pickF x.fields (closL x.fields.length (x.deps.map depOf) c.fields)))) 4 := by
 simp only [take_snoc hc, t0, t1, t2, t3, tot_snoc, accAt, yF, lkAt, hx, Int.zero_add]
attribute [local go_sem] Oper.semAt_some
set_option maxHeartbeats 8000000 in
set_option maxRecDepth 100000 in
theorem Of_any (
 A1 A2 A3 A4 A5 A6 : Option Addr) (n1 c1 n2 c2 n3 c3 n4 c4 n5 c5 n6 c6 : Nat) (A7 A : Option Addr) (n7 c7 n c : Nat) (ss : List QSchema) (cs : List QClaims) (ck : Int) (w : World) (hK : CheckSays (.agg #[.slice A1 n1 c1, .slice A2 n2 c2, .slice A3 n3 c3, .slice A4 n4 c4, .slice A5 n5 c5, .slice A6 n6 c6, .slice A7 n7 c7]) ck w) (h3 : SlB 6 96 qSchemaR w (.slice A3 n3 c3) ss) (hcs : SlB 3 56 qClaimsR w (.slice A n c) cs) (hI : ∀ x ∈ ss, ∀ d ∈ x.deps, depI64 d) (hW : ck = 0 → Weighed ss) :
 Calls Tryz.prog 12 #[.agg #[.slice A1 n1 c1, .slice A2 n2 c2, .slice A3 n3 c3, .slice A4 n4 c4, .slice A5 n5 c5, .slice A6 n6 c6, .slice A7 n7 c7], .slice A n c] w fun e w' => ∃ v, e = .returned (.tuple #[v, .int .i64 (ofE ck ss cs)]) ∧ SlR 1 iR w' v (ofL ck ss cs) ∧ Below w.heap.size w w' := by
 have HLN := Lib.hid h3.1.len
 have HLC := Lib.hid hcs.1.len
 have hn2 : n ≤ 2600000000000 := by have := hcs.2; have := HLC.out; omega
 have HK := Lib.hid hK
 have H3 := Lib.hid h3
 have HCS := Lib.hid hcs
 have HII := Lib.hid hI
 clear hK h3 hcs hI
 have hb0 : Below w.heap.size w (w.alloc (.cells #[.slice A1 n1 c1, .slice A2 n2 c2, .slice A3 n3 c3, .slice A4 n4 c4, .slice A5 n5 c5, .slice A6 n6 c6, .slice A7 n7 c7] 32)) := ((Below.refl _ _).alloc (Nat.le_refl _) _)
 have HCK := Lib.hid (HK.out _ hb0)
 go_enter Tryz.func12, Tryz.ntmps12
 go_wp2_with (go_at_call 23; refine HCK.out.mono ?_; clear HCK)
 first | rintro e w1 rfl hb1 | rintro e w1 ⟨rfl, hb1⟩
 have kT1 : Blk w1 w.heap.size 32 #[.slice A1 n1 c1, .slice A2 n2 c2, .slice A3 n3 c3, .slice A4 n4 c4, .slice A5 n5 c5, .slice A6 n6 c6, .slice A7 n7 c7] := (Blk.new _ _ _).below hb1 (by simp)
 have HB1 := Lib.hid (hb0.trans (hb1.mono hb0.size))
 have hw1 : w.heap.size < w1.heap.size := kT1.lt
 have HKT := Lib.hid kT1
 clear hb0 hb1 kT1
 by_cases hck : ck = 0
 case neg =>
  have htn : (ck != 0) = true := by simpa using hck
  have HE : Hid (ofE ck ss cs = 160) := Lib.hid (by rw [ofE, if_neg hck])
  have HL : Hid (ofL ck ss cs = []) := Lib.hid (by rw [ofL, HE.out, if_neg (by decide)])
  clear hck hW
  go_wp2_with fail
  go_ret2
  rw [HE.out, HL.out]
  exact ⟨_, rfl, SlR.nil _ _ (Nat.zero_le _), HB1.out⟩
 subst hck
 have HW := Lib.hid (hW rfl)
 clear hW
 have HR0 : Hid (Blk (w1.alloc (.cells #[.int .i64 0, .int .i64 0, .int .i64 0, .int .i64 0] 56)) w1.heap.size 56 (w4V (t0 ss (cs.take 0)) (t1 ss (cs.take 0)) (t2 ss (cs.take 0)) (t3 ss (cs.take 0)))) := Lib.hid (Blk.new _ _ _)
 have HRT : Hid (Blk (w1.alloc (.cells #[.int .i64 0, .int .i64 0, .int .i64 0, .int .i64 0] 56)) w.heap.size 32 #[.slice A1 n1 c1, .slice A2 n2 c2, .slice A3 n3 c3, .slice A4 n4 c4, .slice A5 n5 c5, .slice A6 n6 c6, .slice A7 n7 c7]) := Lib.hid (HKT.out.alloc _)
 have HRB : Hid (Below w.heap.size w (w1.alloc (.cells #[.int .i64 0, .int .i64 0, .int .i64 0, .int .i64 0] 56))) := Lib.hid (HB1.out.alloc (by omega) _)
 go_wp2_with fail
 go_loopg [16] n (fun q i wr => ∃ k : Nat, k ≤ n ∧ q = n - k ∧ i = .int .i64 k ∧ (cs.take k).all (fun c => fitsP ss c.schema c.fields c.values.length) = true ∧ Blk wr w1.heap.size 56 (w4V (t0 ss (cs.take k)) (t1 ss (cs.take k)) (t2 ss (cs.take k)) (t3 ss (cs.take k))) ∧ Blk wr w.heap.size 32 #[.slice A1 n1 c1, .slice A2 n2 c2, .slice A3 n3 c3, .slice A4 n4 c4, .slice A5 n5 c5, .slice A6 n6 c6, .slice A7 n7 c7] ∧ Below w.heap.size w wr)
 case atStart => exact ⟨0, Nat.zero_le _, rfl, rfl, rfl, HR0.out, HRT.out, HRB.out⟩
 case round =>
  clear HR0 HRT HRB HKT
  obtain ⟨k, hk, hq, rfl, hall, hr, ht, hb⟩ := hrel
  obtain ⟨wy, rfl⟩ : ∃ q, q = wr := ⟨_, rfl⟩
  have HQ := Lib.hid hq
  have HALL := Lib.hid hall
  have HR := Lib.hid hr
  have HT := Lib.hid ht
  have HB := Lib.hid hb
  have lr := hr.lt
  have ltw := ht.lt
  clear hq hall hr ht hb
  by_cases hlt : k < n
  case neg =>
   have hkn : cs.take k = cs := List.take_of_length_le (by have := HLC.out; omega)
   have HE : Hid (ofE 0 ss cs = 0) := Lib.hid (by rw [ofE, if_pos rfl, ← hkn, HALL.out, if_pos rfl])
   have HL : Hid (ofL 0 ss cs = [t0 ss cs, t1 ss cs, t2 ss cs, t3 ss cs]) := Lib.hid (by rw [ofL, HE.out, if_pos rfl])
   have hr4 := HR.out
   rw [hkn] at hr4
   have hsl : SlR 1 iR wy (.slice (some ⟨w1.heap.size, 0, none⟩) 4 4) [t0 ss cs, t1 ss cs, t2 ss cs, t3 ss cs] := ints_blk' (l := [t0 ss cs, t1 ss cs, t2 ss cs, t3 ss cs]) hr4 (by simp [maxLen])
   have HCL := Lib.hid (cloneInt_g iR_one (some ⟨w1.heap.size, 0, none⟩) 4 4 [t0 ss cs, t1 ss cs, t2 ss cs, t3 ss cs] wy ⟨hsl, by simp⟩)
   clear hkn hr4 hsl
   go_wp2_with (go_at_call 27; refine HCL.out.mono ?_)
   rintro e w5 ⟨v, vs, rfl, hvs, hown, hb5⟩
   have hsr := slR_of_row hown (hvs.mono iR_mono hb5) rfl
   have HSR := Lib.hid hsr
   have HB5 := Lib.hid (HB.out.trans (hb5.mono HB.out.size))
   clear hsr hvs hown hb5 HCL
   go_wp2_with fail
   go_ret2
   rw [HE.out, HL.out]
   exact ⟨_, rfl, HSR.out, HB5.out⟩
  obtain ⟨b', off', x, FA, nf, cf, VA, nv, cv, rfl, hbl', hx, z0, z1, z2, hF, hV⟩ := qClaims_at HCS.out.1 hlt
  rw [← HB.out.cell (p := ⟨b', _, none⟩) hbl'] at z0 z1 z2
  have hbw' : b' < wy.heap.size := Nat.lt_of_lt_of_le hbl' HB.out.size
  have HX := Lib.hid hx
  have HF := Lib.hid hF
  have HV := Lib.hid hV.len
  have hnv : nv ≤ 9223372036854775807 := by have := hV.le; omega
  have hk0 : (0 : Int) ≤ (k : Int) := by omega
  have hk1 : (k : Int) < (n : Int) := by omega
  have q0 := HT.out.cell 0
  have q1 := HT.out.cell 1
  have q2 := HT.out.cell 2
  have q3 := HT.out.cell 3
  have q4 := HT.out.cell 4
  have q5 := HT.out.cell 5
  have q6 := HT.out.cell 6
  simp only [List.getElem?_toArray, List.getElem?_cons_zero, List.getElem?_cons_succ] at q0 q1 q2 q3 q4 q5 q6
  obtain ⟨fb, hfb⟩ : ∃ v, fitsP ss x.schema x.fields nv = v := ⟨_, rfl⟩
  have hba : Below w.heap.size w (wy.alloc (.cells #[.int .i64 x.schema, .slice FA nf cf, .slice VA nv cv] 42)) := HB.out.alloc HB.out.size _
  have HFT : Hid (Calls Tryz.prog 25 #[.agg #[.slice A1 n1 c1, .slice A2 n2 c2, .slice A3 n3 c3, .slice A4 n4 c4, .slice A5 n5 c5, .slice A6 n6 c6, .slice A7 n7 c7], .agg #[.int .i64 x.schema, .slice FA nf cf, .slice VA nv cv]] (wy.alloc (.cells #[.int .i64 x.schema, .slice FA nf cf, .slice VA nv cv] 42)) fun e w' => e = .returned (.bool fb) ∧ Below (wy.heap.size + 1) (wy.alloc (.cells #[.int .i64 x.schema, .slice FA nf cf, .slice VA nv cv] 42)) w') := Lib.hid (by
   rw [← hfb]
   have := fits_any A1 A2 A3 A4 A5 A6 n1 c1 n2 c2 n3 c3 n4 c4 n5 c5 n6 c6 A7 FA VA n7 c7 nf cf nv cv ss x.schema x.fields _ (H3.out.mono qSchemaR_mono hba).1 (i_of_ints (HF.out.mono intR_mono hba)) hnv
   rwa [World.size_alloc] at this)
  have HFB := Lib.hid hfb
  clear hfb hF hV hx hba
  go_wp2_with (go_at_call 25; refine HFT.out.mono ?_; clear HFT)
  first | rintro e w2 rfl hb2 | rintro e w2 ⟨rfl, hb2⟩
  have kC := (Blk.new wy 42 #[.int .i64 x.schema, .slice FA nf cf, .slice VA nv cv]).below hb2 (by simp)
  have kT := (HT.out.alloc (.cells #[.int .i64 x.schema, .slice FA nf cf, .slice VA nv cv] 42)).below hb2 (by omega)
  have kR := (HR.out.alloc (.cells #[.int .i64 x.schema, .slice FA nf cf, .slice VA nv cv] 42)).below hb2 (by omega)
  have HB2 := Lib.hid ((HB.out.alloc HB.out.size (.cells #[.int .i64 x.schema, .slice FA nf cf, .slice VA nv cv] 42)).trans (hb2.mono (by have := HB.out.size; omega)))
  clear hb2 z0 z1 z2 q0 q1 q3 q4 q5 q6 q2
  cases fb with
  |
   false =>
   have HE : Hid (ofE 0 ss cs = 230) := Lib.hid (by
    have : cs.all (fun c => fitsP ss c.schema c.fields c.values.length) = false := by
     cases h : cs.all (fun c => fitsP ss c.schema c.fields c.values.length) with
     | false => rfl
     |
      true =>
      have := List.all_eq_true.1 h x (List.mem_of_getElem? HX.out)
      rw [← HV.out, HFB.out] at this
      cases this
    rw [ofE, if_pos rfl, this]
    rfl)
   have HL : Hid (ofL 0 ss cs = []) := Lib.hid (by rw [ofL, HE.out, if_neg (by decide)])
   clear kC kT kR
   go_wp2_with fail
   go_ret2
   rw [HE.out, HL.out]
   exact ⟨_, rfl, SlR.nil _ _ (Nat.zero_le _), HB2.out⟩
  |
   true =>
   obtain ⟨g0, g1, _⟩ := fitsP_yes HFB.out
   obtain ⟨sk, hsk⟩ : ∃ sk : Nat, x.schema = sk := ⟨x.schema.toNat, by omega⟩
   have hskn : sk < n3 := by have := HLN.out; omega
   obtain ⟨b, off, y, B1, m1, d1, B2, m2, d2, hA3, hbl, hy, e0, e1, e2, e3, e4, e5, G1, G2⟩ := qSchema_at H3.out.1 (k := sk) hskn
   subst hA3
   have hw2 : w.heap.size ≤ w2.heap.size := HB2.out.size
   rw [← HB2.out.cell (p := ⟨b, _, none⟩) hbl] at e0 e1 e2 e3 e4 e5
   have hblw : b < w2.heap.size := Nat.lt_of_lt_of_le hbl hw2
   have hyt : ss[x.schema.toNat]? = some y := by rw [hsk, Int.toNat_natCast]; exact hy
   have hym := List.mem_of_getElem? hy
   have hm1 : m1 = y.fields.length := G1.1.len
   have HFL : Hid (Calls Tryz.prog 26 #[.agg #[.string y.name, .string y.by_, .int .i64 y.issuer, .int .i64 y.version, .slice B1 m1 d1, .slice B2 m2 d2], .slice FA nf cf] w2.drew fun e w' => e = .returned (.agg (fieldsV y.fields (closL m1 (y.deps.map depOf) x.fields))) ∧ Below w2.heap.size w2.drew w') := Lib.hid
    (Fields_any y.name y.by_ y.issuer y.version B1 B2 FA m1 d1 m2 d2 nf cf y.fields (y.deps.map depOf) x.fields w2.drew ((G1.mono qFieldR_mono HB2.out.drew).1) ((deps_of_q G2.1 (HII.out y hym)).mono depR_mono HB2.out.drew) (HF.out.mono intR_mono HB2.out.drew) (by rw [hm1]; exact (HW.out y hym).1) (HW.out y hym).2)
   have HYT := Lib.hid hyt
   have HM1 := Lib.hid hm1
   have q2 := kT.cell 2
   have u0 := kC.cell 0
   have u1 := kC.cell 1
   have lt2 := kT.lt
   have lc2 := kC.lt
   have lr2 := kR.lt
   have hs0 : (0 : Int) ≤ (sk : Int) := by omega
   have hs1 : (sk : Int) < (n3 : Int) := by omega
   simp only [List.getElem?_toArray, List.getElem?_cons_zero, List.getElem?_cons_succ] at q2 u0 u1
   rw [hsk] at u0
   have HKR2 := Lib.hid kR
   have HKT2 := Lib.hid kT
   clear kT kC kR G1 G2 hy hyt hym hm1 g0 g1 hsk hbl
   go_upto_region 9 with fail
   go_cut [33, 34] (fun x33 x34 wx => x33 = .agg (fieldsV y.fields (closL m1 (y.deps.map depOf) x.fields)) ∧ x34 = .int .i64 0 ∧ Below w2.heap.size w2 wx)
   case first =>
    go_region_held3 (fun w' => w'.cell? ⟨w.heap.size, 2, none⟩ = some (.slice (some ⟨b, off, none⟩) n3 c3) ∧ w'.cell? ⟨wy.heap.size, 0, none⟩ = some (.int .i64 sk) ∧ w'.cell? ⟨wy.heap.size, 1, none⟩ = some (.slice FA nf cf) ∧ w'.cell? ⟨b, off + sk * 6, none⟩ = some (.string y.name) ∧ w'.cell? ⟨b, off + sk * 6 + 1, none⟩ = some (.string y.by_) ∧ w'.cell? ⟨b, off + sk * 6 + 2, none⟩ = some (.int .i64 y.issuer) ∧ w'.cell? ⟨b, off + sk * 6 + 3, none⟩ = some (.int .i64 y.version) ∧ w'.cell? ⟨b, off + sk * 6 + 4, none⟩ = some (.slice B1 m1 d1) ∧ w'.cell? ⟨b, off + sk * 6 + 5, none⟩ = some (.slice B2 m2 d2))
     (first | go_keep | exact ⟨q2, u0, u1, e0, e1, e2, e3, e4, e5⟩ | exact ⟨(hb3.cell (p := ⟨w.heap.size, 2, none⟩) (by simp; omega)).trans q2, (hb3.cell (p := ⟨wy.heap.size, 0, none⟩) (by simp; omega)).trans u0, (hb3.cell (p := ⟨wy.heap.size, 1, none⟩) (by simp; omega)).trans u1, (hb3.cell (p := ⟨b, _, none⟩) (by simp; omega)).trans e0, (hb3.cell (p := ⟨b, _, none⟩) (by simp; omega)).trans e1, (hb3.cell (p := ⟨b, _, none⟩) (by simp; omega)).trans e2, (hb3.cell (p := ⟨b, _, none⟩) (by simp; omega)).trans e3, (hb3.cell (p := ⟨b, _, none⟩) (by simp; omega)).trans e4, (hb3.cell (p := ⟨b, _, none⟩) (by simp; omega)).trans e5⟩)
     (first
      | (go_at_call 26; refine HFL.out.mono ?_; rintro e w3 ⟨rfl, hb3⟩))
    all_goals (go_wp2_with fail; go_meet; exact ⟨rfl, rfl, ((Below.refl _ _).drew).trans hb3⟩)
   case rest =>
    obtain ⟨rfl, rfl, hbx⟩ := hcut
    obtain ⟨wx, rfl⟩ : ∃ wx : World, wx = wc := ⟨_, rfl⟩
    rw [HM1.out]
    have hAS := acc_step HX.out HYT.out
    have hbw : ∀ g : QField → Int, (∀ x ∈ ss, ∀ z ∈ x.fields, 0 ≤ g z ∧ g z ≤ 9) → 0 ≤ sumI g (pickF y.fields (closL y.fields.length (y.deps.map depOf) x.fields)) ∧ sumI g (pickF y.fields (closL y.fields.length (y.deps.map depOf) x.fields)) ≤ 9000 := fun g hg => by
     have hm := List.mem_of_getElem? HYT.out
     have h1 := sumI_bound g (pickF y.fields (closL y.fields.length (y.deps.map depOf) x.fields)) (fun z hz => hg y hm z (pickF_mem hz))
     have h2 := pickF_len y.fields (closL y.fields.length (y.deps.map depOf) x.fields)
     have h3 := closL_len y.fields.length (y.deps.map depOf) x.fields
     have h4 := (HW.out y hm).1
     omega
    have m0 := hbw (·.w0) (fun x hx z hz => ((HW.out x hx).2 z hz).1)
    have m1' := hbw (·.w1) (fun x hx z hz => ((HW.out x hx).2 z hz).2.1)
    have m2' := hbw (·.w2) (fun x hx z hz => ((HW.out x hx).2 z hz).2.2.1)
    have m3' := hbw (·.w3) (fun x hx z hz => ((HW.out x hx).2 z hz).2.2.2)
    have hkl : (cs.take k).length ≤ 2600000000000 := by rw [List.length_take]; omega
    have n0 := tot_bound _ (fun c => lkAt_bound HW.out (·.w0) 1 (by omega) (fun x hx z hz => ((HW.out x hx).2 z hz).1) c) (cs.take k)
    have n1' := tot_bound _ (fun c => lkAt_bound HW.out (·.w1) 0 (by omega) (fun x hx z hz => ((HW.out x hx).2 z hz).2.1) c) (cs.take k)
    have n2' := tot_bound _ (fun c => lkAt_bound HW.out (·.w2) 0 (by omega) (fun x hx z hz => ((HW.out x hx).2 z hz).2.2.1) c) (cs.take k)
    have n3' := tot_bound _ (fun c => lkAt_bound HW.out (·.w3) 0 (by omega) (fun x hx z hz => ((HW.out x hx).2 z hz).2.2.2) c) (cs.take k)
    unfold fieldsV w4V
    obtain ⟨v0, hv0⟩ : ∃ v, 1 + sumI (·.w0) (pickF y.fields (closL y.fields.length (y.deps.map depOf) x.fields)) = v := ⟨_, rfl⟩
    obtain ⟨v1, hv1⟩ : ∃ v, sumI (·.w1) (pickF y.fields (closL y.fields.length (y.deps.map depOf) x.fields)) = v := ⟨_, rfl⟩
    obtain ⟨v2, hv2⟩ : ∃ v, sumI (·.w2) (pickF y.fields (closL y.fields.length (y.deps.map depOf) x.fields)) = v := ⟨_, rfl⟩
    obtain ⟨v3, hv3⟩ : ∃ v, sumI (·.w3) (pickF y.fields (closL y.fields.length (y.deps.map depOf) x.fields)) = v := ⟨_, rfl⟩
    obtain ⟨A0, hA0⟩ : ∃ v, t0 ss (cs.take k) = v := ⟨_, rfl⟩
    obtain ⟨A1', hA1⟩ : ∃ v, t1 ss (cs.take k) = v := ⟨_, rfl⟩
    obtain ⟨A2', hA2⟩ : ∃ v, t2 ss (cs.take k) = v := ⟨_, rfl⟩
    obtain ⟨A3', hA3⟩ : ∃ v, t3 ss (cs.take k) = v := ⟨_, rfl⟩
    have p0 : 0 ≤ v0 ∧ v0 ≤ 9001 := by omega
    have p1 : 0 ≤ v1 ∧ v1 ≤ 9000 := by omega
    have p2 : 0 ≤ v2 ∧ v2 ≤ 9000 := by omega
    have p3 : 0 ≤ v3 ∧ v3 ≤ 9000 := by omega
    have r0 : 0 ≤ A0 ∧ A0 ≤ 1000000000000000000 := by unfold t0 at hA0; omega
    have r1 : 0 ≤ A1' ∧ A1' ≤ 1000000000000000000 := by unfold t1 at hA1; omega
    have r2 : 0 ≤ A2' ∧ A2' ≤ 1000000000000000000 := by unfold t2 at hA2; omega
    have r3 : 0 ≤ A3' ∧ A3' ≤ 1000000000000000000 := by unfold t3 at hA3; omega
    have hkr := HKR2.out
    rw [hv0, hv1, hv2, hv3, hA0, hA1, hA2, hA3] at hAS
    rw [hA0, hA1, hA2, hA3] at hkr
    rw [hv0, hv1, hv2, hv3]
    have HAS := Lib.hid hAS
    have HRZ : Hid (RdF w1.heap.size A0 A1' A2' A3' (yF v0 v1 v2 v3) 0 wx wx) := Lib.hid ⟨hkr.below hbx lr2, KpE.refl _ _, KeepsOthers.refl _, Below.refl _ _⟩
    have HTX := Lib.hid (HKT2.out.below hbx lt2)
    have HBX := Lib.hid (HB2.out.trans (hbx.mono hw2))
    clear hkr hAS hbw m0 m1' m2' m3' n0 n1' n2' n3' hv0 hv1 hv2 hv3 hA0 hA1 hA2 hA3 hbx e0 e1 e2 e3 e4 e5 q2 u0 u1 HKR2 HKT2 hkl
    have hi0 : ∀ w : World, (Instr.index 56 (.agg #[.int .i64 v0, .int .i64 v1, .int .i64 v2, .int .i64 v3]) (.int .i64 0)).run Tryz.prog w = .ok (.int .i64 v0) w := fun _ => by kernel_rfl
    have hi1 : ∀ w : World, (Instr.index 56 (.agg #[.int .i64 v0, .int .i64 v1, .int .i64 v2, .int .i64 v3]) (.int .i64 1)).run Tryz.prog w = .ok (.int .i64 v1) w := fun _ => by kernel_rfl
    have hi2 : ∀ w : World, (Instr.index 56 (.agg #[.int .i64 v0, .int .i64 v1, .int .i64 v2, .int .i64 v3]) (.int .i64 2)).run Tryz.prog w = .ok (.int .i64 v2) w := fun _ => by kernel_rfl
    have hi3 : ∀ w : World, (Instr.index 56 (.agg #[.int .i64 v0, .int .i64 v1, .int .i64 v2, .int .i64 v3]) (.int .i64 3)).run Tryz.prog w = .ok (.int .i64 v3) w := fun _ => by kernel_rfl
    go_wp2_with fail
    go_loopg [34] 4 (fun q i wq => ∃ j : Nat, j ≤ 4 ∧ q = 4 - j ∧ i = .int .i64 j ∧ RdF w1.heap.size A0 A1' A2' A3' (yF v0 v1 v2 v3) j wx wq)
    case atStart => exact ⟨0, Nat.zero_le _, rfl, rfl, HRZ.out⟩
    case round =>
     clear HRZ
     obtain ⟨j, hj, hq2, rfl, hrd⟩ := hrel
     obtain ⟨wq, rfl⟩ : ∃ q, q = wr := ⟨_, rfl⟩
     have HQ2 := Lib.hid hq2
     have HRD := Lib.hid hrd
     clear hq2 hrd
     by_cases hj4 : j < 4
     ·
      obtain h0 | h0 | h0 | h0 : j = 0 ∨ j = 1 ∨ j = 2 ∨ j = 3 := by omega
      ·
       subst h0
       have kr := HRD.out.blk
       dsimp only [accAt, w4V, yF] at kr
       have c0 := kr.cell 0
       have c1 := kr.cell 1
       have c2 := kr.cell 2
       have c3 := kr.cell 3
       have fz := kr.frozen 0
       have lr3 := kr.lt
       simp only [List.getElem?_toArray, List.getElem?_cons_zero, List.getElem?_cons_succ] at c0 c1 c2 c3
       have HP : Hid (RdF w1.heap.size A0 A1' A2' A3' (yF v0 v1 v2 v3) (0 + 1) wx (wq.setCell ⟨w1.heap.size, 0, none⟩ (.int .i64 (A0 + v0)))) := Lib.hid (HRD.out.put (kr.put 0 _))
       clear kr
       go_wp2_with fail
       go_roundg (4 - (0 + 1))
       case measure => have := HQ2.out; omega
       case rel => exact ⟨0 + 1, by omega, rfl, by go_num, HP.out⟩
      ·
       subst h0
       have kr := HRD.out.blk
       dsimp only [accAt, w4V, yF] at kr
       have c0 := kr.cell 0
       have c1 := kr.cell 1
       have c2 := kr.cell 2
       have c3 := kr.cell 3
       have fz := kr.frozen 1
       have lr3 := kr.lt
       simp only [List.getElem?_toArray, List.getElem?_cons_zero, List.getElem?_cons_succ] at c0 c1 c2 c3
       have HP : Hid (RdF w1.heap.size A0 A1' A2' A3' (yF v0 v1 v2 v3) (1 + 1) wx (wq.setCell ⟨w1.heap.size, 1, none⟩ (.int .i64 (A1' + v1)))) := Lib.hid (HRD.out.put (kr.put 1 _))
       clear kr
       go_wp2_with fail
       go_roundg (4 - (1 + 1))
       case measure => have := HQ2.out; omega
       case rel => exact ⟨1 + 1, by omega, rfl, by go_num, HP.out⟩
      ·
       subst h0
       have kr := HRD.out.blk
       dsimp only [accAt, w4V, yF] at kr
       have c0 := kr.cell 0
       have c1 := kr.cell 1
       have c2 := kr.cell 2
       have c3 := kr.cell 3
       have fz := kr.frozen 2
       have lr3 := kr.lt
       simp only [List.getElem?_toArray, List.getElem?_cons_zero, List.getElem?_cons_succ] at c0 c1 c2 c3
       have HP : Hid (RdF w1.heap.size A0 A1' A2' A3' (yF v0 v1 v2 v3) (2 + 1) wx (wq.setCell ⟨w1.heap.size, 2, none⟩ (.int .i64 (A2' + v2)))) := Lib.hid (HRD.out.put (kr.put 2 _))
       clear kr
       go_wp2_with fail
       go_roundg (4 - (2 + 1))
       case measure => have := HQ2.out; omega
       case rel => exact ⟨2 + 1, by omega, rfl, by go_num, HP.out⟩
      ·
       subst h0
       have kr := HRD.out.blk
       dsimp only [accAt, w4V, yF] at kr
       have c0 := kr.cell 0
       have c1 := kr.cell 1
       have c2 := kr.cell 2
       have c3 := kr.cell 3
       have fz := kr.frozen 3
       have lr3 := kr.lt
       simp only [List.getElem?_toArray, List.getElem?_cons_zero, List.getElem?_cons_succ] at c0 c1 c2 c3
       have HP : Hid (RdF w1.heap.size A0 A1' A2' A3' (yF v0 v1 v2 v3) (3 + 1) wx (wq.setCell ⟨w1.heap.size, 3, none⟩ (.int .i64 (A3' + v3)))) := Lib.hid (HRD.out.put (kr.put 3 _))
       clear kr
       go_wp2_with fail
       go_roundg (4 - (3 + 1))
       case measure => have := HQ2.out; omega
       case rel => exact ⟨3 + 1, by omega, rfl, by go_num, HP.out⟩
     ·
      obtain rfl : j = 4 := by omega
      go_wp2_with fail
      go_roundg (n - (k + 1))
      case measure => have := HQ.out; omega
      case rel =>
       refine ⟨k + 1, by omega, rfl, by go_num, ?_, ?_, HTX.out.below (HRD.out.old) hw1, HBX.out.trans (HRD.out.old.mono (by omega))⟩
       ·
        rw [take_snoc HX.out, List.all_append, HALL.out]
        simp [← HV.out, HFB.out]
       ·
        rw [HAS.out]
        exact HRD.out.blk
theorem testBit_or_pow (x f i : Nat) : (x ||| 2 ^ f).testBit i = (x.testBit i || decide (f = i)) := by
 rw [Nat.testBit_or, Nat.testBit_two_pow]
def inX (x : Nat) (f : Int) : Bool := x.testBit f.toNat
theorem bitsL_bit : ∀ (l : List Int) (x i : Nat), (bitsL l x).testBit i = (x.testBit i || l.any (fun f => decide (f.toNat = i)))
 | [], x, i => by simp [bitsL]
 |
  f :: r, x, i => by
  show (bitsL r (x ||| 2 ^ f.toNat)).testBit i = _
  rw [bitsL_bit r, testBit_or_pow, List.any_cons, Bool.or_assoc]
theorem and_eq_iff (x b : Nat) : ((x &&& b) == b) = true ↔ ∀ i, b.testBit i = true → x.testBit i = true := by
 rw [beq_iff_eq]
 constructor
 ·
  intro h i hi
  have h1 : (x &&& b).testBit i = true := by rw [h]; exact hi
  rw [Nat.testBit_and, Bool.and_eq_true] at h1
  exact h1.1
 ·
  intro h
  apply Nat.eq_of_testBit_eq
  intro i
  rw [Nat.testBit_and]
  cases hb : b.testBit i
  · simp
  · simp [h i hb]
theorem sub_iff (x : Nat) (l : List Int) : ((x &&& bitsL l 0) == bitsL l 0) = l.all (inX x) := by
 rw [Bool.eq_iff_iff, and_eq_iff, List.all_eq_true]
 constructor
 ·
  intro h f hf
  apply h
  rw [bitsL_bit]
  simp only [Nat.zero_testBit, Bool.false_or, List.any_eq_true, decide_eq_true_eq]
  exact ⟨f, hf, rfl⟩
 ·
  intro h i hi
  rw [bitsL_bit] at hi
  simp only [Nat.zero_testBit, Bool.false_or, List.any_eq_true, decide_eq_true_eq] at hi
  obtain ⟨f, hf, rfl⟩ := hi
  exact h f hf
theorem stepX_eq (x : Nat) (d : Dep) : stepX x d = if d.src.all (inX x) then x ||| 2 ^ d.dst.toNat else x := by
 unfold stepX addB
 rw [sub_iff]
 cases h1 : d.src.all (inX x)
 · simp
 ·
  cases h2 : x.testBit d.dst.toNat
  · simp
  ·
   simp only [Bool.not_true, Bool.and_false, Bool.false_eq_true, if_false, if_true]
   apply Nat.eq_of_testBit_eq
   intro i
   rw [testBit_or_pow]
   by_cases e : d.dst.toNat = i
   · subst e; simp [h2]
   · simp [e]
theorem stepX_bit (x : Nat) (d : Dep) (i : Nat) : (stepX x d).testBit i = (x.testBit i || (d.src.all (inX x) && decide (d.dst.toNat = i))) := by
 rw [stepX_eq]
 split
 · rename_i h; rw [testBit_or_pow, h]; simp
 ·
  rename_i h
  have : d.src.all (inX x) = false := by simpa using h
  rw [this]; simp
def Sub (x y : Nat) : Prop := ∀ i, x.testBit i = true → y.testBit i = true
theorem Sub.refl (x : Nat) : Sub x x := fun _ h => h
theorem Sub.trans {x y z : Nat} (h : Sub x y) (k : Sub y z) : Sub x z := fun i hi => k i (h i hi)
theorem stepX_sub (x : Nat) (d : Dep) : Sub x (stepX x d) := fun i hi => by rw [stepX_bit, hi]; rfl
theorem foldl_sub : ∀ (ds : List Dep) (x : Nat), Sub x (ds.foldl stepX x)
 | [], x => Sub.refl x
 | d :: r, x => (stepX_sub x d).trans (foldl_sub r _)
theorem Sub.all {x y : Nat} (h : Sub x y) {l : List Int} (hl : l.all (inX x) = true) : l.all (inX y) = true := by
 rw [List.all_eq_true] at hl ⊢
 exact fun f hf => h _ (hl f hf)
def Closed (ds : List Dep) (x : Nat) : Prop := ∀ d ∈ ds, d.src.all (inX x) = true → x.testBit d.dst.toNat = true
theorem pass_fix_iff (ds : List Dep) (x : Nat) : pass ds x = x ↔ Closed ds x := by
 unfold pass
 constructor
 ·
  intro h d hd hall
  obtain ⟨a, b, rfl⟩ := List.append_of_mem hd
  rw [List.foldl_append, List.foldl_cons] at h
  have h1 : Sub x (a.foldl stepX x) := foldl_sub a x
  have h2 : Sub (stepX (a.foldl stepX x) d) x := by
   have := foldl_sub b (stepX (a.foldl stepX x) d)
   rw [h] at this
   exact this
  apply h2
  rw [stepX_bit, h1.all hall]
  simp
 ·
  intro h
  induction ds with
  | nil => rfl
  |
   cons d r ih =>
   have h1 : stepX x d = x := by
    apply Nat.eq_of_testBit_eq
    intro i
    rw [stepX_bit]
    by_cases e : d.dst.toNat = i
    ·
     cases hall : d.src.all (inX x)
     · simp
     ·
      have := h d (by simp) hall
      rw [e] at this
      simp [this]
    · simp [e]
   rw [List.foldl_cons, h1]
   exact ih (fun e he => h e (by simp [he]))
theorem clos_closed {ds : List Dep} (hd : ∀ d ∈ ds, okDep 12 d) {x : Nat} (hx : x < 4096) : Closed ds (clos ds x) := (pass_fix_iff _ _).1 (clos_fix hd hx)
theorem passN_sub (ds : List Dep) (x : Nat) : ∀ n, Sub x (passN ds n x)
 | 0 => Sub.refl x
 | n + 1 => (passN_sub ds x n).trans (foldl_sub ds _)
theorem clos_sub (ds : List Dep) (x : Nat) : Sub x (clos ds x) := passN_sub ds x _
theorem foldl_least {ds : List Dep} {x c : Nat} (hc : Closed ds c) (h : Sub x c) : Sub (ds.foldl stepX x) c := by
 induction ds generalizing x with
 | nil => exact h
 |
  cons d r ih =>
  rw [List.foldl_cons]
  apply ih (fun e he => hc e (by simp [he]))
  intro i hi
  rw [stepX_bit, Bool.or_eq_true, Bool.and_eq_true, decide_eq_true_eq] at hi
  rcases hi with hi | ⟨h1, rfl⟩
  · exact h i hi
  · exact hc d (by simp) (h.all h1)
theorem passN_least {ds : List Dep} {x c : Nat} (hc : Closed ds c) (h : Sub x c) : ∀ n, Sub (passN ds n x) c
 | 0 => h
 | n + 1 => foldl_least hc (passN_least hc h n)
theorem clos_least {ds : List Dep} {x c : Nat} (hc : Closed ds c) (h : Sub x c) : Sub (clos ds x) c := passN_least hc h _
theorem mem_listX {nf x : Nat} {f : Int} : f ∈ listX nf x ↔ 0 ≤ f ∧ f < nf ∧ x.testBit f.toNat = true := by
 unfold listX
 simp only [List.mem_map, List.mem_filter, List.mem_range]
 constructor
 ·
  rintro ⟨i, ⟨h1, h2⟩, rfl⟩
  exact ⟨by omega, by omega, by simpa using h2⟩
 ·
  rintro ⟨h1, h2, h3⟩
  exact ⟨f.toNat, ⟨by omega, h3⟩, by omega⟩
theorem inB_iff {nf : Nat} {l : List Int} : l.all (inB nf) = true ↔ ∀ f ∈ l, 0 ≤ f ∧ f < (nf : Int) := by
 rw [List.all_eq_true]
 simp [inB]
theorem bitsL0 (l : List Int) (i : Nat) : (bitsL l 0).testBit i = true ↔ ∃ f ∈ l, f.toNat = i := by
 rw [bitsL_bit]
 simp
section
variable {nf : Nat} {ds : List Dep} {l m : List Int}
theorem closOk_parts (h : closOk nf ds l = true) : nf ≤ 12 ∧ (∀ d ∈ ds, okDep nf d) ∧ ∀ f ∈ l, 0 ≤ f ∧ f < (nf : Int) := by
 unfold closOk at h
 rw [Bool.and_eq_true] at h
 exact ⟨(checkB_ok h.1).2.1, (checkB_ok h.1).2.2.2, inB_iff.1 h.2⟩
theorem clos_parts (h : closOk nf ds l = true) : bitsL l 0 < 4096 ∧ (∀ d ∈ ds, okDep 12 d) ∧ clos ds (bitsL l 0) < 4096 := by
 obtain ⟨h1, h2, h3⟩ := closOk_parts h
 have k1 : bitsL l 0 < 4096 := bitsL_lt (fun f hf => by have := h3 f hf; omega) (by omega)
 exact ⟨k1, fun d hd => okDep_12 h1 (h2 d hd), passN_lt (fun d hd => okDep_12 h1 (h2 d hd)) k1 _⟩
theorem listX_sorted (n x : Nat) : (listX n x).Pairwise (· < ·) := by
 unfold listX
 rw [List.pairwise_map]
 exact (List.Pairwise.filter _ List.pairwise_lt_range).imp (fun h => by omega)
theorem clos_sorted (h : closOk nf ds l = true) : (closL nf ds l).Pairwise (· < ·) := by
 rw [closL_yes h]; exact listX_sorted _ _
theorem clos_mem (h : closOk nf ds l = true) {f : Int} (hf : f ∈ l) : f ∈ closL nf ds l := by
 rw [closL_yes h]
 have h3 := (closOk_parts h).2.2 f hf
 exact mem_listX.2 ⟨h3.1, h3.2, clos_sub ds _ _ ((bitsL0 _ _).2 ⟨f, hf, rfl⟩)⟩
theorem clos_mono (h : closOk nf ds l = true) (h2 : closOk nf ds m = true) (hs : ∀ f ∈ l, f ∈ m) {f : Int} (hf : f ∈ closL nf ds l) : f ∈ closL nf ds m := by
 rw [closL_yes h] at hf
 rw [closL_yes h2]
 obtain ⟨k1, k2, k3⟩ := clos_parts h2
 obtain ⟨a, b, c⟩ := mem_listX.1 hf
 refine mem_listX.2 ⟨a, b, clos_least (clos_closed k2 k1) ?_ _ c⟩
 intro i hi
 obtain ⟨g, hg, rfl⟩ := (bitsL0 _ _).1 hi
 exact clos_sub ds _ _ ((bitsL0 _ _).2 ⟨g, hs g hg, rfl⟩)
theorem closOk_of (hc : checkB nf ds = true) (hl : ∀ f ∈ l, 0 ≤ f ∧ f < (nf : Int)) : closOk nf ds l = true := by
 rw [closOk, hc, inB_iff.2 hl]; rfl
end
theorem ck_steps {pv : QConvert → Bool} {s : QSource} {l : List Int} (h : checkP pv s l = 0) : ∀ t ∈ stepsP pv s, t = 0 := by
 unfold checkP at h
 split at h
 ·
  rename_i hh
  intro t ht
  have h1 := hh.1
  unfold lowerP at h1
  cases hf : (stepsP pv s).find? (fun x => decide (x ≠ 0)) with
  |
   none =>
   have := List.find?_eq_none.1 hf t ht
   simpa using this
  |
   some y =>
   rw [hf] at h1
   have := List.find?_some hf
   simp only [Option.getD_some] at h1
   simp [h1] at this
 · cases h
theorem ck_types {pv : QConvert → Bool} {s : QSource} {l : List Int} (h : checkP pv s l = 0) : typesP s = 0 := ck_steps h _ (by simp [stepsP])
theorem ck_det {pv : QConvert → Bool} {s : QSource} {l : List Int} (h : checkP pv s l = 0) : ∀ x ∈ s.schemas, checkB x.fields.length (x.deps.map depOf) = true := by
 have h1 : determinedP s = 0 := ck_steps h _ (by simp [stepsP])
 unfold determinedP at h1
 split at h1
 ·
  rename_i hh
  exact List.all_eq_true.1 hh
 · cases h1
theorem types_schemas {s : QSource} (h : typesP s = 0) : s.schemas.all (schemaOK s.issuers.length s.units.length) = true := by
 unfold typesP at h
 split at h
 · cases h
 ·
  split at h
  ·
   rename_i hh
   simp only [Bool.and_eq_true] at hh
   exact hh.1.1.2
  · cases h
theorem ck_weighed {pv : QConvert → Bool} {s : QSource} {l : List Int} (h : checkP pv s l = 0) : Weighed s.schemas := by
 intro x hx
 have h1 := List.all_eq_true.1 (types_schemas (ck_types h)) x hx
 simp only [schemaOK, Bool.and_eq_true, decide_eq_true_eq] at h1
 refine ⟨by have := h1.1.1.2; omega, fun y hy => ?_⟩
 have h2 := List.all_eq_true.1 h1.2 y hy
 simp only [fieldOK, weightOK, Bool.and_eq_true, decide_eq_true_eq] at h2
 exact h2.2
section
variable {ck : Int} {ss : List QSchema} {a b : List QClaims}
theorem ofL_len : (ofL ck ss a).length = if ofE ck ss a = 0 then 4 else 0 := by
 unfold ofL; split <;> rfl
theorem ofL_no (h : ofE ck ss a ≠ 0) : ofL ck ss a = [] := by rw [ofL, if_neg h]
theorem tot_one (f : QClaims → Int) (c : QClaims) : tot f [c] = f c := by simp [tot]
theorem ofE_sing (c : QClaims) : ofE ck ss [c] = wholeE ck ss c.schema c.fields c.values.length := by
 simp [ofE, wholeE]
theorem ofL_sing {c : QClaims} (h : ofE ck ss [c] = 0) : ofL ck ss [c] = [lkAt ss (·.w0) 1 c, lkAt ss (·.w1) 0 c, lkAt ss (·.w2) 0 c, lkAt ss (·.w3) 0 c] := by
 simp only [ofL, if_pos h, t0, t1, t2, t3, tot_one]
theorem wholeE_parts {sc : Int} {F : List Int} {nv : Nat} (h : wholeE ck ss sc F nv = 0) : ck = 0 ∧ fitsP ss sc F nv = true := by
 unfold wholeE at h
 split at h
 ·
  split at h
  · exact ⟨‹_›, ‹_›⟩
  · cases h
 · cases h
theorem wholeE_of {sc : Int} {F : List Int} {nv : Nat} (h1 : ck = 0) (h2 : fitsP ss sc F nv = true) : wholeE ck ss sc F nv = 0 := by
 rw [wholeE, if_pos h1, if_pos h2]
theorem wholeL_yes {sc : Int} {F : List Int} {nv : Nat} (h : wholeE ck ss sc F nv = 0) {x : QSchema} (hx : ss[sc.toNat]? = some x) : wholeL ck ss sc F nv = closL x.fields.length (x.deps.map depOf) F := by
 rw [wholeL, if_pos h, hx]
end
theorem fitsGo_iff {n : Nat} : ∀ {l : List Int} {last : Int}, fitsGo n last l = true ↔ (∀ f ∈ l, last < f ∧ f < n) ∧ l.Pairwise (· < ·) := by
 intro l
 induction l with
 | nil => intro last; simp [fitsGo]
 |
  cons x r ih =>
  intro last
  rw [fitsGo, Bool.and_eq_true, Bool.and_eq_true, ih]
  simp only [decide_eq_true_eq, List.mem_cons, forall_eq_or_imp, List.pairwise_cons]
  constructor
  ·
   rintro ⟨⟨h1, h2⟩, h3, h4⟩
   exact ⟨⟨⟨h1, h2⟩, fun f hf => ⟨by have := (h3 f hf).1; omega, (h3 f hf).2⟩⟩, fun f hf => (h3 f hf).1, h4⟩
  ·
   rintro ⟨⟨⟨h1, h2⟩, h3⟩, h4, h5⟩
   exact ⟨⟨h1, h2⟩, fun f hf => ⟨h4 f hf, (h3 f hf).2⟩, h5⟩
section
variable {pv : QConvert → Bool} {s : QSource} {l : List Int}
theorem fit_closOk (hck : checkP pv s l = 0) {sc : Int} {F : List Int} {nv : Nat} (hf : fitsP s.schemas sc F nv = true) : ∃ x, s.schemas[sc.toNat]? = some x ∧ 0 ≤ sc ∧ sc < s.schemas.length ∧ F.length = nv ∧ closOk x.fields.length (x.deps.map depOf) F = true ∧ F.Pairwise (· < ·) := by
 obtain ⟨h0, h1, h2⟩ := fitsP_yes hf
 have hlt : sc.toNat < s.schemas.length := by omega
 have hx := List.getElem?_eq_getElem hlt
 refine ⟨s.schemas[sc.toNat], hx, h0, h1, h2, closOk_of (ck_det hck _ (List.mem_of_getElem? hx)) ?_, ?_⟩
 ·
  simp only [fitsP, Bool.and_eq_true] at hf
  have h3 := hf.2
  rw [hx] at h3
  simp only [Option.any_some] at h3
  intro f hf
  have := (fitsGo_iff.1 h3).1 f hf
  omega
 ·
  simp only [fitsP, Bool.and_eq_true] at hf
  have h3 := hf.2
  rw [hx] at h3
  simp only [Option.any_some] at h3
  exact (fitsGo_iff.1 h3).2
end
theorem sumI_cons (g : QField → Int) (y : QField) (l : List QField) : sumI g (y :: l) = g y + sumI g l := by
 have go : ∀ (l : List QField) (s : Int), l.foldl (fun s x => s + g x) s = s + l.foldl (fun s x => s + g x) 0 := by
  intro l
  induction l with
  | nil => intro s; simp
  | cons x l ih => intro s; rw [List.foldl_cons, List.foldl_cons, ih, ih (0 + g x)]; omega
 unfold sumI
 rw [List.foldl_cons, go]; omega
def addW (fs : List QField) (X : List Int) (g : QField → Int) (Y : List Int) : Int := sumI g (pickF fs (Y.filter fun f => !X.contains f))
theorem pick_split (fs : List QField) (g : QField → Int) (X : List Int) : ∀ (Y : List Int), sumI g (pickF fs Y) = sumI g (pickF fs (Y.filter fun f => X.contains f)) + addW fs X g Y
 | [] => by simp [addW, pickF, sumI]
 |
  y :: Y => by
  have ih := pick_split fs g X Y
  unfold addW at ih ⊢
  by_cases hm : X.contains y = true
  ·
   rw [List.filter_cons_of_pos (by simpa using hm), List.filter_cons_of_neg (by simpa using hm)]
   unfold pickF at ih ⊢
   rw [List.filterMap_cons, List.filterMap_cons]
   cases fs[y.toNat]? with
   | none => exact ih
   | some z => simp only [sumI_cons]; rw [ih]; omega
  ·
   rw [List.filter_cons_of_neg (by simpa using hm), List.filter_cons_of_pos (by simpa using hm)]
   unfold pickF at ih ⊢
   rw [List.filterMap_cons, List.filterMap_cons]
   cases fs[y.toNat]? with
   | none => exact ih
   | some z => simp only [sumI_cons]; rw [ih]; omega
theorem sorted_filter {X Y : List Int} (hx : X.Pairwise (· < ·)) (hy : Y.Pairwise (· < ·)) (hs : ∀ f ∈ X, f ∈ Y) : Y.filter (fun f => X.contains f) = X := by
 refine List.Perm.eq_of_pairwise (le := (· < ·)) (fun a b _ _ h1 h2 => by omega) (hy.filter _) hx ?_
 refine (List.perm_ext_iff_of_nodup ((hy.filter _).imp (fun h => by omega)) (hx.imp (fun h => by omega))).2 fun f => ?_
 simp only [List.mem_filter, List.contains_iff_mem]
 exact ⟨fun h => h.2, fun h => ⟨hs f h, h⟩⟩
theorem addW_eq {fs : List QField} {X Y : List Int} (hx : X.Pairwise (· < ·)) (hy : Y.Pairwise (· < ·)) (hs : ∀ f ∈ X, f ∈ Y) (g : QField → Int) : sumI g (pickF fs Y) = sumI g (pickF fs X) + addW fs X g Y := by
 rw [pick_split fs g X Y, sorted_filter hx hy hs]
theorem addW_snoc {fs : List QField} {X Y : List Int} {y : Int} {g : QField → Int} {z : QField} (hz : fs[y.toNat]? = some z) : addW fs X g (Y ++ [y]) = addW fs X g Y + (if X.contains y then 0 else g z) := by
 unfold addW
 rw [List.filter_append]
 by_cases hm : X.contains y = true
 · rw [if_pos hm, List.filter_cons_of_neg (by simpa using hm)]; simp
 ·
  rw [if_neg hm, List.filter_cons_of_pos (by simpa using hm)]
  unfold pickF
  rw [List.filterMap_append]
  simp [hz, sumI_snoc]
theorem addW_nonneg {fs : List QField} {X Y : List Int} {g : QField → Int} (hg : ∀ y ∈ fs, 0 ≤ g y ∧ g y ≤ 9) : 0 ≤ addW fs X g Y ∧ addW fs X g Y ≤ 9 * Y.length := by
 have h1 := sumI_bound g (pickF fs (Y.filter fun f => !X.contains f)) (fun y hy => hg y (pickF_mem hy))
 have h2 := pickF_len fs (Y.filter fun f => !X.contains f)
 have h3 := List.length_filter_le (fun f => !X.contains f) Y
 unfold addW
 omega
set_option maxHeartbeats 1000000 in
theorem differentInt_any (A : Option Addr) (n c : Nat) (l : List Int) (w : World) (hs : SlR 1 iR w (.slice A n c) l) :
 Calls Tryz.prog 133 #[.slice A n c] w fun e w' => e = .returned (.bool (diffGo [] l)) ∧ Below w.heap.size w w' := by
 have hn2 : n ≤ 9223372036854775807 := by have := hs.le; omega
 have HN := Lib.hid hs.len
 have HS := Lib.hid hs
 clear hs
 have hmm : ∀ (n : Int) (w : World), (Instr.makeMap 123 (some (.int .i64 n))).run Tryz.prog w = .ok (.map (some w.heap.size)) (w.alloc (.map #[] 0)) := by
  intro n w
  simp [Instr.makeMap, run_underlying Tryz.underlying123, asInt, asIntOf]
 obtain ⟨v, hv⟩ : ∃ v, diffGo [] l = v := ⟨_, rfl⟩
 rw [hv]
 have HV : Hid (diffGo (l.take 0) (l.drop 0) = v) := Lib.hid hv
 clear hv
 go_enter Tryz.func133, Tryz.ntmps133
 go_wp2_with fail
 clear hmm
 have hm0 : MapAt (Value.int .i64) Value.bool (w.alloc (.map #[] 0)) w.heap.size (seenM (l.take 0)) := MapAt.new _ _ w
 have hb0 : Below w.heap.size w (w.alloc (.map #[] 0)) := (Below.refl _ _).alloc (Nat.le_refl _) _
 have HM0 := Lib.hid hm0
 have HB0 := Lib.hid hb0
 clear hm0 hb0
 go_loopg [11] n (fun g i wr => ∃ k : Nat, k ≤ n ∧ g = n - k ∧ i = .int .i64 k ∧ diffGo (l.take k) (l.drop k) = v ∧ MapAt (Value.int .i64) Value.bool wr w.heap.size (seenM (l.take k)) ∧ Below w.heap.size w wr)
 case atStart => exact ⟨0, Nat.zero_le _, rfl, rfl, HV.out, HM0.out, HB0.out⟩
 case round =>
  clear HM0 HB0 HV
  obtain ⟨k, hk, hg, rfl, hv, hm, hb⟩ := hrel
  have HG := Lib.hid hg
  have HB := Lib.hid hb
  by_cases hlt : k < n
  ·
   obtain ⟨b, off, x, rfl, hbl, hx, hc⟩ := i_at (HS.out.mono iR_mono HB.out) hlt
   rw [drop_cons hx, diffGo] at hv
   have hlook := run_lookup_m (keyEq_int Tryz.underlying3) Tryz.underlying123 (z := .bool false) (by kernel_rfl) hm x false
   rw [getM_seen] at hlook
   by_cases hmem : x ∈ l.take k
   ·
    rw [if_pos hmem] at hv hlook
    subst hv
    simp only [Option.map_some, Option.getD_some, Bool.false_eq_true, if_false] at hlook
    clear hx hg hb hm hmem
    go_wp2_with fail
    go_ret
    exact ⟨rfl, HB.out⟩
   ·
    rw [if_neg hmem] at hv hlook
    simp only [Option.map_none, Option.getD_none, Bool.false_eq_true, if_false] at hlook
    obtain ⟨w3, hrun3, hm3, hg3⟩ := run_update_m (keyEq_int Tryz.underlying3) Tryz.underlying123 hm x true
    rw [putM_seen _ _ hmem, ← take_snoc hx] at hm3
    rw [← take_snoc hx] at hv
    have HB3 := Lib.hid (HB.out.grown hg3 HB.out.size (fun r e => by cases e; exact Nat.le_refl _))
    have HM3 := Lib.hid hm3
    have HV3 := Lib.hid hv
    clear hm3 hg3 hv hx hg hb hm hmem
    go_wp2_with fail
    go_roundg (n - (k + 1))
    case measure => have := HG.out; omega
    case rel => exact ⟨k + 1, by omega, rfl, by go_num, HV3.out, HM3.out, HB3.out⟩
  ·
   rw [List.drop_of_length_le (by have := HN.out; omega)] at hv
   subst hv
   clear hm hb
   go_wp2_with fail
   go_ret
   exact ⟨rfl, HB.out⟩
def zT : QType := ⟨0, 0, 0, ⟨#[]⟩, 0, []⟩
def RetType (o : Option QType) (w0 w : World) (e : Ending) (w' : World) : Prop :=
 (∃ B m d, e = .returned (.tuple #[.agg #[.int .i64 (o.getD zT).kind, .int .i64 (o.getD zT).lo, .int .i64 (o.getD zT).hi, .string (o.getD zT).of_, .int .i64 (o.getD zT).unit, .slice B m d], .bool o.isSome]) ∧ SlB 1 16 strR w0 (.slice B m d) (o.getD zT).names) ∧ Below w.heap.size w w'
set_option maxHeartbeats 4000000 in
set_option maxRecDepth 100000 in
theorem typeOf_any (A1 A2 A3 A4 A5 A6 : Option Addr) (n1 c1 n2 c2 n3 c3 n4 c4 n5 c5 n6 c6 : Nat) (s f : Int) (ss : List QSchema) (w0 w : World) (hb0 : Below w0.heap.size w0 w) (h3 : SlR 6 qSchemaR w0 (.slice A3 n3 c3) ss) :
 Calls Tryz.prog 131 #[(.agg #[.slice A1 n1 c1, .slice A2 n2 c2, .slice A3 n3 c3, .slice A4 n4 c4, .slice A5 n5 c5, .slice A6 n6 c6]), .int .i64 s, .int .i64 f] w (RetType (typeAt ss s f) w0 w) := by
 have hn3 : n3 ≤ 9223372036854775807 := by have := h3.le; omega
 have HLN := Lib.hid h3.len
 have H3 := Lib.hid h3
 have HB0 := Lib.hid hb0
 clear h3 hb0
 by_cases hin : 0 ≤ s ∧ s < n3
 case neg =>
  have HT : Hid (typeAt ss s f = none) := Lib.hid (by
   unfold typeAt
   split
   · rfl
   ·
    have : ss[s.toNat]? = none := List.getElem?_eq_none (by have := HLN.out; omega)
    rw [this]; rfl)
  rw [HT.out]
  go_enter Tryz.func131, Tryz.ntmps131
  go_wp2_with fail
  all_goals first
   | (exfalso; omega)
   | exact bodyPost_ret (v := .tuple #[.agg #[.int .i64 0, .int .i64 0, .int .i64 0, .string ⟨#[]⟩, .int .i64 0, .slice none 0 0], .bool false]) (by simp [results, Tryz.results131, go_sem]) rfl ⟨⟨_, _, _, rfl, SlR.nil _ _ (Nat.zero_le _), by simp [zT]⟩, ((Below.refl _ _).alloc (Nat.le_refl _) _).alloc (by simp) _⟩
 obtain ⟨k, rfl⟩ : ∃ k : Nat, s = k := ⟨s.toNat, by omega⟩
 obtain ⟨b, off, x, B1, m1, d1, B2, m2, d2, hA3, hbl, hx, e0, e1, e2, e3, e4, e5, G1, G2⟩ := qSchema_at H3.out (k := k) (by omega)
 subst hA3
 have hk0 : (0 : Int) ≤ (k : Int) := by omega
 have hk1 : (k : Int) < (n3 : Int) := by omega
 have hm1 : m1 ≤ 9223372036854775807 := by have := G1.1.le; omega
 have HM1 := Lib.hid G1.1.len
 rw [← HB0.out.cell (p := ⟨b, _, none⟩) hbl] at e4
 have hblw : b < w.heap.size := Nat.lt_of_lt_of_le hbl HB0.out.size
 have HX : Hid (typeAt ss k f = if f < 0 then none else (x.fields[f.toNat]?).map fun y => y.type) := Lib.hid (by
  unfold typeAt
  by_cases hf : f < 0
  · rw [if_pos (.inr hf), if_pos hf]
  · rw [if_neg (by omega), if_neg hf, Int.toNat_natCast, hx]; rfl)
 have HG1 := Lib.hid G1
 clear hx G1 G2 e0 e1 e2 e3 e5 hin
 by_cases hfi : 0 ≤ f ∧ f < m1
 case neg =>
  have HT : Hid (typeAt ss k f = none) := Lib.hid (by
   rw [HX.out]
   split
   · rfl
   ·
    have : x.fields[f.toNat]? = none := List.getElem?_eq_none (by have := HM1.out; omega)
    rw [this]; rfl)
  rw [HT.out]
  go_enter Tryz.func131, Tryz.ntmps131
  go_wp2_with fail
  all_goals first
   | (exfalso; omega)
   | exact bodyPost_ret (v := .tuple #[.agg #[.int .i64 0, .int .i64 0, .int .i64 0, .string ⟨#[]⟩, .int .i64 0, .slice none 0 0], .bool false]) (by simp [results, Tryz.results131, go_sem]) rfl ⟨⟨_, _, _, rfl, SlR.nil _ _ (Nat.zero_le _), by simp [zT]⟩, ((Below.refl _ _).alloc (Nat.le_refl _) _).alloc (by simp) _⟩
 obtain ⟨j, rfl⟩ : ∃ j : Nat, f = j := ⟨f.toNat, by omega⟩
 obtain ⟨b', off', y, C, mc, dc, hB1, hbl', hy, f0, f1, f2, f3, f4, f5, f6, f7, f8, f9, f10, G3⟩ := qField_at HG1.out.1 (k := j) (by omega)
 subst hB1
 have hj0 : (0 : Int) ≤ (j : Int) := by omega
 have hj1 : (j : Int) < (m1 : Int) := by omega
 have HT : Hid (typeAt ss k j = some y.type) := Lib.hid (by
  rw [HX.out, if_neg (by omega), Int.toNat_natCast, hy]; rfl)
 rw [HT.out]
 have HG3 := Lib.hid G3
 rw [← HB0.out.cell (p := ⟨b', _, none⟩) hbl'] at f1 f2 f3 f4 f5 f6
 have hblw' : b' < w.heap.size := Nat.lt_of_lt_of_le hbl' HB0.out.size
 clear hy G3 f0 f7 f8 f9 f10 hfi
 have HB : Hid (∀ o1 o2, Below w.heap.size w ((w.alloc o1).alloc o2)) := Lib.hid fun o1 o2 => (((Below.refl _ _).alloc (Nat.le_refl _) _).alloc (by simp) _)
 go_enter Tryz.func131, Tryz.ntmps131
 go_wp2_with fail
 exact bodyPost_ret (v := .tuple #[.agg #[.int .i64 y.type.kind, .int .i64 y.type.lo, .int .i64 y.type.hi, .string y.type.of_, .int .i64 y.type.unit, .slice C mc dc], .bool true]) (by simp [results, Tryz.results131, go_sem]) rfl ⟨⟨_, _, _, rfl, HG3.out⟩, ((Below.refl _ _).alloc (Nat.le_refl _) _).alloc (by simp) _⟩
set_option maxHeartbeats 2000000 in
theorem isNumber_any (t : QTerm) (w : World) :
 Calls Tryz.prog 200 #[.agg #[.string t.name, .string t.path, .int .i64 t.var, .int .i64 t.field, .int .i64 t.n]] w fun e w' => e = .returned (.bool (isNum t)) ∧ Below w.heap.size w w' := by
 go_enter Tryz.func200, Tryz.ntmps200
 go_wp2_with fail
 all_goals
  go_ret
  refine ⟨ret_bool ?_, (Below.refl _ _).alloc (Nat.le_refl _) _⟩
  go_light
  first
   | (simp_all [isNum]; done)
   | (simp_all [isNum]; intros; exfalso; omega)
   | (simp_all [isNum]; intros; omega)
theorem Blk.six' {w : World} {g : Nat} {t : TypeId} {a b c d e f : Value} (h : Blk w g t #[a, b, c, d, e, f]) :
 w.cell? ⟨g, 0, none⟩ = some a ∧ w.cell? ⟨g, 1, none⟩ = some b ∧ w.cell? ⟨g, 2, none⟩ = some c ∧ w.cell? ⟨g, 3, none⟩ = some d ∧ w.cell? ⟨g, 4, none⟩ = some e ∧ w.cell? ⟨g, 5, none⟩ = some f :=
 ⟨h.cell 0, h.cell 1, h.cell 2, h.cell 3, h.cell 4, h.cell 5⟩
def refOK (ss : List QSchema) (r : QRef) : Bool := (typeAt ss r.schema r.field).isSome
theorem purposeOK_eq (ss : List QSchema) (p : QPurpose) : purposeOK ss p = (p.may.all (refOK ss) && decide (0 ≤ p.most) && decide (p.most ≤ 64)) := rfl
theorem purpose_no {ss : List QSchema} {p : QPurpose} {k : Nat} {x : QRef} (hx : p.may[k]? = some x) (h : typeAt ss x.schema x.field = none) : purposeOK ss p = false := by
 rw [purposeOK_eq, all_at hx (by rw [refOK, h]; rfl)]; rfl
set_option maxHeartbeats 8000000 in
set_option maxRecDepth 100000 in
theorem purposeOK_any (A1 A2 A3 A4 A5 A6 : Option Addr) (n1 c1 n2 c2 n3 c3 n4 c4 n5 c5 n6 c6 : Nat) (nm : ByteArray) (may : List QRef) (most : Int) (B : Option Addr) (m d : Nat) (ss : List QSchema) (w0 w : World) (hb0 : Below w0.heap.size w0 w) (h3 : SlR 6 qSchemaR w0 (.slice A3 n3 c3) ss) (hm : SlR 4 qRefR w (.slice B m d) may) :
 Calls Tryz.prog 75 #[(.agg #[.slice A1 n1 c1, .slice A2 n2 c2, .slice A3 n3 c3, .slice A4 n4 c4, .slice A5 n5 c5, .slice A6 n6 c6]), .agg #[.string nm, .slice B m d, .int .i64 most]] w fun e w' => e = .returned (.bool (purposeOK ss ⟨nm, may, most⟩)) ∧ Below w.heap.size w w' := by
 have hm1 : m ≤ 9223372036854775807 := by have := hm.le; omega
 have HLM := Lib.hid hm.len
 have HM := Lib.hid hm
 have H3 := Lib.hid h3
 have HB0 := Lib.hid hb0
 clear hm h3 hb0
 obtain ⟨wb, hwb⟩ : ∃ wb, wb = (w.alloc (.cells #[.slice A1 n1 c1, .slice A2 n2 c2, .slice A3 n3 c3, .slice A4 n4 c4, .slice A5 n5 c5, .slice A6 n6 c6] 110)).alloc (.cells #[.string nm, .slice B m d, .int .i64 most] 89) := ⟨_, rfl⟩
 have hbb : Below w.heap.size w wb := by rw [hwb]; exact (((Below.refl _ _).alloc (Nat.le_refl _) _).alloc (by simp) _)
 have kA : Blk wb w.heap.size 110 #[.slice A1 n1 c1, .slice A2 n2 c2, .slice A3 n3 c3, .slice A4 n4 c4, .slice A5 n5 c5, .slice A6 n6 c6] := by rw [hwb]; exact (Blk.new _ _ _).alloc _
 have kB : Blk wb (w.heap.size + 1) 89 #[.string nm, .slice B m d, .int .i64 most] := by rw [hwb]; exact blkNew (by simp)
 obtain ⟨ga, hga⟩ : ∃ g, g = w.heap.size := ⟨_, rfl⟩
 obtain ⟨gb, hgb⟩ : ∃ g, g = w.heap.size + 1 := ⟨_, rfl⟩
 rw [← hgb] at kB
 rw [← hga] at kA
 have HA := Lib.hid kA
 have HB := Lib.hid kB
 have HBB := Lib.hid hbb
 have HWB := Lib.hid hwb
 have b1 := kB.cell 1
 simp only [List.getElem?_toArray, List.getElem?_cons_zero, List.getElem?_cons_succ] at b1
 have lA := kA.lt
 have lB := kB.lt
 clear kA kB hbb hwb
 go_enter Tryz.func75, Tryz.ntmps75
 go_upto_region 1 with fail
 rw [← HWB.out, ← hgb, ← hga]
 clear HWB hga hgb
 go_wp2_with fail
 clear b1
 go_loopg [12] m (fun q i wr => ∃ k : Nat, k ≤ m ∧ q = m - k ∧ i = .int .i64 k ∧ (may.take k).all (refOK ss) = true ∧ Below wb.heap.size wb wr)
 case atStart => exact ⟨0, Nat.zero_le _, rfl, rfl, rfl, Below.refl _ _⟩
 case round =>
  obtain ⟨k, hk, hq, rfl, hall, hb⟩ := hrel
  have HQ := Lib.hid hq
  have HALL := Lib.hid hall
  have HBR := Lib.hid hb
  have HBW : Hid (Below w.heap.size w wr) := Lib.hid (HBB.out.trans (hb.mono HBB.out.size))
  obtain ⟨a0, a1, a2, a3, a4, a5⟩ := (HA.out.below hb lA).six'
  have lAr : ga < wr.heap.size := Nat.lt_of_lt_of_le lA hb.size
  have lBr : gb < wr.heap.size := Nat.lt_of_lt_of_le lB hb.size
  have q1 := (HB.out.below hb lB).cell 1
  have q2 := (HB.out.below hb lB).cell 2
  simp only [List.getElem?_toArray, List.getElem?_cons_zero, List.getElem?_cons_succ] at q1 q2
  clear hq hall hb
  by_cases hlt : k < m
  case neg =>
   have HT : Hid (may.all (refOK ss) = true) := by
    have := HALL.out
    rw [List.take_of_length_le (by have := HLM.out; omega)] at this
    exact this
   have HE : Hid (purposeOK ss ⟨nm, may, most⟩ = (decide (0 ≤ most) && decide (most ≤ 64))) := Lib.hid (by rw [purposeOK_eq, HT.out]; rfl)
   go_wp2_with fail
   all_goals
    go_ret
    refine ⟨ret_bool (Eq.trans ?_ HE.out.symm), HBW.out⟩
    go_light
    first
     | rfl
     | (simp_all; done)
     | (simp_all; omega)
  obtain ⟨b, off, x, hB1, hbl, hx, e0, e1, e2, e3⟩ := qRef_at (HM.out.mono qRefR_mono HBW.out) hlt
  subst hB1
  have hk0 : (0 : Int) ≤ (k : Int) := by omega
  have hk1 : (k : Int) < (m : Int) := by omega
  have HX := Lib.hid hx
  clear hx
  have HT := Lib.hid (fun o => typeOf_any A1 A2 A3 A4 A5 A6 n1 c1 n2 c2 n3 c3 n4 c4 n5 c5 n6 c6 x.schema x.field ss w0 (wr.alloc o) (HB0.out.trans ((HBW.out.alloc HBW.out.size o).mono HB0.out.size)) H3.out)
  obtain ⟨o, ho⟩ : ∃ o, typeAt ss x.schema x.field = o := ⟨_, rfl⟩
  rw [ho] at HT
  have HO := Lib.hid ho
  clear ho
  cases o with
  |
   none =>
   have HN : Hid (purposeOK ss ⟨nm, may, most⟩ = false) := Lib.hid (purpose_no HX.out HO.out)
   go_wp2_with (go_at_call 131; refine (HT.out _).mono ?_; clear HT; rintro e w2 ⟨⟨B', m', d', rfl, hs⟩, hb2⟩; have HB2 := Lib.hid ((HBW.out.alloc HBW.out.size _).trans (hb2.mono (by have := HBW.out.size; simp; omega))); clear hs hb2; simp only [Option.isSome_none])
   go_ret
   exact ⟨ret_bool HN.out.symm, HB2.out.alloc HB2.out.size _⟩
  |
   some y =>
   obtain ⟨yk, yl, yh, yf, yu, yn⟩ := y
   go_wp2_with (go_at_call 131; refine (HT.out _).mono ?_; clear HT; rintro e w2 ⟨⟨B', m', d', rfl, hs⟩, hb2⟩; have HB2 := Lib.hid ((HBR.out.alloc HBR.out.size _).trans (hb2.mono (by have := HBR.out.size; simp; omega))); clear hs hb2; simp only [Option.getD_some, Option.isSome_some])
   go_roundg (m - (k + 1))
   case measure => have := HQ.out; omega
   case rel => exact ⟨k + 1, by omega, rfl, by go_num, all_take HX.out (by rw [refOK, HO.out]; rfl) HALL.out, HB2.out.alloc HB2.out.size _⟩
end Go.Proofs.YtkgmonplcdnnbaaGreat
