/- Package leakage: Fields. -/
import Derived.Test.YtkgmonplcdnnbaaGreatLkDet
import Derived.Test.YtkgmonplcdnnbaaGreatRuW4
import Derived.Deep.RegionHeld3
namespace Go.Proofs.YtkgmonplcdnnbaaGreat
open Go.RowKit Go.Shelf
attribute [local go_sem] Oper.semAt_some

def w4V (a b c d : Int) : Array Value := #[.int .i64 a, .int .i64 b, .int .i64 c, .int .i64 d]
def sumI (g : QField → Int) (l : List QField) : Int := l.foldl (fun s x => s + g x) 0
theorem sumI_snoc (g : QField → Int) (l : List QField) (x : QField) : sumI g (l ++ [x]) = sumI g l + g x := by simp [sumI, List.foldl_append]
theorem foldl_bound (g : QField → Int) : ∀ (l : List QField) (s : Int), (∀ x ∈ l, 0 ≤ g x ∧ g x ≤ 9) → s ≤ l.foldl (fun s x => s + g x) s ∧ l.foldl (fun s x => s + g x) s ≤ s + 9 * l.length
  | [], s, _ => by simp
  | x :: l, s, h => by
    have h1 := h x (by simp)
    have h2 := foldl_bound g l (s + g x) (fun y hy => h y (by simp [hy]))
    simp only [List.foldl_cons, List.length_cons]
    omega
theorem sumI_bound (g : QField → Int) (l : List QField) (h : ∀ x ∈ l, 0 ≤ g x ∧ g x ≤ 9) : 0 ≤ sumI g l ∧ sumI g l ≤ 9 * l.length := by
  have := foldl_bound g l 0 h
  unfold sumI
  omega

/-- The fields behind the numbers. -/
def pickF (fs : List QField) (L : List Int) : List QField := L.filterMap fun f => fs[f.toNat]?
def fieldsV (fs : List QField) (L : List Int) : Array Value := w4V (1 + sumI (·.w0) (pickF fs L)) (sumI (·.w1) (pickF fs L)) (sumI (·.w2) (pickF fs L)) (sumI (·.w3) (pickF fs L))
theorem pick_sel {fs : List QField} : ∀ (xs : List (Sel fs)), pickF fs (xs.map (·.f)) = xs.map Sel.x
  | [] => rfl
  | x :: xs => by
    have ih := pick_sel xs
    unfold pickF at ih ⊢
    simp [x.hx, ih]
def accAt (a b c d : Int) (x : QField) : Nat → Array Value
  | 0 => w4V a b c d
  | 1 => w4V (a + x.w0) b c d
  | 2 => w4V (a + x.w0) (b + x.w1) c d
  | 3 => w4V (a + x.w0) (b + x.w1) (c + x.w2) d
  | _ => w4V (a + x.w0) (b + x.w1) (c + x.w2) (d + x.w3)

theorem ptOf_ints {W : World} {r t : Nat} {a b c d : Int} (h : Blk W r t (w4V a b c d)) : ptOf r W = none := by
  have := h.cell 0
  unfold ptOf
  simp only [w4V, List.getElem?_toArray, List.getElem?_cons_zero] at this
  simp [this, Value.ownBlock]

theorem KpE.set {r0 : Nat} {W : World} {t i : Nat} {a b c d a' b' c' d' : Int} {u : Value} (h : Blk W r0 t (w4V a b c d)) (h' : Blk (W.setCell ⟨r0, i, none⟩ u) r0 t (w4V a' b' c' d')) : KpE r0 W (W.setCell ⟨r0, i, none⟩ u) :=
  ⟨by simp [World.setCell], fun q cs t fz hq hne _ => Below.heap_setCell _ _ _ _ hne, .inl ((ptOf_ints h').trans (ptOf_ints h).symm)⟩

/-- What a round's own loop knows. -/
structure RdF (r0 : Nat) (a b c d : Int) (x : QField) (j : Nat) (Z Z' : World) : Prop where
  blk : Blk Z' r0 56 (accAt a b c d x j)
  kp : KpE r0 Z Z'
  oth : KeepsOthers Z Z'
  old : Below r0 Z Z'
theorem RdF.put {r0 : Nat} {a b c d : Int} {x : QField} {j : Nat} {Z Z' : World} (h : RdF r0 a b c d x j Z Z') {i : Nat} {u : Value} (h' : Blk (Z'.setCell ⟨r0, i, none⟩ u) r0 56 (accAt a b c d x (j + 1))) : RdF r0 a b c d x (j + 1) Z (Z'.setCell ⟨r0, i, none⟩ u) := by
  refine ⟨h', h.kp.trans ?_, h.oth.trans (KeepsOthers.setCell _ _ _), h.old.setCell (Nat.le_refl _) _⟩
  have hh := h.blk
  unfold accAt at hh h'
  split at hh <;> split at h' <;> first | exact KpE.set hh h' | omega

set_option maxHeartbeats 8000000 in
set_option maxRecDepth 100000 in
theorem Fields_any (s1 s2 : ByteArray) (i1 i2 : Int) (fA dA A : Option Addr) (nf fc nd dc n c : Nat) (fs : List QField) (ds : List Dep) (l : List Int) (w : World)
    (hfd : SlR 11 qFieldR w (.slice fA nf fc) fs) (hs : SlR 4 depR w (.slice dA nd dc) ds) (hl : SlR 1 intR w (.slice A n c) l) (hnf : nf ≤ 1000)
    (hwt : ∀ x ∈ fs, (0 ≤ x.w0 ∧ x.w0 ≤ 9) ∧ (0 ≤ x.w1 ∧ x.w1 ≤ 9) ∧ (0 ≤ x.w2 ∧ x.w2 ≤ 9) ∧ (0 ≤ x.w3 ∧ x.w3 ≤ 9)) :
    Calls Tryz.prog 26 #[.agg #[.string s1, .string s2, .int .i64 i1, .int .i64 i2, .slice fA nf fc, .slice dA nd dc], .slice A n c] w fun e w' => e = .returned (.agg (fieldsV fs (closL nf ds l))) ∧ Below w.heap.size w w' := by
  refine (callsIn_wide (n := 8)).1 ?_
  have hLL : (closL nf ds l).length ≤ nf := by
    unfold closL
    split
    · exact listX_len _ _
    · simp
  have HFD := Lib.hid hfd
  have HS := Lib.hid hs
  have HL := Lib.hid hl
  have HWT := Lib.hid hwt
  have HLL := Lib.hid hLL
  clear hfd hs hl hwt hLL
  refine callsIn_of_wp_marks Tryz.func26 rfl trivial ?_ rfl
  simp only [Tryz.ntmps26, List.size_toArray, List.length_cons, List.length_nil, Nat.reduceAdd, Nat.reduceSub, Array.replicate_succ, Array.replicate_zero, List.push_toArray, List.append_toArray, List.nil_append, List.cons_append]
  refine wpIn_wide.2 ?_
  go_wp2_with (go_at_call 30; refine (determined_any' _ _ _ _ _ _ _ _ _ _ _ _ _ _).mono ?_)
  first | rintro e w2 rfl hw2 | rintro e w2 ⟨rfl, hw2⟩
  have hbW : Below w.heap.size w w2 := by
    rw [hw2]
    exact (((Below.refl _ _).alloc (Nat.le_refl _) _).alloc (by simp) _).alloc (by simp; omega) _ |>.alloc (by simp; omega) _
  have hsz : w2.heap.size = w.heap.size + 4 := by rw [hw2]; simp
  have hr0 : Blk w2 (w.heap.size + 1) 56 (w4V 1 0 0 0) := by
    rw [hw2]
    have := Blk.new (w.alloc (.cells #[.string s1, .string s2, .int .i64 i1, .int .i64 i2, .slice fA nf fc, .slice dA nd dc] 52)) 56 #[.int .i64 1, .int .i64 0, .int .i64 0, .int .i64 0]
    rw [World.size_alloc] at this
    exact (this.alloc _).alloc _
  have hbs : Blk w2 (w.heap.size + 1 + 1) 52 #[.string s1, .string s2, .int .i64 i1, .int .i64 i2, .slice fA nf fc, .slice dA nd dc] := by
    rw [hw2]
    have := Blk.new ((w.alloc (.cells #[.string s1, .string s2, .int .i64 i1, .int .i64 i2, .slice fA nf fc, .slice dA nd dc] 52)).alloc (.cells #[.int .i64 1, .int .i64 0, .int .i64 0, .int .i64 0] 56)) 52 #[.string s1, .string s2, .int .i64 i1, .int .i64 i2, .slice fA nf fc, .slice dA nd dc]
    rw [World.size_alloc, World.size_alloc] at this
    exact this.alloc _
  have hbf : Blk w2 (w.heap.size + 1 + 1 + 1) 30 #[.slice A n c] := by
    rw [hw2]
    have := Blk.new (((w.alloc (.cells #[.string s1, .string s2, .int .i64 i1, .int .i64 i2, .slice fA nf fc, .slice dA nd dc] 52)).alloc (.cells #[.int .i64 1, .int .i64 0, .int .i64 0, .int .i64 0] 56)).alloc (.cells #[.string s1, .string s2, .int .i64 i1, .int .i64 i2, .slice fA nf fc, .slice dA nd dc] 52)) 30 #[.slice A n c]
    rw [World.size_alloc, World.size_alloc, World.size_alloc] at this
    exact this
  clear hw2
  go_wp2_with fail
  refine (wpIn_wide (n := 8)).1 ?_
  refine wpIn_rangeFunc_ownH (F := Fence.wide) rfl (by omega) (gf := 39) (lb := #[.pointer (some ⟨w.heap.size + 1 + 1, 0, none⟩), .pointer (some ⟨w.heap.size + 1 + 1 + 1, 0, none⟩)]) rfl trivial (enters_of Tryz.func39 (by kernel_rfl) rfl)
    (det1_in 7 (w.heap.size + 1) (w.heap.size + 1 + 1) (w.heap.size + 1 + 1 + 1) w w2 s1 s2 i1 i2 fA dA A nf fc nd dc n c fs ds l hbW hbs hbf (by omega) (by omega) (by omega) (ptOf_ints hr0) HFD.out HS.out HL.out)
    (fun h k => h.trans k) (fun W q o o' hq h h1 _ => KpE.book W q o o' (by omega) h h1) (Below.refl _ _) (fun _ => rfl)
    (fun pre Z => Blk Z (w.heap.size + 1) 56 (w4V (1 + sumI (·.w0) (pre.map Sel.x)) (sumI (·.w1) (pre.map Sel.x)) (sumI (·.w2) (pre.map Sel.x)) (sumI (·.w3) (pre.map Sel.x))) ∧ Below w.heap.size w Z ∧ w2.heap.size ≤ Z.heap.size)
    (fun _ _ _ => False)
    (fun s X Y row hs hg hr => ⟨hs.1.grown hg (fun e => by have := (hr _ e.symm).1; omega), hs.2.1.grown hg (by have := hs.2.2; omega) (fun r e => by have := (hr r e).1; omega), Nat.le_trans hs.2.2 hg.size⟩)
    (fun cd s X Y row hs hg hr => hs.elim)
    ⟨hr0, hbW, Nat.le_refl _⟩
    (fun x a' Z => ∃ Bx, w2.heap.size ≤ Bx ∧ Blk Z Bx 58 #[.string x.x.name, .int .i64 x.x.type.kind, .int .i64 x.x.type.lo, .int .i64 x.x.type.hi, .string x.x.type.of_, .int .i64 x.x.type.unit, .slice x.vA x.vn x.vc, .int .i64 x.x.w0, .int .i64 x.x.w1, .int .i64 x.x.w2, .int .i64 x.x.w3] ∧ a' = { tmps := #[.agg #[.string s1, .string s2, .int .i64 i1, .int .i64 i2, .slice fA nf fc, .slice dA nd dc], .slice A n c, .pointer (some ⟨w.heap.size, 0, none⟩), undef, .pointer (some ⟨w.heap.size + 1, 0, none⟩), undef, .pointer (some ⟨Bx, 0, none⟩), undef, undef, .pointer (some ⟨w.heap.size + 1, 0, none⟩), .agg #[.string s1, .string s2, .int .i64 i1, .int .i64 i2, .slice fA nf fc, .slice dA nd dc], .slice A n c, .func (.func 39) #[] #[.pointer (some ⟨w.heap.size + 1 + 1, 0, none⟩), .pointer (some ⟨w.heap.size + 1 + 1 + 1, 0, none⟩)], .int .i64 x.f, fieldV (.slice x.vA x.vn x.vc) x.x, undef, undef, undef, undef, undef, undef, undef, undef, undef, undef, undef, undef, undef, undef], defers := [] })
    (fun x a' s X Y row hs hg hr => by
      obtain ⟨Bx, hB, hb, ha⟩ := hs
      exact ⟨Bx, hB, hb.grown hg (fun e => by obtain ⟨_, o, ho, hc⟩ := hr _ e.symm; rw [show X.heap[Bx]? = _ from hb] at ho; cases ho; cases hc), ha⟩) ?assign ?body ?done ?stop
  case assign =>
    rintro lp pre x Z K ⟨hbz, hiz, hzz⟩ hK
    dsimp only [detV, fieldV]
    have HKK := Lib.hid hK
    clear hK
    gi_wp2
    exact HKK.out _ _ ((KeepsOthers.alloc _ _).from _) (KpE.alloc _ _ (by omega)) ⟨hbz.alloc _, hiz.alloc (by omega) _, Nat.le_trans hzz (by simp)⟩ ⟨Z.heap.size, hzz, Blk.new _ _ _, rfl⟩
  case body =>
    rintro lp pre x a' Z hlp ⟨rr, hrr⟩ ⟨hbz, hiz, hzz⟩ ⟨Bx, hBx, hbx, rfl⟩ hlt2
    have hxs : ∀ y ∈ pre.map Sel.x, y ∈ fs := fun y hy => by
      obtain ⟨q, _, rfl⟩ := List.mem_map.1 hy
      exact List.mem_of_getElem? q.hx
    have hw0 := HWT.out x.x (List.mem_of_getElem? x.hx)
    have hb0 := sumI_bound (·.w0) (pre.map Sel.x) (fun y hy => (HWT.out y (hxs y hy)).1)
    have hb1 := sumI_bound (·.w1) (pre.map Sel.x) (fun y hy => (HWT.out y (hxs y hy)).2.1)
    have hb2 := sumI_bound (·.w2) (pre.map Sel.x) (fun y hy => (HWT.out y (hxs y hy)).2.2.1)
    have hb3 := sumI_bound (·.w3) (pre.map Sel.x) (fun y hy => (HWT.out y (hxs y hy)).2.2.2)
    rw [List.length_map] at hb0 hb1 hb2 hb3
    have hpl : pre.length ≤ 1000 := by have := HLL.out; omega
    have HSN : Hid (w4V (1 + sumI (·.w0) ((pre ++ [x]).map Sel.x)) (sumI (·.w1) ((pre ++ [x]).map Sel.x)) (sumI (·.w2) ((pre ++ [x]).map Sel.x)) (sumI (·.w3) ((pre ++ [x]).map Sel.x)) = accAt (1 + sumI (·.w0) (pre.map Sel.x)) (sumI (·.w1) (pre.map Sel.x)) (sumI (·.w2) (pre.map Sel.x)) (sumI (·.w3) (pre.map Sel.x)) x.x 4) := Lib.hid (by
      simp only [List.map_append, List.map_cons, List.map_nil, sumI_snoc, accAt, Int.add_assoc])
    obtain ⟨a, ha⟩ : ∃ v, 1 + sumI (·.w0) (pre.map Sel.x) = v := ⟨_, rfl⟩
    obtain ⟨b, hb⟩ : ∃ v, sumI (·.w1) (pre.map Sel.x) = v := ⟨_, rfl⟩
    obtain ⟨c', hc⟩ : ∃ v, sumI (·.w2) (pre.map Sel.x) = v := ⟨_, rfl⟩
    obtain ⟨d, hd⟩ : ∃ v, sumI (·.w3) (pre.map Sel.x) = v := ⟨_, rfl⟩
    have hba : 0 ≤ a ∧ a ≤ 9001 := by omega
    have hbb : 0 ≤ b ∧ b ≤ 9000 := by omega
    have hbc : 0 ≤ c' ∧ c' ≤ 9000 := by omega
    have hbd : 0 ≤ d ∧ d ≤ 9000 := by omega
    rw [ha, hb, hc, hd] at hbz
    rw [ha, hb, hc, hd] at HSN
    clear ha hb hc hd hb0 hb1 hb2 hb3 hxs
    have e7 := hbx.cell 7
    have e8 := hbx.cell 8
    have e9 := hbx.cell 9
    have e10 := hbx.cell 10
    simp only [List.getElem?_toArray, List.getElem?_cons_zero, List.getElem?_cons_succ] at e7 e8 e9 e10
    have HRZ : Hid (RdF (w.heap.size + 1) a b c' d x.x 0 Z Z) := Lib.hid ⟨hbz, KpE.refl _ _, KeepsOthers.refl _, Below.refl _ _⟩
    have HIZ := Lib.hid hiz
    have hZw := hbz.lt
    clear hbz hiz hrr hbx hr0 hbs hbf
    have hi0 : ∀ w : World, (Instr.index 56 (.agg #[.int .i64 x.x.w0, .int .i64 x.x.w1, .int .i64 x.x.w2, .int .i64 x.x.w3]) (.int .i64 0)).run Tryz.prog w = .ok (.int .i64 x.x.w0) w := fun _ => by kernel_rfl
    have hi1 : ∀ w : World, (Instr.index 56 (.agg #[.int .i64 x.x.w0, .int .i64 x.x.w1, .int .i64 x.x.w2, .int .i64 x.x.w3]) (.int .i64 1)).run Tryz.prog w = .ok (.int .i64 x.x.w1) w := fun _ => by kernel_rfl
    have hi2 : ∀ w : World, (Instr.index 56 (.agg #[.int .i64 x.x.w0, .int .i64 x.x.w1, .int .i64 x.x.w2, .int .i64 x.x.w3]) (.int .i64 2)).run Tryz.prog w = .ok (.int .i64 x.x.w2) w := fun _ => by kernel_rfl
    have hi3 : ∀ w : World, (Instr.index 56 (.agg #[.int .i64 x.x.w0, .int .i64 x.x.w1, .int .i64 x.x.w2, .int .i64 x.x.w3]) (.int .i64 3)).run Tryz.prog w = .ok (.int .i64 x.x.w3) w := fun _ => by kernel_rfl
    dsimp only [fieldV]
    gi_wp2
    gi_loopg [17] 4 (fun q i wq => ∃ j : Nat, j ≤ 4 ∧ q = 4 - j ∧ i = .int .i64 j ∧ RdF (w.heap.size + 1) a b c' d x.x j Z wq)
    case atStart => exact ⟨0, Nat.zero_le _, rfl, rfl, HRZ.out⟩
    case round =>
      clear HRZ
      obtain ⟨j, hj, hq, rfl, hrd⟩ := hrel
      obtain ⟨wq, rfl⟩ : ∃ q, q = wr := ⟨_, rfl⟩
      obtain ⟨Z2, rfl⟩ : ∃ q, q = Z := ⟨_, rfl⟩
      have HQ := Lib.hid hq
      have HRD := Lib.hid hrd
      clear hq hrd
      by_cases hj4 : j < 4
      · obtain h0 | h0 | h0 | h0 : j = 0 ∨ j = 1 ∨ j = 2 ∨ j = 3 := by omega
        · subst h0
          have kr := HRD.out.blk
          dsimp only [accAt, w4V] at kr
          have c0 := kr.cell 0
          have c1 := kr.cell 1
          have c2 := kr.cell 2
          have c3 := kr.cell 3
          have fz := kr.frozen 0
          simp only [List.getElem?_toArray, List.getElem?_cons_zero, List.getElem?_cons_succ] at c0 c1 c2 c3
          have HP : Hid (RdF (w.heap.size + 1) a b c' d x.x (0 + 1) Z2 (wq.setCell ⟨w.heap.size + 1, 0, none⟩ (.int .i64 (a + x.x.w0)))) := Lib.hid (HRD.out.put (kr.put 0 _))
          clear kr
          gi_wp2
          go_roundg (4 - (0 + 1))
          case measure => have := HQ.out; omega
          case rel => exact ⟨0 + 1, by omega, rfl, by go_num, HP.out⟩
        · subst h0
          have kr := HRD.out.blk
          dsimp only [accAt, w4V] at kr
          have c0 := kr.cell 0
          have c1 := kr.cell 1
          have c2 := kr.cell 2
          have c3 := kr.cell 3
          have fz := kr.frozen 1
          simp only [List.getElem?_toArray, List.getElem?_cons_zero, List.getElem?_cons_succ] at c0 c1 c2 c3
          have HP : Hid (RdF (w.heap.size + 1) a b c' d x.x (1 + 1) Z2 (wq.setCell ⟨w.heap.size + 1, 1, none⟩ (.int .i64 (b + x.x.w1)))) := Lib.hid (HRD.out.put (kr.put 1 _))
          clear kr
          gi_wp2
          go_roundg (4 - (1 + 1))
          case measure => have := HQ.out; omega
          case rel => exact ⟨1 + 1, by omega, rfl, by go_num, HP.out⟩
        · subst h0
          have kr := HRD.out.blk
          dsimp only [accAt, w4V] at kr
          have c0 := kr.cell 0
          have c1 := kr.cell 1
          have c2 := kr.cell 2
          have c3 := kr.cell 3
          have fz := kr.frozen 2
          simp only [List.getElem?_toArray, List.getElem?_cons_zero, List.getElem?_cons_succ] at c0 c1 c2 c3
          have HP : Hid (RdF (w.heap.size + 1) a b c' d x.x (2 + 1) Z2 (wq.setCell ⟨w.heap.size + 1, 2, none⟩ (.int .i64 (c' + x.x.w2)))) := Lib.hid (HRD.out.put (kr.put 2 _))
          clear kr
          gi_wp2
          go_roundg (4 - (2 + 1))
          case measure => have := HQ.out; omega
          case rel => exact ⟨2 + 1, by omega, rfl, by go_num, HP.out⟩
        · subst h0
          have kr := HRD.out.blk
          dsimp only [accAt, w4V] at kr
          have c0 := kr.cell 0
          have c1 := kr.cell 1
          have c2 := kr.cell 2
          have c3 := kr.cell 3
          have fz := kr.frozen 3
          simp only [List.getElem?_toArray, List.getElem?_cons_zero, List.getElem?_cons_succ] at c0 c1 c2 c3
          have HP : Hid (RdF (w.heap.size + 1) a b c' d x.x (3 + 1) Z2 (wq.setCell ⟨w.heap.size + 1, 3, none⟩ (.int .i64 (d + x.x.w3)))) := Lib.hid (HRD.out.put (kr.put 3 _))
          clear kr
          gi_wp2
          go_roundg (4 - (3 + 1))
          case measure => have := HQ.out; omega
          case rel => exact ⟨3 + 1, by omega, rfl, by go_num, HP.out⟩
      · obtain rfl : j = 4 := by omega
        gi_wp2
        refine ⟨HRD.out.oth.from _, HRD.out.kp, ?_, HIZ.out.trans (HRD.out.old.mono (by omega)), Nat.le_trans hzz HRD.out.oth.size⟩
        rw [HSN.out]
        exact HRD.out.blk
  case done =>
    rintro D xs W hD hS ⟨hb, hB, hz⟩ hK
    have hpk : pickF fs (closL nf ds l) = xs.map Sel.x := by rw [← hS, pick_sel]
    have HR : Hid (Blk W (w.heap.size + 1) 56 (fieldsV fs (closL nf ds l))) := Lib.hid (by unfold fieldsV; rw [hpk]; exact hb)
    clear hpk hS hb
    have hlt := HR.out.lt
    have kr := HR.out
    unfold fieldsV w4V at kr
    have c0 := kr.cell 0
    have c1 := kr.cell 1
    have c2 := kr.cell 2
    have c3 := kr.cell 3
    have z0 := kr.frozen 0
    have z1 := kr.frozen 1
    have z2 := kr.frozen 2
    have z3 := kr.frozen 3
    simp only [List.getElem?_toArray, List.getElem?_cons_zero, List.getElem?_cons_succ] at c0 c1 c2 c3
    clear kr
    go_wp2_with fail
    have hB4 : Below w.heap.size w ((((W.setCell ⟨w.heap.size + 1, 0, none⟩ (.int .i64 (1 + sumI (·.w0) (pickF fs (closL nf ds l))))).setCell ⟨w.heap.size + 1, 1, none⟩ (.int .i64 (sumI (·.w1) (pickF fs (closL nf ds l))))).setCell ⟨w.heap.size + 1, 2, none⟩ (.int .i64 (sumI (·.w2) (pickF fs (closL nf ds l))))).setCell ⟨w.heap.size + 1, 3, none⟩ (.int .i64 (sumI (·.w3) (pickF fs (closL nf ds l))))) := (((hB.setCell (by simp) _).setCell (by simp) _).setCell (by simp) _).setCell (by simp) _
    have hb4 := (((HR.out.put 0 (.int .i64 (1 + sumI (·.w0) (pickF fs (closL nf ds l))))).put 1 (.int .i64 (sumI (·.w1) (pickF fs (closL nf ds l))))).put 2 (.int .i64 (sumI (·.w2) (pickF fs (closL nf ds l))))).put 3 (.int .i64 (sumI (·.w3) (pickF fs (closL nf ds l))))
    have hD4 : ((((W.setCell ⟨w.heap.size + 1, 0, none⟩ (.int .i64 (1 + sumI (·.w0) (pickF fs (closL nf ds l))))).setCell ⟨w.heap.size + 1, 1, none⟩ (.int .i64 (sumI (·.w1) (pickF fs (closL nf ds l))))).setCell ⟨w.heap.size + 1, 2, none⟩ (.int .i64 (sumI (·.w2) (pickF fs (closL nf ds l))))).setCell ⟨w.heap.size + 1, 3, none⟩ (.int .i64 (sumI (·.w3) (pickF fs (closL nf ds l))))).heap[D]? = some (.deferred (some [])) :=
      (Below.heap_setCell _ _ _ D (by simp; omega)).trans ((Below.heap_setCell _ _ _ D (by simp; omega)).trans ((Below.heap_setCell _ _ _ D (by simp; omega)).trans ((Below.heap_setCell _ _ _ D (by simp; omega)).trans hK)))
    generalize ((((W.setCell ⟨w.heap.size + 1, 0, none⟩ (.int .i64 (1 + sumI (·.w0) (pickF fs (closL nf ds l))))).setCell ⟨w.heap.size + 1, 1, none⟩ (.int .i64 (sumI (·.w1) (pickF fs (closL nf ds l))))).setCell ⟨w.heap.size + 1, 2, none⟩ (.int .i64 (sumI (·.w2) (pickF fs (closL nf ds l))))).setCell ⟨w.heap.size + 1, 3, none⟩ (.int .i64 (sumI (·.w3) (pickF fs (closL nf ds l))))) = W4 at hB4 hb4 hD4 ⊢
    have hb4 : Blk W4 (w.heap.size + 1) 56 (fieldsV fs (closL nf ds l)) := hb4
    refine ⟨by simp, .inl ⟨_, _, rfl, run_takeDeferred hD4, ?_⟩⟩
    have hb5 : Blk (W4.putObj D (.deferred none)) (w.heap.size + 1) 56 (fieldsV fs (closL nf ds l)) := (World.putObj_heap_other (by omega)).trans hb4
    have k0 := hb5.cell 0
    have k1 := hb5.cell 1
    have k2 := hb5.cell 2
    have k3 := hb5.cell 3
    simp only [fieldsV, w4V, List.getElem?_toArray, List.getElem?_cons_zero, List.getElem?_cons_succ] at k0 k1 k2 k3
    exact ⟨_, by simp [results, Tryz.results26, go_sem, k0, k1, k2, k3]; rfl, rfl, hB4.trans (belowK_b (w := w) (Nat.le_refl _) W4 D _ _ (by omega) hD4 rfl rfl)⟩
  case stop =>
    rintro D cd pre W hD hS hf hK
    exact hf.elim

end Go.Proofs.YtkgmonplcdnnbaaGreat

namespace Go.Proofs.YtkgmonplcdnnbaaGreat
open Go.RowKit Go.Shelf
attribute [local go_sem] Oper.semAt_some

/-- What schemas.Check answers of tables, now and later. -/
def CheckSays (T : Value) (ck : Int) (w : World) : Prop :=
  ∀ W, Below w.heap.size w W → Calls Tryz.prog 23 #[T] W fun e W' => e = .returned (.int .i64 ck) ∧ Below W.heap.size W W'
theorem CheckSays.below {T : Value} {ck : Int} {w w' : World} (h : CheckSays T ck w) (hb : Below w.heap.size w w') : CheckSays T ck w' :=
  fun W hW => h W (hb.trans (hW.mono hb.size))

def wholeE (ck : Int) (ss : List QSchema) (sc : Int) (F : List Int) (nv : Nat) : Int := if ck = 0 then (if fitsP ss sc F nv then 0 else 230) else 160
def wholeL (ck : Int) (ss : List QSchema) (sc : Int) (F : List Int) (nv : Nat) : List Int :=
  if wholeE ck ss sc F nv = 0 then (match ss[sc.toNat]? with | some x => closL x.fields.length (x.deps.map depOf) F | none => []) else []

theorem fitsP_yes {ss : List QSchema} {sc : Int} {F : List Int} {nv : Nat} (h : fitsP ss sc F nv = true) : 0 ≤ sc ∧ sc < ss.length ∧ F.length = nv := by
  simp only [fitsP, Bool.and_eq_true, decide_eq_true_eq] at h
  exact ⟨h.1.1.1, h.1.1.2, h.1.2⟩

theorem closL_len (nf : Nat) (ds : List Dep) (l : List Int) : (closL nf ds l).length ≤ nf := by
  unfold closL
  split
  · exact listX_len _ _
  · simp

set_option maxHeartbeats 8000000 in
set_option maxRecDepth 100000 in
theorem Whole_any (A1 A2 A3 A4 A5 A6 : Option Addr) (n1 c1 n2 c2 n3 c3 n4 c4 n5 c5 n6 c6 : Nat) (A7 FA VA : Option Addr) (n7 c7 nf cf nv cv : Nat) (ss : List QSchema) (sc ck : Int) (F : List Int) (w : World) (hK : CheckSays (.agg #[.slice A1 n1 c1, .slice A2 n2 c2, .slice A3 n3 c3, .slice A4 n4 c4, .slice A5 n5 c5, .slice A6 n6 c6, .slice A7 n7 c7]) ck w) (h3 : SlB 6 96 qSchemaR w (.slice A3 n3 c3) ss) (hF : SlR 1 intR w (.slice FA nf cf) F) (hnv : nv ≤ 9223372036854775807) (hI : ∀ x ∈ ss, ∀ d ∈ x.deps, depI64 d) :
    Calls Tryz.prog 14 #[.agg #[.slice A1 n1 c1, .slice A2 n2 c2, .slice A3 n3 c3, .slice A4 n4 c4, .slice A5 n5 c5, .slice A6 n6 c6, .slice A7 n7 c7], .agg #[.int .i64 sc, .slice FA nf cf, .slice VA nv cv]] w fun e w' => ∃ v, e = .returned (.tuple #[v, .int .i64 (wholeE ck ss sc F nv)]) ∧ w'.ownsRow w.heap.size 3 1 v (wholeL ck ss sc F nv).length ((wholeL ck ss sc F nv).map (Value.int .i64)) ∧ Below w.heap.size w w' := by
  refine (callsIn_wide (n := 8)).1 ?_
  obtain ⟨i0, hi, hz0, hz1, hz2⟩ := info_parts Tryz.infoIntD
  have HI := Lib.hid hi
  have HZ := Lib.hid (And.intro hz0 (And.intro hz1 hz2))
  have HLN := Lib.hid h3.1.len
  have HNF := Lib.hid hF.len
  have HK := Lib.hid hK
  have H3 := Lib.hid h3
  have HF := Lib.hid hF
  have HII := Lib.hid hI
  clear hi hz0 hz1 hz2 hK h3 hF hI
  refine callsIn_of_wp_marks Tryz.func14 rfl trivial ?_ rfl
  simp only [Tryz.ntmps14, List.size_toArray, List.length_cons, List.length_nil, Nat.reduceAdd, Nat.reduceSub, Array.replicate_succ, Array.replicate_zero, List.push_toArray, List.append_toArray, List.nil_append, List.cons_append]
  refine wpIn_wide.2 ?_
  obtain ⟨W0, hW0⟩ : ∃ W0, W0 = (((w.alloc (.cells #[.slice A1 n1 c1, .slice A2 n2 c2, .slice A3 n3 c3, .slice A4 n4 c4, .slice A5 n5 c5, .slice A6 n6 c6, .slice A7 n7 c7] 32)).alloc (.cells #[.int .i64 sc, .slice FA nf cf, .slice VA nv cv] 42)).alloc (.cells #[.slice none 0 0] 30)) := ⟨_, rfl⟩
  have hb0 : Below w.heap.size w W0 := by rw [hW0]; exact (((Below.refl _ _).alloc (Nat.le_refl _) _).alloc (by simp) _).alloc (by simp; omega) _
  have kT : Blk W0 w.heap.size 32 #[.slice A1 n1 c1, .slice A2 n2 c2, .slice A3 n3 c3, .slice A4 n4 c4, .slice A5 n5 c5, .slice A6 n6 c6, .slice A7 n7 c7] := by rw [hW0]; exact ((Blk.new _ _ _).alloc _).alloc _
  have kC : Blk W0 (w.heap.size + 1) 42 #[.int .i64 sc, .slice FA nf cf, .slice VA nv cv] := by rw [hW0]; exact (blkNew (by simp)).alloc _
  have kR : Blk W0 (w.heap.size + 1 + 1) 30 #[.slice none 0 0] := by rw [hW0]; exact blkNew (by simp)
  have hs0 : W0.heap.size = w.heap.size + 3 := by rw [hW0]; simp
  go_wp2_with (go_at_call 23; rw [← hW0]; refine (HK.out _ hb0).mono ?_)
  rintro e w1 ⟨rfl, hb1⟩
  have hb01 := hb0.trans (hb1.mono hb0.size)
  have kT1 := kT.below hb1 kT.lt
  have kC1 := kC.below hb1 kC.lt
  have kR1 := kR.below hb1 kR.lt
  have t0 := kT1.cell 0
  have t1 := kT1.cell 1
  have t2 := kT1.cell 2
  have t3 := kT1.cell 3
  have t4 := kT1.cell 4
  have t5 := kT1.cell 5
  have t6 := kT1.cell 6
  have u0 := kC1.cell 0
  have u1 := kC1.cell 1
  have u2 := kC1.cell 2
  have r0 := kR1.cell 0
  have f0 := kR1.frozen 0
  have lt := kT1.lt
  have lc := kC1.lt
  have lr := kR1.lt
  simp only [List.getElem?_toArray, List.getElem?_cons_zero, List.getElem?_cons_succ] at t0 t1 t2 t3 t4 t5 t6 u0 u1 u2 r0
  have HB1 := Lib.hid hb01
  have HKT := Lib.hid kT1
  have HKC := Lib.hid kC1
  have HKR := Lib.hid kR1
  clear hb0 hb1 hb01 kT kC kR kT1 kC1 kR1 hW0
  by_cases hck : ck = 0
  case neg =>
    have htn : (ck != 0) = true := by simpa using hck
    have HE : Hid (wholeE ck ss sc F nv = 160) := Lib.hid (by rw [wholeE, if_neg hck])
    have HL : Hid (wholeL ck ss sc F nv = []) := Lib.hid (by rw [wholeL, HE.out, if_neg (by decide)])
    clear hck
    go_wp2_with fail
    rw [HE.out, HL.out]
    have kr := (HKR.out.put 0 (.slice none 0 0)).cell 0
    simp at kr
    exact ⟨_, by simp [results, Tryz.results14, go_sem, kr], _, rfl, World.ownsRow_nil _ _ _ _, HB1.out.setCell (by simp; omega) _⟩
  subst hck
  obtain ⟨fb, hfb⟩ : ∃ v, fitsP ss sc F nv = v := ⟨_, rfl⟩
  have HFT : Hid (Calls Tryz.prog 25 #[.agg #[.slice A1 n1 c1, .slice A2 n2 c2, .slice A3 n3 c3, .slice A4 n4 c4, .slice A5 n5 c5, .slice A6 n6 c6, .slice A7 n7 c7], .agg #[.int .i64 sc, .slice FA nf cf, .slice VA nv cv]] w1 fun e w' => e = .returned (.bool fb) ∧ Below w1.heap.size w1 w') := Lib.hid (by
    rw [← hfb]
    exact fits_any A1 A2 A3 A4 A5 A6 n1 c1 n2 c2 n3 c3 n4 c4 n5 c5 n6 c6 A7 FA VA n7 c7 nf cf nv cv ss sc F w1 (H3.out.mono qSchemaR_mono HB1.out).1 (i_of_ints (HF.out.mono intR_mono HB1.out)) hnv)
  have HFB := Lib.hid hfb
  clear hfb
  go_wp2_with (go_at_call 25; refine HFT.out.mono ?_; clear HFT)
  rintro e w2 ⟨rfl, hb2⟩
  cases fb with
  | false =>
    have HE : Hid (wholeE 0 ss sc F nv = 230) := Lib.hid (by rw [wholeE, if_pos rfl, HFB.out, if_neg (by decide)])
    have HL : Hid (wholeL 0 ss sc F nv = []) := Lib.hid (by rw [wholeL, HE.out, if_neg (by decide)])
    have kR2 := HKR.out.below hb2 lr
    have r02 := kR2.cell 0
    have f02 := kR2.frozen 0
    have lr2 := kR2.lt
    have HKR2 := Lib.hid kR2
    have HB2 := Lib.hid (HB1.out.trans (hb2.mono HB1.out.size))
    simp only [List.getElem?_toArray, List.getElem?_cons_zero] at r02
    clear hb2 kR2 t0 t1 t2 t3 t4 t5 t6 u0 u1 u2 r0 f0
    go_wp2_with fail
    rw [HE.out, HL.out]
    have kr := (HKR2.out.put 0 (.slice none 0 0)).cell 0
    simp at kr
    exact ⟨_, by simp [results, Tryz.results14, go_sem, kr], _, rfl, World.ownsRow_nil _ _ _ _, HB2.out.setCell (by simp; omega) _⟩
  | true =>
    obtain ⟨g0, g1, g2⟩ := fitsP_yes HFB.out
    obtain ⟨k, rfl⟩ : ∃ k : Nat, sc = k := ⟨sc.toNat, by omega⟩
    have hkn : k < n3 := by have := HLN.out; omega
    obtain ⟨b, off, x, B1, m1, d1, B2, m2, d2, hA3, hbl, hx, e0, e1, e2, e3, e4, e5, G1, G2⟩ := qSchema_at H3.out.1 (k := k) hkn
    subst hA3
    have HB2 := Lib.hid (HB1.out.trans (hb2.mono HB1.out.size))
    have hw2 : w.heap.size ≤ w2.heap.size := HB2.out.size
    rw [← HB2.out.cell (p := ⟨b, _, none⟩) hbl] at e0 e1 e2 e3 e4 e5
    have hblw : b < w2.heap.size := Nat.lt_of_lt_of_le hbl hw2
    have HE : Hid (wholeE 0 ss k F nv = 0) := Lib.hid (by rw [wholeE, if_pos rfl, HFB.out, if_pos rfl])
    have HL : Hid (wholeL 0 ss k F nv = closL m1 (x.deps.map depOf) F) := Lib.hid (by rw [wholeL, HE.out, if_pos rfl, Int.toNat_natCast, hx, G1.1.len])
    have HM : Hid (m1 = x.fields.length) := Lib.hid G1.1.len
    have HG1 := Lib.hid G1
    have HG2 := Lib.hid (deps_of_q G2.1 (HII.out x (List.mem_of_getElem? hx)))
    have kT2 := HKT.out.below hb2 lt
    have kC2 := HKC.out.below hb2 lc
    have kR2 := HKR.out.below hb2 lr
    have t2 := kT2.cell 2
    have u0 := kC2.cell 0
    have u1 := kC2.cell 1
    have lt2 := kT2.lt
    have lc2 := kC2.lt
    have lr2 := kR2.lt
    have hk0 : (0 : Int) ≤ (k : Int) := by omega
    have hk1 : (k : Int) < (n3 : Int) := by omega
    simp only [List.getElem?_toArray, List.getElem?_cons_zero, List.getElem?_cons_succ] at t2 u0 u1
    have HKR2 := Lib.hid kR2
    clear kT2 kC2 kR2 hb2 G1 G2 hx t0 t1 t3 t4 t5 t6 u2 r0 f0 lt lc lr g0 g1 g2 HFB HKT HKC HKR
    go_upto_region 5 with fail
    go_region_held3 (fun w' => w'.cell? ⟨w.heap.size, 2, none⟩ = some (.slice (some ⟨b, off, none⟩) n3 c3) ∧ w'.cell? ⟨w.heap.size + 1, 0, none⟩ = some (.int .i64 k) ∧ w'.cell? ⟨w.heap.size + 1, 1, none⟩ = some (.slice FA nf cf) ∧ w'.cell? ⟨b, off + k * 6, none⟩ = some (.string x.name) ∧ w'.cell? ⟨b, off + k * 6 + 1, none⟩ = some (.string x.by_) ∧ w'.cell? ⟨b, off + k * 6 + 2, none⟩ = some (.int .i64 x.issuer) ∧ w'.cell? ⟨b, off + k * 6 + 3, none⟩ = some (.int .i64 x.version) ∧ w'.cell? ⟨b, off + k * 6 + 4, none⟩ = some (.slice B1 m1 d1) ∧ w'.cell? ⟨b, off + k * 6 + 5, none⟩ = some (.slice B2 m2 d2))
      (first | go_keep | exact ⟨t2, u0, u1, e0, e1, e2, e3, e4, e5⟩)
      (first
        | (go_at_call 30; refine (determined_any' _ _ _ _ _ _ _ _ _ _ _ _ _ _).mono ?_; rintro e w3 ⟨rfl, hw3⟩))
    clear hw3
    obtain ⟨w4, hw4⟩ : ∃ w4, w4 = ((w2.alloc (.cells #[.string x.name, .string x.by_, .int .i64 x.issuer, .int .i64 x.version, .slice B1 m1 d1, .slice B2 m2 d2] 52)).alloc (.cells #[.slice FA nf cf] 30)).drew := ⟨_, rfl⟩
    rw [← hw4]
    have hb24 : Below w2.heap.size w2 w4 := by rw [hw4]; exact (((Below.refl _ _).alloc (Nat.le_refl _) _).alloc (by simp) _).drew
    have hb4 : Below w.heap.size w w4 := HB2.out.trans (hb24.mono hw2)
    have hbs : Blk w4 w2.heap.size 52 #[.string x.name, .string x.by_, .int .i64 x.issuer, .int .i64 x.version, .slice B1 m1 d1, .slice B2 m2 d2] := by rw [hw4]; exact ((Blk.new _ _ _).alloc _).drew
    have hbf : Blk w4 (w2.heap.size + 1) 30 #[.slice FA nf cf] := by rw [hw4]; exact (blkNew (by simp)).drew
    have hsz4 : w4.heap.size = w2.heap.size + 2 := by rw [hw4]; simp [World.drew]
    have hbr : Boxed w4 (w.heap.size + 1 + 1) 30 (.slice none 0 0) := HKR2.out.below hb24 lr2
    clear hw4 hb24 e0 e1 e2 e3 e4 e5 t2 u0 u1 HKR2 HB2 HM
    go_wp2_with fail
    refine (wpIn_wide (n := 8)).1 ?_
    refine wpIn_rangeFunc_ownH (F := Fence.wide) rfl (by omega) (gf := 39) (lb := #[.pointer (some ⟨w2.heap.size, 0, none⟩), .pointer (some ⟨w2.heap.size + 1, 0, none⟩)]) rfl trivial (enters_of Tryz.func39 (by kernel_rfl) rfl)
      (det1_in 7 (w.heap.size + 1 + 1) w2.heap.size (w2.heap.size + 1) w w4 x.name x.by_ x.issuer x.version B1 B2 FA m1 d1 m2 d2 nf cf x.fields (x.deps.map depOf) F hb4 hbs hbf (by omega) (by omega) (by omega) ((ptOf_blk (t := 30) hbr).trans rfl) HG1.out.1 HG2.out HF.out)
      (fun h k => h.trans k) (fun W q o o' hq h h1 _ => KpE.book W q o o' (by omega) h h1) (Below.refl _ _) (fun _ => rfl)
      (fun pre Z => (∃ v, Boxed Z (w.heap.size + 1 + 1) 30 v ∧ Z.ownsRow w.heap.size 3 1 v pre.length (pre.map (fun p => Value.int .i64 p.f))) ∧ Below w.heap.size w Z ∧ w4.heap.size ≤ Z.heap.size)
      (fun _ _ _ => False)
      ?grown (fun cd s X Y row hs hg hr => hs.elim)
      ⟨⟨_, hbr, World.ownsRow_nil _ _ _ _⟩, hb4, Nat.le_refl _⟩
      (fun y a' Z => a' = { tmps := #[.agg #[.slice A1 n1 c1, .slice A2 n2 c2, .slice (some ⟨b, off, none⟩) n3 c3, .slice A4 n4 c4, .slice A5 n5 c5, .slice A6 n6 c6, .slice A7 n7 c7], .agg #[.int .i64 k, .slice FA nf cf, .slice VA nv cv], .pointer (some ⟨w.heap.size, 0, none⟩), .pointer (some ⟨w.heap.size + 1, 0, none⟩), .pointer (some ⟨w.heap.size + 1 + 1, 0, none⟩), .int .i64 0, .int .i64 y.f, .agg #[.slice A1 n1 c1, .slice A2 n2 c2, .slice (some ⟨b, off, none⟩) n3 c3, .slice A4 n4 c4, .slice A5 n5 c5, .slice A6 n6 c6, .slice A7 n7 c7], .int .i64 0, .bool false, .agg #[.slice A1 n1 c1, .slice A2 n2 c2, .slice (some ⟨b, off, none⟩) n3 c3, .slice A4 n4 c4, .slice A5 n5 c5, .slice A6 n6 c6, .slice A7 n7 c7], .agg #[.int .i64 k, .slice FA nf cf, .slice VA nv cv], .bool true, .bool false, .pointer (some ⟨w.heap.size, 0, none⟩), .pointer (some ⟨w.heap.size, 2, none⟩), .slice (some ⟨b, off, none⟩) n3 c3, .pointer (some ⟨w.heap.size + 1, 0, none⟩), .int .i64 k, .pointer (some ⟨b, off + k * 6, none⟩), .agg #[.string x.name, .string x.by_, .int .i64 x.issuer, .int .i64 x.version, .slice B1 m1 d1, .slice B2 m2 d2], .pointer (some ⟨w.heap.size + 1, 1, none⟩), .slice FA nf cf, .func (.func 39) #[] #[.pointer (some ⟨w2.heap.size, 0, none⟩), .pointer (some ⟨w2.heap.size + 1, 0, none⟩)], .int .i64 y.f, fieldV (.slice y.vA y.vn y.vc) y.x, undef, undef, undef, undef, undef], defers := [] })
      (fun y a' s X Y row hs hg hr => hs) ?assign ?body ?done ?stop
    case grown =>
      rintro s X Y row ⟨⟨v, hv, hr2⟩, hB, hz⟩ hg hr
      have hne : some (w.heap.size + 1 + 1) ≠ row := fun e => by
        have := (hr _ e.symm).1
        omega
      refine ⟨⟨v, hv.kept hg hne, hr2.kept hg ?_⟩, hB.grown hg (by omega) (fun r e => by have := (hr r e).1; omega), Nat.le_trans hz hg.size⟩
      cases hvb : v.ownBlock with
      | none => exact .inl rfl
      | some r =>
        right
        intro e
        obtain ⟨cur, hcur⟩ := own_kind hr2 hvb
        obtain ⟨_, o, ho, hc⟩ := hr r e.symm
        rw [hcur] at ho
        cases ho
        cases hc
    case assign =>
      rintro lp pre y Z K hI hK
      dsimp only [detV, fieldV]
      have HKK := Lib.hid hK
      have HII2 := Lib.hid hI
      clear hK hI
      gi_wp2
      exact HKK.out _ _ (KeepsFrom.refl _ _) (KpE.refl _ _) HII2.out rfl
    case body =>
      rintro lp pre y a' W hlp ⟨rr, hrr⟩ ⟨⟨v, hv, hr⟩, hB, hz⟩ rfl hlen
      have hc := hv.cell
      have HV := Lib.hid hv
      have HR := Lib.hid hr
      have HB := Lib.hid hB
      have hBs := hB.size
      have hll : pre.length < 1200000000000 := by have := closL_len m1 (x.deps.map depOf) F; have := HG1.out.2; have := HG1.out.1.len; omega
      dsimp only [fieldV]
      clear hv hr hB hrr hbs hbf hbr hb4
      gi_wp2_with (gi_at_builtin; refine wpListIn_append_own_at _ rfl (.tmp 26) (.tmp 28) 30 rfl w.heap.size 3 i0 (.int .i64 0) 1 8 Tryz.underlying30 HI.out HZ.out.1 HZ.out.2.1 HZ.out.2.2 rfl (by decide) v pre.length _ rfl (HR.out.alloc _) ⟨W.heap.size, 0, none⟩ 1 1 [.int .i64 y.f] rfl rfl (cell_one_new _ _ _) (by simp [Value.oneCell']) (by unfold maxLen; omega) (by omega) (by simp; omega) ?_; intro v' w1 hown' hgrow _ hat; obtain ⟨g', cap', rfl⟩ := ownsRow_succ hown'; have HA := Lib.hid (HV.out.appended (by decide) HR.out hBs (by omega) hown' hgrow); have hc1 := HA.out.1.cell; have hf1 := HA.out.1.frozen; have HGR := Lib.hid hgrow; have HAT := Lib.hid hat; clear hown' hgrow hat)
      obtain ⟨ha1, ha2, ha3, ha4, ha5⟩ := HA.out
      have hptW : ptOf (w.heap.size + 1 + 1) W = v.ownBlock := ptOf_blk (t := 30) HV.out
      have hpt2 : ptOf (w.heap.size + 1 + 1) (w1.setCell ⟨w.heap.size + 1 + 1, 0, none⟩ (.slice (some ⟨g', 0, none⟩) (pre.length + 1) cap')) = some g' := ptOf_blk (t := 30) ha2
      refine ⟨ha4.from _, ⟨ha5.size, fun q cs t fz hq hne hp => ?_, ?_⟩, ⟨⟨_, ha2, ?_⟩, HB.out.trans ha5, Nat.le_trans hz ha5.size⟩⟩
      · have hbl2 := (Array.getElem?_eq_some_iff.1 hq).1
        exact (Below.heap_setCell _ _ _ q hne).trans ((HGR.out.block q (by simp; omega) (fun e => hp (by rw [hptW, e]))).trans (Below.heap_alloc W _ q hbl2))
      · rw [hpt2, hptW]
        rcases HAT.out with e | e
        · exact .inl e
        · exact .inr ⟨g', rfl, by
            injection e with e
            simp at e
            omega⟩
      · have := ha3
        simpa using this
    case done =>
      rintro D xs W hD hS ⟨⟨v, hv, hr⟩, hB, hz⟩ hK
      have hvf : ∃ Av nv c, v = .slice Av nv c := by
        rcases hr.2 with ⟨rfl, h0⟩ | ⟨g, cap, cur, rfl, _⟩
        · exact ⟨_, _, _, rfl⟩
        · exact ⟨_, _, _, rfl⟩
      obtain ⟨Av, nvv, cvv, rfl⟩ := hvf
      have hW1 : (wholeL 0 ss k F nv).length = xs.length := by rw [HL.out, ← hS, List.length_map]
      have hW2 : (wholeL 0 ss k F nv).map (Value.int .i64) = xs.map (fun p => Value.int .i64 p.f) := by rw [HL.out, ← hS, List.map_map]; rfl
      have HW1 := Lib.hid hW1
      have HW2 := Lib.hid hW2
      have hc := hv.cell
      have hf := hv.frozen
      have hl := hv.lt
      have HV := Lib.hid hv
      have HR := Lib.hid hr
      have HB := Lib.hid hB
      have HKD := Lib.hid hK
      clear hv hr hB hK hbs hbf hbr hb4 hW1 hW2 hS
      go_wp2_with fail
      rw [HW1.out, HW2.out, HE.out]
      have hv2 := HV.out.set (.slice Av nvv cvv)
      have hr2 := HR.out.kept (grownBy_setCell' W (w.heap.size + 1 + 1) (.slice Av nvv cvv)) (.inr (HV.out.not_row (by decide) HR.out).symm)
      have hB2 : Below w.heap.size w (W.setCell ⟨w.heap.size + 1 + 1, 0, none⟩ (.slice Av nvv cvv)) := HB.out.setCell (by simp; omega) _
      have hK2 : (W.setCell ⟨w.heap.size + 1 + 1, 0, none⟩ (.slice Av nvv cvv)).heap[D]? = some (.deferred (some [])) := (Below.heap_setCell _ _ _ D (by simp; omega)).trans HKD.out
      refine ⟨by simp, .inl ⟨_, _, rfl, run_takeDeferred hK2, ?_⟩⟩
      have hv3 : Boxed ((W.setCell ⟨w.heap.size + 1 + 1, 0, none⟩ (.slice Av nvv cvv)).putObj D (.deferred none)) (w.heap.size + 1 + 1) 30 (.slice Av nvv cvv) := (World.putObj_heap_other (by omega)).trans hv2
      have kr := hv3.cell
      exact ⟨_, by simp [results, Tryz.results14, go_sem, kr], _, rfl, ownsRow_putObj hr2 _ hK2 rfl, hB2.trans (belowK_b (w := w) (Nat.le_refl _) _ D _ _ (by omega) hK2 rfl rfl)⟩
    case stop =>
      rintro D cd pre W hD hS hf hK
      exact hf.elim

end Go.Proofs.YtkgmonplcdnnbaaGreat

namespace Go.Proofs.YtkgmonplcdnnbaaGreat
open Go.RowKit Go.Shelf

theorem cloneInt_g {α : Type} {R : World → List Value → α → Prop} (hone : One R) (A : Option Addr) (n c : Nat) (l : List α) (w : World) (hs : SlB 1 8 R w (.slice A n c) l) :
    Calls Tryz.prog 27 #[.slice A n c] w (RetRow 3 1 R l w) := by
  have hlen := hs.1.len
  have hbd := hs.2
  have HS := Lib.hid hs.1
  clear hs
  rcases A with _ | ad
  · have hl : l = [] := by
      obtain ⟨cs, hcs, _⟩ := HS.out.cells
      cases l with
      | nil => rfl
      | cons x r => obtain ⟨b, off, x, cs, e, _⟩ := HS.out.at_ (k := 0) (by rw [hlen]; simp); cases e
    subst hl
    obtain rfl : n = 0 := by simpa using hlen
    clear hlen hbd
    have hnil := fun w : World => Lib.run_eql_slice_nil (P := Tryz.prog) w 30 3 none 0 c 0 0 Tryz.underlying30
    simp only [Option.isNone_none] at hnil
    go_enter Tryz.func27, Tryz.ntmps27
    go_wp2
    go_ret
    exact ⟨_, [], rfl, CellsR.nil, World.ownsRow_nil _ _ _ _, Below.refl _ _⟩
  · obtain ⟨i0, hi, hz0, hz1, hz2⟩ := info_parts Tryz.infoIntD
    have HLEN := Lib.hid hlen
    clear hlen
    have hnb : n * 8 ≤ 140737488355328 := by rw [HLEN.out]; exact hbd
    have hnil := fun w : World => Lib.run_eql_slice_nil (P := Tryz.prog) w 30 3 (some ad) n c 0 0 Tryz.underlying30
    simp only [Option.isNone_some] at hnil
    go_enter Tryz.func27, Tryz.ntmps27
    go_wp2_with (at_builtin; refine wpList_append_row _ rfl (.tmp 5) (.tmp 6) 30 3 rfl i0 _ 8 Tryz.underlying30 hi hz0 hz1 hz2 rfl (by decide) (R := fun _ => R w) (fun _ => hone w) w.heap.size (.slice (some ⟨w.heap.size, 0, none⟩) 0 0) 0 [] rfl (World.ownsRow_lit w #[] 0 (Nat.le_refl _) (Nat.zero_le _) rfl) (some ad) n c l rfl (HS.out.fix ((Below.refl _ _).alloc (Nat.le_refl _) _)) (by unfold maxLen; omega) (by omega) (by simp) ?_; intro v' w1 cs hcs hown hgr hat)
    go_ret
    refine ⟨v', cs, rfl, hcs, ?_, ((Below.refl _ _).alloc (Nat.le_refl _) _).grown hgr (by simp) (by simp [Value.ownBlock])⟩
    rw [← HLEN.out]
    simpa using hown
theorem cloneInt_any (A : Option Addr) (n c : Nat) (l : List Int) (w : World) (hs : SlB 1 8 iR w (.slice A n c) l) :
    Calls Tryz.prog 27 #[.slice A n c] w (RetRow 3 1 iR l w) := cloneInt_g iR_one A n c l w hs


end Go.Proofs.YtkgmonplcdnnbaaGreat

namespace Go.Proofs.YtkgmonplcdnnbaaGreat
open Go.RowKit Go.Shelf

structure QClaims where
  schema : Int
  fields : List Int
  values : List Int
  deriving DecidableEq
def qClaimsR (w : World) (cs : List Value) (x : QClaims) : Prop := ∃ A1 n1 c1 A2 n2 c2, cs = [.int .i64 x.schema, .slice A1 n1 c1, .slice A2 n2 c2] ∧ SlR 1 intR w (.slice A1 n1 c1) x.fields ∧ SlR 1 intR w (.slice A2 n2 c2) x.values
theorem qClaimsR_mono : Mono qClaimsR := by
  rintro w w' hb cs x ⟨A1, n1, c1, A2, n2, c2, h0, h1, h2⟩
  exact ⟨A1, n1, c1, A2, n2, c2, h0, h1.mono intR_mono hb, h2.mono intR_mono hb⟩
theorem qClaims_at {w : World} {A : Option Addr} {n cap : Nat} {l : List QClaims} (h : SlR 3 qClaimsR w (.slice A n cap) l) {k : Nat} (hk : k < n) :
    ∃ b off x A1 n1 c1 A2 n2 c2, A = some ⟨b, off, none⟩ ∧ b < w.heap.size ∧ l[k]? = some x ∧
      w.cell? ⟨b, off + k * 3, none⟩ = some (.int .i64 x.schema) ∧
      w.cell? ⟨b, off + k * 3 + 1, none⟩ = some (.slice A1 n1 c1) ∧
      w.cell? ⟨b, off + k * 3 + 2, none⟩ = some (.slice A2 n2 c2) ∧ SlR 1 intR w (.slice A1 n1 c1) x.fields ∧ SlR 1 intR w (.slice A2 n2 c2) x.values := by
  obtain ⟨b, off, x, cs, e, hb, hl, hlen, hc, hR⟩ := h.at_ hk
  obtain ⟨A1, n1, c1, A2, n2, c2, rfl, h1, h2⟩ := hR
  exact ⟨b, off, x, A1, n1, c1, A2, n2, c2, e, hb, hl, by simpa using hc 0 _ rfl, by simpa [Nat.add_assoc] using hc 1 _ rfl, by simpa [Nat.add_assoc] using hc 2 _ rfl, h1, h2⟩
theorem ints_blk' {W : World} {g : Nat} {t : TypeId} {l : List Int} (h : Blk W g t (l.map (Value.int .i64)).toArray) (hm : l.length ≤ maxLen) : SlR 1 iR W (.slice (some ⟨g, 0, none⟩) l.length l.length) l := by
  refine ⟨some ⟨g, 0, none⟩, l.length, rfl, Nat.le_refl _, hm, fun i x hi => ⟨g, 0, [.int .i64 x], rfl, h.lt, rfl, ?_, rfl⟩⟩
  intro j u hu
  rcases j with _ | j
  · simp only [List.getElem?_cons_zero, Option.some.injEq] at hu
    subst hu
    have := h.cell i
    simpa [hi] using this
  · simp at hu

/-- What a claim leaks in one number. -/
def lkAt (ss : List QSchema) (g : QField → Int) (base : Int) (c : QClaims) : Int :=
  match ss[c.schema.toNat]? with
  | some x => base + sumI g (pickF x.fields (closL x.fields.length (x.deps.map depOf) c.fields))
  | none => 0
def tot (f : QClaims → Int) (cs : List QClaims) : Int := cs.foldl (fun s c => s + f c) 0
theorem tot_snoc (f : QClaims → Int) (l : List QClaims) (x : QClaims) : tot f (l ++ [x]) = tot f l + f x := by simp [tot, List.foldl_append]
theorem tot_go (f : QClaims → Int) (hf : ∀ c, 0 ≤ f c ∧ f c ≤ 9001) : ∀ (l : List QClaims) (s : Int), s ≤ l.foldl (fun s x => s + f x) s ∧ l.foldl (fun s x => s + f x) s ≤ s + 9001 * l.length
  | [], s => by simp
  | x :: l, s => by
    have h1 := hf x
    have h2 := tot_go f hf l (s + f x)
    simp only [List.foldl_cons, List.length_cons]
    omega
theorem tot_bound (f : QClaims → Int) (hf : ∀ c, 0 ≤ f c ∧ f c ≤ 9001) (l : List QClaims) : 0 ≤ tot f l ∧ tot f l ≤ 9001 * l.length := by
  have := tot_go f hf l 0
  unfold tot
  omega
def Weighed (ss : List QSchema) : Prop := ∀ x ∈ ss, x.fields.length ≤ 1000 ∧ ∀ y ∈ x.fields, (0 ≤ y.w0 ∧ y.w0 ≤ 9) ∧ (0 ≤ y.w1 ∧ y.w1 ≤ 9) ∧ (0 ≤ y.w2 ∧ y.w2 ≤ 9) ∧ (0 ≤ y.w3 ∧ y.w3 ≤ 9)
theorem pickF_mem {fs : List QField} {L : List Int} {y : QField} (h : y ∈ pickF fs L) : y ∈ fs := by
  obtain ⟨f, _, hf⟩ := List.mem_filterMap.1 h
  exact List.mem_of_getElem? hf
theorem pickF_len (fs : List QField) (L : List Int) : (pickF fs L).length ≤ L.length := List.length_filterMap_le _ _
theorem lkAt_bound {ss : List QSchema} (hw : Weighed ss) (g : QField → Int) (base : Int) (hb : 0 ≤ base ∧ base ≤ 1) (hg : ∀ x ∈ ss, ∀ y ∈ x.fields, 0 ≤ g y ∧ g y ≤ 9) (c : QClaims) : 0 ≤ lkAt ss g base c ∧ lkAt ss g base c ≤ 9001 := by
  unfold lkAt
  split
  · rename_i x hx
    have hm := List.mem_of_getElem? hx
    have h1 := sumI_bound g (pickF x.fields (closL x.fields.length (x.deps.map depOf) c.fields)) (fun y hy => hg x hm y (pickF_mem hy))
    have h2 := pickF_len x.fields (closL x.fields.length (x.deps.map depOf) c.fields)
    have h3 := closL_len x.fields.length (x.deps.map depOf) c.fields
    have h4 := (hw x hm).1
    omega
  · omega
def t0 (ss : List QSchema) (cs : List QClaims) : Int := tot (lkAt ss (·.w0) 1) cs
def t1 (ss : List QSchema) (cs : List QClaims) : Int := tot (lkAt ss (·.w1) 0) cs
def t2 (ss : List QSchema) (cs : List QClaims) : Int := tot (lkAt ss (·.w2) 0) cs
def t3 (ss : List QSchema) (cs : List QClaims) : Int := tot (lkAt ss (·.w3) 0) cs
def ofE (ck : Int) (ss : List QSchema) (cs : List QClaims) : Int := if ck = 0 then (if cs.all (fun c => fitsP ss c.schema c.fields c.values.length) then 0 else 230) else 160
def ofL (ck : Int) (ss : List QSchema) (cs : List QClaims) : List Int := if ofE ck ss cs = 0 then [t0 ss cs, t1 ss cs, t2 ss cs, t3 ss cs] else []
/-- A field of these weights. -/
def yF (a b c d : Int) : QField := ⟨⟨#[]⟩, ⟨0, 0, 0, ⟨#[]⟩, 0, []⟩, a, b, c, d⟩
theorem acc_step {ss : List QSchema} {cs : List QClaims} {k : Nat} {c : QClaims} {x : QSchema} (hc : cs[k]? = some c) (hx : ss[c.schema.toNat]? = some x) :
    w4V (t0 ss (cs.take (k + 1))) (t1 ss (cs.take (k + 1))) (t2 ss (cs.take (k + 1))) (t3 ss (cs.take (k + 1))) =
      accAt (t0 ss (cs.take k)) (t1 ss (cs.take k)) (t2 ss (cs.take k)) (t3 ss (cs.take k)) (yF (1 + sumI (·.w0) (pickF x.fields (closL x.fields.length (x.deps.map depOf) c.fields))) (sumI (·.w1) (pickF x.fields (closL x.fields.length (x.deps.map depOf) c.fields))) (sumI (·.w2) (pickF x.fields (closL x.fields.length (x.deps.map depOf) c.fields))) (sumI (·.w3) (pickF x.fields (closL x.fields.length (x.deps.map depOf) c.fields)))) 4 := by
  simp only [take_snoc hc, t0, t1, t2, t3, tot_snoc, accAt, yF, lkAt, hx, Int.zero_add]
end Go.Proofs.YtkgmonplcdnnbaaGreat

namespace Go.Proofs.YtkgmonplcdnnbaaGreat
open Go.RowKit Go.Shelf
attribute [local go_sem] Oper.semAt_some

set_option maxHeartbeats 8000000 in
set_option maxRecDepth 100000 in
theorem Of_any (A1 A2 A3 A4 A5 A6 : Option Addr) (n1 c1 n2 c2 n3 c3 n4 c4 n5 c5 n6 c6 : Nat) (A7 A : Option Addr) (n7 c7 n c : Nat) (ss : List QSchema) (cs : List QClaims) (ck : Int) (w : World) (hK : CheckSays (.agg #[.slice A1 n1 c1, .slice A2 n2 c2, .slice A3 n3 c3, .slice A4 n4 c4, .slice A5 n5 c5, .slice A6 n6 c6, .slice A7 n7 c7]) ck w) (h3 : SlB 6 96 qSchemaR w (.slice A3 n3 c3) ss) (hcs : SlB 3 56 qClaimsR w (.slice A n c) cs) (hI : ∀ x ∈ ss, ∀ d ∈ x.deps, depI64 d) (hW : ck = 0 → Weighed ss) :
    Calls Tryz.prog 12 #[.agg #[.slice A1 n1 c1, .slice A2 n2 c2, .slice A3 n3 c3, .slice A4 n4 c4, .slice A5 n5 c5, .slice A6 n6 c6, .slice A7 n7 c7], .slice A n c] w fun e w' => ∃ v, e = .returned (.tuple #[v, .int .i64 (ofE ck ss cs)]) ∧ SlR 1 iR w' v (ofL ck ss cs) ∧ Below w.heap.size w w' := by
  have HLN := Lib.hid h3.1.len
  have HLC := Lib.hid hcs.1.len
  have hn2 : n ≤ 2600000000000 := by have := hcs.2; have := HLC.out; omega
  have HK := Lib.hid hK
  have H3 := Lib.hid h3
  have HCS := Lib.hid hcs
  have HII := Lib.hid hI
  clear hK h3 hcs hI
  have hb0 : Below w.heap.size w (w.alloc (.cells #[.slice A1 n1 c1, .slice A2 n2 c2, .slice A3 n3 c3, .slice A4 n4 c4, .slice A5 n5 c5, .slice A6 n6 c6, .slice A7 n7 c7] 32)) := ((Below.refl _ _).alloc (Nat.le_refl _) _)
  have HCK := Lib.hid (HK.out _ hb0)
  go_enter Tryz.func12, Tryz.ntmps12
  go_wp2_with (go_at_call 23; refine HCK.out.mono ?_; clear HCK)
  first | rintro e w1 rfl hb1 | rintro e w1 ⟨rfl, hb1⟩
  have kT1 : Blk w1 w.heap.size 32 #[.slice A1 n1 c1, .slice A2 n2 c2, .slice A3 n3 c3, .slice A4 n4 c4, .slice A5 n5 c5, .slice A6 n6 c6, .slice A7 n7 c7] := (Blk.new _ _ _).below hb1 (by simp)
  have HB1 := Lib.hid (hb0.trans (hb1.mono hb0.size))
  have hw1 : w.heap.size < w1.heap.size := kT1.lt
  have HKT := Lib.hid kT1
  clear hb0 hb1 kT1
  by_cases hck : ck = 0
  case neg =>
    have htn : (ck != 0) = true := by simpa using hck
    have HE : Hid (ofE ck ss cs = 160) := Lib.hid (by rw [ofE, if_neg hck])
    have HL : Hid (ofL ck ss cs = []) := Lib.hid (by rw [ofL, HE.out, if_neg (by decide)])
    clear hck hW
    go_wp2_with fail
    go_ret2
    rw [HE.out, HL.out]
    exact ⟨_, rfl, SlR.nil _ _ (Nat.zero_le _), HB1.out⟩
  subst hck
  have HW := Lib.hid (hW rfl)
  clear hW
  have HR0 : Hid (Blk (w1.alloc (.cells #[.int .i64 0, .int .i64 0, .int .i64 0, .int .i64 0] 56)) w1.heap.size 56 (w4V (t0 ss (cs.take 0)) (t1 ss (cs.take 0)) (t2 ss (cs.take 0)) (t3 ss (cs.take 0)))) := Lib.hid (Blk.new _ _ _)
  have HRT : Hid (Blk (w1.alloc (.cells #[.int .i64 0, .int .i64 0, .int .i64 0, .int .i64 0] 56)) w.heap.size 32 #[.slice A1 n1 c1, .slice A2 n2 c2, .slice A3 n3 c3, .slice A4 n4 c4, .slice A5 n5 c5, .slice A6 n6 c6, .slice A7 n7 c7]) := Lib.hid (HKT.out.alloc _)
  have HRB : Hid (Below w.heap.size w (w1.alloc (.cells #[.int .i64 0, .int .i64 0, .int .i64 0, .int .i64 0] 56))) := Lib.hid (HB1.out.alloc (by omega) _)
  go_wp2_with fail
  go_loopg [16] n (fun q i wr => ∃ k : Nat, k ≤ n ∧ q = n - k ∧ i = .int .i64 k ∧ (cs.take k).all (fun c => fitsP ss c.schema c.fields c.values.length) = true ∧ Blk wr w1.heap.size 56 (w4V (t0 ss (cs.take k)) (t1 ss (cs.take k)) (t2 ss (cs.take k)) (t3 ss (cs.take k))) ∧ Blk wr w.heap.size 32 #[.slice A1 n1 c1, .slice A2 n2 c2, .slice A3 n3 c3, .slice A4 n4 c4, .slice A5 n5 c5, .slice A6 n6 c6, .slice A7 n7 c7] ∧ Below w.heap.size w wr)
  case atStart => exact ⟨0, Nat.zero_le _, rfl, rfl, rfl, HR0.out, HRT.out, HRB.out⟩
  case round =>
    clear HR0 HRT HRB HKT
    obtain ⟨k, hk, hq, rfl, hall, hr, ht, hb⟩ := hrel
    obtain ⟨wy, rfl⟩ : ∃ q, q = wr := ⟨_, rfl⟩
    have HQ := Lib.hid hq
    have HALL := Lib.hid hall
    have HR := Lib.hid hr
    have HT := Lib.hid ht
    have HB := Lib.hid hb
    have lr := hr.lt
    have ltw := ht.lt
    clear hq hall hr ht hb
    by_cases hlt : k < n
    case neg =>
      have hkn : cs.take k = cs := List.take_of_length_le (by have := HLC.out; omega)
      have HE : Hid (ofE 0 ss cs = 0) := Lib.hid (by rw [ofE, if_pos rfl, ← hkn, HALL.out, if_pos rfl])
      have HL : Hid (ofL 0 ss cs = [t0 ss cs, t1 ss cs, t2 ss cs, t3 ss cs]) := Lib.hid (by rw [ofL, HE.out, if_pos rfl])
      have hr4 := HR.out
      rw [hkn] at hr4
      have hsl : SlR 1 iR wy (.slice (some ⟨w1.heap.size, 0, none⟩) 4 4) [t0 ss cs, t1 ss cs, t2 ss cs, t3 ss cs] := ints_blk' (l := [t0 ss cs, t1 ss cs, t2 ss cs, t3 ss cs]) hr4 (by simp [maxLen])
      have HCL := Lib.hid (cloneInt_g iR_one (some ⟨w1.heap.size, 0, none⟩) 4 4 [t0 ss cs, t1 ss cs, t2 ss cs, t3 ss cs] wy ⟨hsl, by simp⟩)
      clear hkn hr4 hsl
      go_wp2_with (go_at_call 27; refine HCL.out.mono ?_)
      rintro e w5 ⟨v, vs, rfl, hvs, hown, hb5⟩
      have hsr := slR_of_row hown (hvs.mono iR_mono hb5) rfl
      have HSR := Lib.hid hsr
      have HB5 := Lib.hid (HB.out.trans (hb5.mono HB.out.size))
      clear hsr hvs hown hb5 HCL
      go_wp2_with fail
      go_ret2
      rw [HE.out, HL.out]
      exact ⟨_, rfl, HSR.out, HB5.out⟩
    obtain ⟨b', off', x, FA, nf, cf, VA, nv, cv, rfl, hbl', hx, z0, z1, z2, hF, hV⟩ := qClaims_at HCS.out.1 hlt
    rw [← HB.out.cell (p := ⟨b', _, none⟩) hbl'] at z0 z1 z2
    have hbw' : b' < wy.heap.size := Nat.lt_of_lt_of_le hbl' HB.out.size
    have HX := Lib.hid hx
    have HF := Lib.hid hF
    have HV := Lib.hid hV.len
    have hnv : nv ≤ 9223372036854775807 := by have := hV.le; omega
    have hk0 : (0 : Int) ≤ (k : Int) := by omega
    have hk1 : (k : Int) < (n : Int) := by omega
    have q0 := HT.out.cell 0
    have q1 := HT.out.cell 1
    have q2 := HT.out.cell 2
    have q3 := HT.out.cell 3
    have q4 := HT.out.cell 4
    have q5 := HT.out.cell 5
    have q6 := HT.out.cell 6
    simp only [List.getElem?_toArray, List.getElem?_cons_zero, List.getElem?_cons_succ] at q0 q1 q2 q3 q4 q5 q6
    obtain ⟨fb, hfb⟩ : ∃ v, fitsP ss x.schema x.fields nv = v := ⟨_, rfl⟩
    have hba : Below w.heap.size w (wy.alloc (.cells #[.int .i64 x.schema, .slice FA nf cf, .slice VA nv cv] 42)) := HB.out.alloc HB.out.size _
    have HFT : Hid (Calls Tryz.prog 25 #[.agg #[.slice A1 n1 c1, .slice A2 n2 c2, .slice A3 n3 c3, .slice A4 n4 c4, .slice A5 n5 c5, .slice A6 n6 c6, .slice A7 n7 c7], .agg #[.int .i64 x.schema, .slice FA nf cf, .slice VA nv cv]] (wy.alloc (.cells #[.int .i64 x.schema, .slice FA nf cf, .slice VA nv cv] 42)) fun e w' => e = .returned (.bool fb) ∧ Below (wy.heap.size + 1) (wy.alloc (.cells #[.int .i64 x.schema, .slice FA nf cf, .slice VA nv cv] 42)) w') := Lib.hid (by
      rw [← hfb]
      have := fits_any A1 A2 A3 A4 A5 A6 n1 c1 n2 c2 n3 c3 n4 c4 n5 c5 n6 c6 A7 FA VA n7 c7 nf cf nv cv ss x.schema x.fields _ (H3.out.mono qSchemaR_mono hba).1 (i_of_ints (HF.out.mono intR_mono hba)) hnv
      rwa [World.size_alloc] at this)
    have HFB := Lib.hid hfb
    clear hfb hF hV hx hba
    go_wp2_with (go_at_call 25; refine HFT.out.mono ?_; clear HFT)
    first | rintro e w2 rfl hb2 | rintro e w2 ⟨rfl, hb2⟩
    have kC := (Blk.new wy 42 #[.int .i64 x.schema, .slice FA nf cf, .slice VA nv cv]).below hb2 (by simp)
    have kT := (HT.out.alloc (.cells #[.int .i64 x.schema, .slice FA nf cf, .slice VA nv cv] 42)).below hb2 (by omega)
    have kR := (HR.out.alloc (.cells #[.int .i64 x.schema, .slice FA nf cf, .slice VA nv cv] 42)).below hb2 (by omega)
    have HB2 := Lib.hid ((HB.out.alloc HB.out.size (.cells #[.int .i64 x.schema, .slice FA nf cf, .slice VA nv cv] 42)).trans (hb2.mono (by have := HB.out.size; omega)))
    clear hb2 z0 z1 z2 q0 q1 q3 q4 q5 q6 q2
    cases fb with
    | false =>
      have HE : Hid (ofE 0 ss cs = 230) := Lib.hid (by
        have : cs.all (fun c => fitsP ss c.schema c.fields c.values.length) = false := by
          cases h : cs.all (fun c => fitsP ss c.schema c.fields c.values.length) with
          | false => rfl
          | true =>
            have := List.all_eq_true.1 h x (List.mem_of_getElem? HX.out)
            rw [← HV.out, HFB.out] at this
            cases this
        rw [ofE, if_pos rfl, this]
        rfl)
      have HL : Hid (ofL 0 ss cs = []) := Lib.hid (by rw [ofL, HE.out, if_neg (by decide)])
      clear kC kT kR
      go_wp2_with fail
      go_ret2
      rw [HE.out, HL.out]
      exact ⟨_, rfl, SlR.nil _ _ (Nat.zero_le _), HB2.out⟩
    | true =>
      obtain ⟨g0, g1, _⟩ := fitsP_yes HFB.out
      obtain ⟨sk, hsk⟩ : ∃ sk : Nat, x.schema = sk := ⟨x.schema.toNat, by omega⟩
      have hskn : sk < n3 := by have := HLN.out; omega
      obtain ⟨b, off, y, B1, m1, d1, B2, m2, d2, hA3, hbl, hy, e0, e1, e2, e3, e4, e5, G1, G2⟩ := qSchema_at H3.out.1 (k := sk) hskn
      subst hA3
      have hw2 : w.heap.size ≤ w2.heap.size := HB2.out.size
      rw [← HB2.out.cell (p := ⟨b, _, none⟩) hbl] at e0 e1 e2 e3 e4 e5
      have hblw : b < w2.heap.size := Nat.lt_of_lt_of_le hbl hw2
      have hyt : ss[x.schema.toNat]? = some y := by rw [hsk, Int.toNat_natCast]; exact hy
      have hym := List.mem_of_getElem? hy
      have hm1 : m1 = y.fields.length := G1.1.len
      have HFL : Hid (Calls Tryz.prog 26 #[.agg #[.string y.name, .string y.by_, .int .i64 y.issuer, .int .i64 y.version, .slice B1 m1 d1, .slice B2 m2 d2], .slice FA nf cf] w2.drew fun e w' => e = .returned (.agg (fieldsV y.fields (closL m1 (y.deps.map depOf) x.fields))) ∧ Below w2.heap.size w2.drew w') := Lib.hid
        (Fields_any y.name y.by_ y.issuer y.version B1 B2 FA m1 d1 m2 d2 nf cf y.fields (y.deps.map depOf) x.fields w2.drew ((G1.mono qFieldR_mono HB2.out.drew).1) ((deps_of_q G2.1 (HII.out y hym)).mono depR_mono HB2.out.drew) (HF.out.mono intR_mono HB2.out.drew) (by rw [hm1]; exact (HW.out y hym).1) (HW.out y hym).2)
      have HYT := Lib.hid hyt
      have HM1 := Lib.hid hm1
      have q2 := kT.cell 2
      have u0 := kC.cell 0
      have u1 := kC.cell 1
      have lt2 := kT.lt
      have lc2 := kC.lt
      have lr2 := kR.lt
      have hs0 : (0 : Int) ≤ (sk : Int) := by omega
      have hs1 : (sk : Int) < (n3 : Int) := by omega
      simp only [List.getElem?_toArray, List.getElem?_cons_zero, List.getElem?_cons_succ] at q2 u0 u1
      rw [hsk] at u0
      have HKR2 := Lib.hid kR
      have HKT2 := Lib.hid kT
      clear kT kC kR G1 G2 hy hyt hym hm1 g0 g1 hsk hbl
      go_upto_region 9 with fail
      go_cut [33, 34] (fun x33 x34 wx => x33 = .agg (fieldsV y.fields (closL m1 (y.deps.map depOf) x.fields)) ∧ x34 = .int .i64 0 ∧ Below w2.heap.size w2 wx)
      case first =>
        go_region_held3 (fun w' => w'.cell? ⟨w.heap.size, 2, none⟩ = some (.slice (some ⟨b, off, none⟩) n3 c3) ∧ w'.cell? ⟨wy.heap.size, 0, none⟩ = some (.int .i64 sk) ∧ w'.cell? ⟨wy.heap.size, 1, none⟩ = some (.slice FA nf cf) ∧ w'.cell? ⟨b, off + sk * 6, none⟩ = some (.string y.name) ∧ w'.cell? ⟨b, off + sk * 6 + 1, none⟩ = some (.string y.by_) ∧ w'.cell? ⟨b, off + sk * 6 + 2, none⟩ = some (.int .i64 y.issuer) ∧ w'.cell? ⟨b, off + sk * 6 + 3, none⟩ = some (.int .i64 y.version) ∧ w'.cell? ⟨b, off + sk * 6 + 4, none⟩ = some (.slice B1 m1 d1) ∧ w'.cell? ⟨b, off + sk * 6 + 5, none⟩ = some (.slice B2 m2 d2))
          (first | go_keep | exact ⟨q2, u0, u1, e0, e1, e2, e3, e4, e5⟩ | exact ⟨(hb3.cell (p := ⟨w.heap.size, 2, none⟩) (by simp; omega)).trans q2, (hb3.cell (p := ⟨wy.heap.size, 0, none⟩) (by simp; omega)).trans u0, (hb3.cell (p := ⟨wy.heap.size, 1, none⟩) (by simp; omega)).trans u1, (hb3.cell (p := ⟨b, _, none⟩) (by simp; omega)).trans e0, (hb3.cell (p := ⟨b, _, none⟩) (by simp; omega)).trans e1, (hb3.cell (p := ⟨b, _, none⟩) (by simp; omega)).trans e2, (hb3.cell (p := ⟨b, _, none⟩) (by simp; omega)).trans e3, (hb3.cell (p := ⟨b, _, none⟩) (by simp; omega)).trans e4, (hb3.cell (p := ⟨b, _, none⟩) (by simp; omega)).trans e5⟩)
          (first
            | (go_at_call 26; refine HFL.out.mono ?_; rintro e w3 ⟨rfl, hb3⟩))
        all_goals (go_wp2_with fail; go_meet; exact ⟨rfl, rfl, ((Below.refl _ _).drew).trans hb3⟩)
      case rest =>
        obtain ⟨rfl, rfl, hbx⟩ := hcut
        obtain ⟨wx, rfl⟩ : ∃ wx : World, wx = wc := ⟨_, rfl⟩
        rw [HM1.out]
        have hAS := acc_step HX.out HYT.out
        have hbw : ∀ g : QField → Int, (∀ x ∈ ss, ∀ z ∈ x.fields, 0 ≤ g z ∧ g z ≤ 9) → 0 ≤ sumI g (pickF y.fields (closL y.fields.length (y.deps.map depOf) x.fields)) ∧ sumI g (pickF y.fields (closL y.fields.length (y.deps.map depOf) x.fields)) ≤ 9000 := fun g hg => by
          have hm := List.mem_of_getElem? HYT.out
          have h1 := sumI_bound g (pickF y.fields (closL y.fields.length (y.deps.map depOf) x.fields)) (fun z hz => hg y hm z (pickF_mem hz))
          have h2 := pickF_len y.fields (closL y.fields.length (y.deps.map depOf) x.fields)
          have h3 := closL_len y.fields.length (y.deps.map depOf) x.fields
          have h4 := (HW.out y hm).1
          omega
        have m0 := hbw (·.w0) (fun x hx z hz => ((HW.out x hx).2 z hz).1)
        have m1' := hbw (·.w1) (fun x hx z hz => ((HW.out x hx).2 z hz).2.1)
        have m2' := hbw (·.w2) (fun x hx z hz => ((HW.out x hx).2 z hz).2.2.1)
        have m3' := hbw (·.w3) (fun x hx z hz => ((HW.out x hx).2 z hz).2.2.2)
        have hkl : (cs.take k).length ≤ 2600000000000 := by rw [List.length_take]; omega
        have n0 := tot_bound _ (fun c => lkAt_bound HW.out (·.w0) 1 (by omega) (fun x hx z hz => ((HW.out x hx).2 z hz).1) c) (cs.take k)
        have n1' := tot_bound _ (fun c => lkAt_bound HW.out (·.w1) 0 (by omega) (fun x hx z hz => ((HW.out x hx).2 z hz).2.1) c) (cs.take k)
        have n2' := tot_bound _ (fun c => lkAt_bound HW.out (·.w2) 0 (by omega) (fun x hx z hz => ((HW.out x hx).2 z hz).2.2.1) c) (cs.take k)
        have n3' := tot_bound _ (fun c => lkAt_bound HW.out (·.w3) 0 (by omega) (fun x hx z hz => ((HW.out x hx).2 z hz).2.2.2) c) (cs.take k)
        unfold fieldsV w4V
        obtain ⟨v0, hv0⟩ : ∃ v, 1 + sumI (·.w0) (pickF y.fields (closL y.fields.length (y.deps.map depOf) x.fields)) = v := ⟨_, rfl⟩
        obtain ⟨v1, hv1⟩ : ∃ v, sumI (·.w1) (pickF y.fields (closL y.fields.length (y.deps.map depOf) x.fields)) = v := ⟨_, rfl⟩
        obtain ⟨v2, hv2⟩ : ∃ v, sumI (·.w2) (pickF y.fields (closL y.fields.length (y.deps.map depOf) x.fields)) = v := ⟨_, rfl⟩
        obtain ⟨v3, hv3⟩ : ∃ v, sumI (·.w3) (pickF y.fields (closL y.fields.length (y.deps.map depOf) x.fields)) = v := ⟨_, rfl⟩
        obtain ⟨A0, hA0⟩ : ∃ v, t0 ss (cs.take k) = v := ⟨_, rfl⟩
        obtain ⟨A1', hA1⟩ : ∃ v, t1 ss (cs.take k) = v := ⟨_, rfl⟩
        obtain ⟨A2', hA2⟩ : ∃ v, t2 ss (cs.take k) = v := ⟨_, rfl⟩
        obtain ⟨A3', hA3⟩ : ∃ v, t3 ss (cs.take k) = v := ⟨_, rfl⟩
        have p0 : 0 ≤ v0 ∧ v0 ≤ 9001 := by omega
        have p1 : 0 ≤ v1 ∧ v1 ≤ 9000 := by omega
        have p2 : 0 ≤ v2 ∧ v2 ≤ 9000 := by omega
        have p3 : 0 ≤ v3 ∧ v3 ≤ 9000 := by omega
        have r0 : 0 ≤ A0 ∧ A0 ≤ 1000000000000000000 := by unfold t0 at hA0; omega
        have r1 : 0 ≤ A1' ∧ A1' ≤ 1000000000000000000 := by unfold t1 at hA1; omega
        have r2 : 0 ≤ A2' ∧ A2' ≤ 1000000000000000000 := by unfold t2 at hA2; omega
        have r3 : 0 ≤ A3' ∧ A3' ≤ 1000000000000000000 := by unfold t3 at hA3; omega
        have hkr := HKR2.out
        rw [hv0, hv1, hv2, hv3, hA0, hA1, hA2, hA3] at hAS
        rw [hA0, hA1, hA2, hA3] at hkr
        rw [hv0, hv1, hv2, hv3]
        have HAS := Lib.hid hAS
        have HRZ : Hid (RdF w1.heap.size A0 A1' A2' A3' (yF v0 v1 v2 v3) 0 wx wx) := Lib.hid ⟨hkr.below hbx lr2, KpE.refl _ _, KeepsOthers.refl _, Below.refl _ _⟩
        have HTX := Lib.hid (HKT2.out.below hbx lt2)
        have HBX := Lib.hid (HB2.out.trans (hbx.mono hw2))
        clear hkr hAS hbw m0 m1' m2' m3' n0 n1' n2' n3' hv0 hv1 hv2 hv3 hA0 hA1 hA2 hA3 hbx e0 e1 e2 e3 e4 e5 q2 u0 u1 HKR2 HKT2 hkl
        have hi0 : ∀ w : World, (Instr.index 56 (.agg #[.int .i64 v0, .int .i64 v1, .int .i64 v2, .int .i64 v3]) (.int .i64 0)).run Tryz.prog w = .ok (.int .i64 v0) w := fun _ => by kernel_rfl
        have hi1 : ∀ w : World, (Instr.index 56 (.agg #[.int .i64 v0, .int .i64 v1, .int .i64 v2, .int .i64 v3]) (.int .i64 1)).run Tryz.prog w = .ok (.int .i64 v1) w := fun _ => by kernel_rfl
        have hi2 : ∀ w : World, (Instr.index 56 (.agg #[.int .i64 v0, .int .i64 v1, .int .i64 v2, .int .i64 v3]) (.int .i64 2)).run Tryz.prog w = .ok (.int .i64 v2) w := fun _ => by kernel_rfl
        have hi3 : ∀ w : World, (Instr.index 56 (.agg #[.int .i64 v0, .int .i64 v1, .int .i64 v2, .int .i64 v3]) (.int .i64 3)).run Tryz.prog w = .ok (.int .i64 v3) w := fun _ => by kernel_rfl
        go_wp2_with fail
        go_loopg [34] 4 (fun q i wq => ∃ j : Nat, j ≤ 4 ∧ q = 4 - j ∧ i = .int .i64 j ∧ RdF w1.heap.size A0 A1' A2' A3' (yF v0 v1 v2 v3) j wx wq)
        case atStart => exact ⟨0, Nat.zero_le _, rfl, rfl, HRZ.out⟩
        case round =>
          clear HRZ
          obtain ⟨j, hj, hq2, rfl, hrd⟩ := hrel
          obtain ⟨wq, rfl⟩ : ∃ q, q = wr := ⟨_, rfl⟩
          have HQ2 := Lib.hid hq2
          have HRD := Lib.hid hrd
          clear hq2 hrd
          by_cases hj4 : j < 4
          · obtain h0 | h0 | h0 | h0 : j = 0 ∨ j = 1 ∨ j = 2 ∨ j = 3 := by omega
            · subst h0
              have kr := HRD.out.blk
              dsimp only [accAt, w4V, yF] at kr
              have c0 := kr.cell 0
              have c1 := kr.cell 1
              have c2 := kr.cell 2
              have c3 := kr.cell 3
              have fz := kr.frozen 0
              have lr3 := kr.lt
              simp only [List.getElem?_toArray, List.getElem?_cons_zero, List.getElem?_cons_succ] at c0 c1 c2 c3
              have HP : Hid (RdF w1.heap.size A0 A1' A2' A3' (yF v0 v1 v2 v3) (0 + 1) wx (wq.setCell ⟨w1.heap.size, 0, none⟩ (.int .i64 (A0 + v0)))) := Lib.hid (HRD.out.put (kr.put 0 _))
              clear kr
              go_wp2_with fail
              go_roundg (4 - (0 + 1))
              case measure => have := HQ2.out; omega
              case rel => exact ⟨0 + 1, by omega, rfl, by go_num, HP.out⟩
            · subst h0
              have kr := HRD.out.blk
              dsimp only [accAt, w4V, yF] at kr
              have c0 := kr.cell 0
              have c1 := kr.cell 1
              have c2 := kr.cell 2
              have c3 := kr.cell 3
              have fz := kr.frozen 1
              have lr3 := kr.lt
              simp only [List.getElem?_toArray, List.getElem?_cons_zero, List.getElem?_cons_succ] at c0 c1 c2 c3
              have HP : Hid (RdF w1.heap.size A0 A1' A2' A3' (yF v0 v1 v2 v3) (1 + 1) wx (wq.setCell ⟨w1.heap.size, 1, none⟩ (.int .i64 (A1' + v1)))) := Lib.hid (HRD.out.put (kr.put 1 _))
              clear kr
              go_wp2_with fail
              go_roundg (4 - (1 + 1))
              case measure => have := HQ2.out; omega
              case rel => exact ⟨1 + 1, by omega, rfl, by go_num, HP.out⟩
            · subst h0
              have kr := HRD.out.blk
              dsimp only [accAt, w4V, yF] at kr
              have c0 := kr.cell 0
              have c1 := kr.cell 1
              have c2 := kr.cell 2
              have c3 := kr.cell 3
              have fz := kr.frozen 2
              have lr3 := kr.lt
              simp only [List.getElem?_toArray, List.getElem?_cons_zero, List.getElem?_cons_succ] at c0 c1 c2 c3
              have HP : Hid (RdF w1.heap.size A0 A1' A2' A3' (yF v0 v1 v2 v3) (2 + 1) wx (wq.setCell ⟨w1.heap.size, 2, none⟩ (.int .i64 (A2' + v2)))) := Lib.hid (HRD.out.put (kr.put 2 _))
              clear kr
              go_wp2_with fail
              go_roundg (4 - (2 + 1))
              case measure => have := HQ2.out; omega
              case rel => exact ⟨2 + 1, by omega, rfl, by go_num, HP.out⟩
            · subst h0
              have kr := HRD.out.blk
              dsimp only [accAt, w4V, yF] at kr
              have c0 := kr.cell 0
              have c1 := kr.cell 1
              have c2 := kr.cell 2
              have c3 := kr.cell 3
              have fz := kr.frozen 3
              have lr3 := kr.lt
              simp only [List.getElem?_toArray, List.getElem?_cons_zero, List.getElem?_cons_succ] at c0 c1 c2 c3
              have HP : Hid (RdF w1.heap.size A0 A1' A2' A3' (yF v0 v1 v2 v3) (3 + 1) wx (wq.setCell ⟨w1.heap.size, 3, none⟩ (.int .i64 (A3' + v3)))) := Lib.hid (HRD.out.put (kr.put 3 _))
              clear kr
              go_wp2_with fail
              go_roundg (4 - (3 + 1))
              case measure => have := HQ2.out; omega
              case rel => exact ⟨3 + 1, by omega, rfl, by go_num, HP.out⟩
          · obtain rfl : j = 4 := by omega
            go_wp2_with fail
            go_roundg (n - (k + 1))
            case measure => have := HQ.out; omega
            case rel =>
              refine ⟨k + 1, by omega, rfl, by go_num, ?_, ?_, HTX.out.below (HRD.out.old) hw1, HBX.out.trans (HRD.out.old.mono (by omega))⟩
              · rw [take_snoc HX.out, List.all_append, HALL.out]
                simp [← HV.out, HFB.out]
              · rw [HAS.out]
                exact HRD.out.blk

end Go.Proofs.YtkgmonplcdnnbaaGreat

namespace Go.Proofs.YtkgmonplcdnnbaaGreat
open Go.RowKit Go.Shelf
attribute [local go_sem] Oper.semAt_some

theorem slR_blk {α : Type} {sz : Nat} {R : World → List Value → α → Prop} {w : World} {l : List α} {g : Nat} {t : TypeId} {cs : List Value} (h : Blk w g t cs.toArray) (hc : CellsR sz R w cs l) (hm : l.length ≤ maxLen) : SlR sz R w (.slice (some ⟨g, 0, none⟩) l.length l.length) l := by
  refine ⟨some ⟨g, 0, none⟩, l.length, rfl, Nat.le_refl _, hm, fun i x hi => ⟨g, 0, (cs.drop (i * sz)).take sz, rfl, h.lt, ?_, ?_, hc.2 i x hi⟩⟩
  · have hil := (List.getElem?_eq_some_iff.1 hi).1
    have hle : i * sz + sz ≤ cs.length := by rw [hc.1, ← Nat.succ_mul]; exact Nat.mul_le_mul_right _ hil
    rw [List.length_take, List.length_drop]; omega
  · intro j u hu
    rcases Nat.lt_or_ge j sz with hj | hj
    · rw [List.getElem?_take_of_lt hj, List.getElem?_drop] at hu
      rw [Nat.zero_add, h.cell]
      simpa using hu
    · rw [List.getElem?_eq_none (by rw [List.length_take]; omega)] at hu
      cases hu

def fSelf : QField := ⟨⟨#[115, 101, 108, 102]⟩, ⟨3, 0, 4095, ⟨#[]⟩, -1, []⟩, 9, 9, 9, 9⟩
def fA0 : QField := ⟨⟨#[97]⟩, ⟨1, 0, 9, ⟨#[]⟩, -1, []⟩, 1, 2, 0, 0⟩
def fB0 : QField := ⟨⟨#[98]⟩, ⟨1, 0, 9, ⟨#[]⟩, -1, []⟩, 3, 0, 5, 0⟩
def dep0 : QDep := ⟨[⟨#[97]⟩], ⟨#[98]⟩, [1], 2⟩
def sch0 : QSchema := ⟨⟨#[115]⟩, ⟨#[120]⟩, 0, 1, [fSelf, fA0, fB0], [dep0]⟩
def T0 : QSource := { issuers := [⟨#[120]⟩], units := [], schemas := [sch0], rules := [], converts := [], purposes := [] }

/-- The fixed tables, as they lie. -/
def Tab0 (T : Value) (w : World) : Prop := ∃ A1 A3 A7, T = .agg #[.slice A1 1 1, .slice none 0 0, .slice A3 1 1, .slice none 0 0, .slice none 0 0, .slice none 0 0, .slice A7 1 1] ∧ SlB 1 16 strR w (.slice A1 1 1) T0.issuers ∧ SlB 6 96 qSchemaR w (.slice A3 1 1) T0.schemas ∧ SlR 1 iR w (.slice A7 1 1) [0]

theorem CellsR.single {α : Type} {R : World → List Value → α → Prop} {w : World} {cs : List Value} {x : α} {sz : Nat} (hl : cs.length = sz) (h : R w cs x) : CellsR sz R w cs [x] := by
  refine ⟨by simp [hl], fun i y hi => ?_⟩
  rcases i with _ | i
  · simp only [List.getElem?_cons_zero, Option.some.injEq] at hi
    subst hi
    simpa [← hl] using h
  · simp at hi

set_option maxHeartbeats 8000000 in
set_option maxRecDepth 100000 in
theorem tables_any (w : World) : Calls Tryz.prog 22 #[] w fun e w' => ∃ v, e = .returned v ∧ Tab0 v w' ∧ Below w.heap.size w w' := by
  go_enter Tryz.func22, Tryz.ntmps22
  go_wp2_with fail
  obtain ⟨w9, hw9⟩ : ∃ q, q = (((((((((w.alloc (.cells #[.slice (some ⟨w.heap.size + 1 + 1 + 1, 0, none⟩) 1 1, .slice none 0 0, .slice (some ⟨w.heap.size + 1 + 1 + 1 + 1 + 1 + 1 + 1, 0, none⟩) 1 1, .slice none 0 0, .slice none 0 0, .slice none 0 0, .slice (some ⟨w.heap.size + 1 + 1 + 1 + 1 + 1 + 1 + 1 + 1, 0, none⟩) 1 1] 32)).alloc (.cells #[.int .i64 1, .int .i64 0, .int .i64 9, .string ⟨#[]⟩, .int .i64 (-1), .slice none 0 0] 55)).alloc (.cells #[.string ⟨#[115, 101, 108, 102]⟩, .int .i64 3, .int .i64 0, .int .i64 4095, .string ⟨#[]⟩, .int .i64 (-1), .slice none 0 0, .int .i64 9, .int .i64 9, .int .i64 9, .int .i64 9, .string ⟨#[97]⟩, .int .i64 1, .int .i64 0, .int .i64 9, .string ⟨#[]⟩, .int .i64 (-1), .slice none 0 0, .int .i64 1, .int .i64 2, .int .i64 0, .int .i64 0, .string ⟨#[98]⟩, .int .i64 1, .int .i64 0, .int .i64 9, .string ⟨#[]⟩, .int .i64 (-1), .slice none 0 0, .int .i64 3, .int .i64 0, .int .i64 5, .int .i64 0] 58)).alloc (.cells #[.string ⟨#[120]⟩] 9)).alloc (.cells #[.string ⟨#[97]⟩] 9)).alloc (.cells #[.int .i64 1] 3)).alloc (.cells #[.slice (some ⟨w.heap.size + 1 + 1 + 1 + 1, 0, none⟩) 1 1, .string ⟨#[98]⟩, .slice (some ⟨w.heap.size + 1 + 1 + 1 + 1 + 1, 0, none⟩) 1 1, .int .i64 2] 75)).alloc (.cells #[.string ⟨#[115]⟩, .string ⟨#[120]⟩, .int .i64 0, .int .i64 1, .slice (some ⟨w.heap.size + 1 + 1, 0, none⟩) 3 3, .slice (some ⟨w.heap.size + 1 + 1 + 1 + 1 + 1 + 1, 0, none⟩) 1 1] 52)).alloc (.cells #[.int .i64 0] 3)) := ⟨_, rfl⟩
  rw [← hw9]
  have hb : Below w.heap.size w w9 := by
    rw [hw9]
    exact (((((((((Below.refl _ _).alloc (Nat.le_refl _) _).alloc (by simp) _).alloc (by simp; omega) _).alloc (by simp; omega) _).alloc (by simp; omega) _).alloc (by simp; omega) _).alloc (by simp; omega) _).alloc (by simp; omega) _).alloc (by simp; omega) _
  have b0 : Blk w9 w.heap.size 32 #[.slice (some ⟨w.heap.size + 1 + 1 + 1, 0, none⟩) 1 1, .slice none 0 0, .slice (some ⟨w.heap.size + 1 + 1 + 1 + 1 + 1 + 1 + 1, 0, none⟩) 1 1, .slice none 0 0, .slice none 0 0, .slice none 0 0, .slice (some ⟨w.heap.size + 1 + 1 + 1 + 1 + 1 + 1 + 1 + 1, 0, none⟩) 1 1] := by
    rw [hw9]; exact ((((((((Blk.new _ _ _).alloc _).alloc _).alloc _).alloc _).alloc _).alloc _).alloc _).alloc _
  have b2 : Blk w9 (w.heap.size + 1 + 1) 58 [.string ⟨#[115, 101, 108, 102]⟩, .int .i64 3, .int .i64 0, .int .i64 4095, .string ⟨#[]⟩, .int .i64 (-1), .slice none 0 0, .int .i64 9, .int .i64 9, .int .i64 9, .int .i64 9, .string ⟨#[97]⟩, .int .i64 1, .int .i64 0, .int .i64 9, .string ⟨#[]⟩, .int .i64 (-1), .slice none 0 0, .int .i64 1, .int .i64 2, .int .i64 0, .int .i64 0, .string ⟨#[98]⟩, .int .i64 1, .int .i64 0, .int .i64 9, .string ⟨#[]⟩, .int .i64 (-1), .slice none 0 0, .int .i64 3, .int .i64 0, .int .i64 5, .int .i64 0].toArray := by
    rw [hw9]; exact ((((((blkNew (by simp)).alloc _).alloc _).alloc _).alloc _).alloc _).alloc _
  have b3 : Blk w9 (w.heap.size + 1 + 1 + 1) 9 [Value.string ⟨#[120]⟩].toArray := by
    rw [hw9]; exact (((((blkNew (by simp)).alloc _).alloc _).alloc _).alloc _).alloc _
  have b4 : Blk w9 (w.heap.size + 1 + 1 + 1 + 1) 9 [Value.string ⟨#[97]⟩].toArray := by
    rw [hw9]; exact ((((blkNew (by simp)).alloc _).alloc _).alloc _).alloc _
  have b5 : Blk w9 (w.heap.size + 1 + 1 + 1 + 1 + 1) 3 [Value.int .i64 1].toArray := by
    rw [hw9]; exact (((blkNew (by simp)).alloc _).alloc _).alloc _
  have b6 : Blk w9 (w.heap.size + 1 + 1 + 1 + 1 + 1 + 1) 75 [Value.slice (some ⟨w.heap.size + 1 + 1 + 1 + 1, 0, none⟩) 1 1, .string ⟨#[98]⟩, .slice (some ⟨w.heap.size + 1 + 1 + 1 + 1 + 1, 0, none⟩) 1 1, .int .i64 2].toArray := by
    rw [hw9]; exact ((blkNew (by simp)).alloc _).alloc _
  have b7 : Blk w9 (w.heap.size + 1 + 1 + 1 + 1 + 1 + 1 + 1) 52 [Value.string ⟨#[115]⟩, .string ⟨#[120]⟩, .int .i64 0, .int .i64 1, .slice (some ⟨w.heap.size + 1 + 1, 0, none⟩) 3 3, .slice (some ⟨w.heap.size + 1 + 1 + 1 + 1 + 1 + 1, 0, none⟩) 1 1].toArray := by
    rw [hw9]; exact (blkNew (by simp)).alloc _
  have b8 : Blk w9 (w.heap.size + 1 + 1 + 1 + 1 + 1 + 1 + 1 + 1) 3 [Value.int .i64 0].toArray := by
    rw [hw9]; exact blkNew (by simp)
  clear hw9
  have s3 : SlB 1 16 strR w9 (.slice (some ⟨w.heap.size + 1 + 1 + 1, 0, none⟩) 1 1) [⟨#[120]⟩] := ⟨slR_blk (l := [(⟨#[120]⟩ : ByteArray)]) b3 (CellsR.single rfl rfl) (by simp [maxLen]), by simp⟩
  have s4 : SlB 1 16 strR w9 (.slice (some ⟨w.heap.size + 1 + 1 + 1 + 1, 0, none⟩) 1 1) [⟨#[97]⟩] := ⟨slR_blk (l := [(⟨#[97]⟩ : ByteArray)]) b4 (CellsR.single rfl rfl) (by simp [maxLen]), by simp⟩
  have s5 : SlB 1 8 iR w9 (.slice (some ⟨w.heap.size + 1 + 1 + 1 + 1 + 1, 0, none⟩) 1 1) [1] := ⟨slR_blk (l := [(1 : Int)]) b5 (CellsR.single rfl rfl) (by simp [maxLen]), by simp⟩
  have s8 : SlR 1 iR w9 (.slice (some ⟨w.heap.size + 1 + 1 + 1 + 1 + 1 + 1 + 1 + 1, 0, none⟩) 1 1) [0] := slR_blk (l := [(0 : Int)]) b8 (CellsR.single rfl rfl) (by simp [maxLen])
  have sn : SlB 1 16 strR w9 (.slice none 0 0) [] := ⟨SlR.nil _ _ (Nat.zero_le _), by simp⟩
  have s6 : SlB 4 72 qDepR w9 (.slice (some ⟨w.heap.size + 1 + 1 + 1 + 1 + 1 + 1, 0, none⟩) 1 1) [dep0] := ⟨slR_blk (l := [dep0]) b6 (CellsR.single rfl ⟨_, _, _, _, _, _, rfl, s4, s5⟩) (by simp [maxLen]), by simp⟩
  have s2 : SlB 11 120 qFieldR w9 (.slice (some ⟨w.heap.size + 1 + 1, 0, none⟩) 3 3) [fSelf, fA0, fB0] := ⟨slR_blk (l := [fSelf, fA0, fB0]) b2 (by
    refine ⟨rfl, fun i x hi => ?_⟩
    rcases i with _ | _ | _ | i
    · simp only [List.getElem?_cons_zero, Option.some.injEq] at hi; subst hi; exact ⟨none, 0, 0, rfl, sn⟩
    · simp only [Nat.zero_add, List.getElem?_cons_zero, List.getElem?_cons_succ, Option.some.injEq] at hi; subst hi; exact ⟨none, 0, 0, rfl, sn⟩
    · simp only [Nat.zero_add, List.getElem?_cons_zero, List.getElem?_cons_succ, Option.some.injEq] at hi; subst hi; exact ⟨none, 0, 0, rfl, sn⟩
    · simp at hi) (by simp [maxLen]), by simp⟩
  have s7 : SlB 6 96 qSchemaR w9 (.slice (some ⟨w.heap.size + 1 + 1 + 1 + 1 + 1 + 1 + 1, 0, none⟩) 1 1) [sch0] := ⟨slR_blk (l := [sch0]) b7 (CellsR.single rfl ⟨_, _, _, _, _, _, rfl, s2, s6⟩) (by simp [maxLen]), by simp⟩
  have k0 := b0.cell 0
  have k1 := b0.cell 1
  have k2 := b0.cell 2
  have k3 := b0.cell 3
  have k4 := b0.cell 4
  have k5 := b0.cell 5
  have k6 := b0.cell 6
  simp only [List.getElem?_toArray, List.getElem?_cons_zero, List.getElem?_cons_succ] at k0 k1 k2 k3 k4 k5 k6
  refine bodyPost_ret (v := .agg #[.slice (some ⟨w.heap.size + 1 + 1 + 1, 0, none⟩) 1 1, .slice none 0 0, .slice (some ⟨w.heap.size + 1 + 1 + 1 + 1 + 1 + 1 + 1, 0, none⟩) 1 1, .slice none 0 0, .slice none 0 0, .slice none 0 0, .slice (some ⟨w.heap.size + 1 + 1 + 1 + 1 + 1 + 1 + 1 + 1, 0, none⟩) 1 1]) (by simp [results, Tryz.results22, go_sem, k0, k1, k2, k3, k4, k5, k6]) rfl ?_
  exact ⟨_, rfl, ⟨_, _, _, rfl, s3, s7, s8⟩, hb⟩

end Go.Proofs.YtkgmonplcdnnbaaGreat

namespace Go.Proofs.YtkgmonplcdnnbaaGreat
open Go.RowKit Go.Shelf

def pv0 : QConvert → Bool := fun _ => true
def E0 : QSource := { issuers := [], units := [], schemas := [], rules := [], converts := [], purposes := [] }
theorem ck_T0 : checkP pv0 T0 [0] = 0 := by kernel_rfl
theorem ck_E0 : checkP pv0 E0 [0] = 160 := by kernel_rfl
theorem ofE_nil : ofE 0 T0.schemas [] = 0 := by kernel_rfl
theorem ofE_one : ofE 0 T0.schemas [⟨0, [], []⟩] = 0 := by kernel_rfl
theorem ofE_a : ofE 0 T0.schemas [⟨0, [1], [4]⟩] = 0 := by kernel_rfl
theorem ofE_b : ofE 0 T0.schemas [⟨0, [2], [4]⟩, ⟨0, [], []⟩] = 0 := by kernel_rfl
theorem passN_succ' (ds : List Dep) : ∀ (n x : Nat), passN ds (n + 1) x = passN ds n (pass ds x)
  | 0, _ => rfl
  | n + 1, x => by rw [passN, passN_succ' ds n x, passN]
theorem passN_fix {ds : List Dep} {y : Nat} (h : pass ds y = y) : ∀ n : Nat, passN ds n y = y
  | 0 => rfl
  | n + 1 => by rw [passN, passN_fix h n, h]
theorem clos_two {ds : List Dep} {x y : Nat} (h : pass ds x = y) (h' : pass ds y = y) : clos ds x = y := by
  rw [clos, show 4096 = 4095 + 1 from rfl, passN_succ', h, passN_fix h']
theorem cls (F : List Int) {y : Nat} (h0 : closOk 3 [depOf dep0] F = true) (h : pass [depOf dep0] (bitsL F 0) = y) (h' : pass [depOf dep0] y = y) : closL sch0.fields.length (sch0.deps.map depOf) F = listX 3 y := by
  show closL 3 [depOf dep0] F = _
  rw [closL, if_pos h0, clos_two h h']
theorem cl_a' : closL sch0.fields.length (sch0.deps.map depOf) [1] = [1, 2] := (cls [1] (y := 6) (by kernel_rfl) (by kernel_rfl) (by kernel_rfl)).trans (by kernel_rfl)
theorem cl_b' : closL sch0.fields.length (sch0.deps.map depOf) [2] = [2] := (cls [2] (y := 4) (by kernel_rfl) (by kernel_rfl) (by kernel_rfl)).trans (by kernel_rfl)
theorem cl_c' : closL sch0.fields.length (sch0.deps.map depOf) [] = [] := (cls [] (y := 0) (by kernel_rfl) (by kernel_rfl) (by kernel_rfl)).trans (by kernel_rfl)
theorem cl_a : pickF sch0.fields (closL sch0.fields.length (sch0.deps.map depOf) [1]) = [fA0, fB0] := by rw [cl_a']; kernel_rfl
theorem cl_b : pickF sch0.fields (closL sch0.fields.length (sch0.deps.map depOf) [2]) = [fB0] := by rw [cl_b']; kernel_rfl
theorem cl_c : pickF sch0.fields (closL sch0.fields.length (sch0.deps.map depOf) []) = [] := by rw [cl_c']; kernel_rfl
theorem lk_at (g : QField → Int) (base : Int) (F V : List Int) : lkAt T0.schemas g base ⟨0, F, V⟩ = base + sumI g (pickF sch0.fields (closL sch0.fields.length (sch0.deps.map depOf) F)) := rfl
theorem of_nil : ofL 0 T0.schemas [] = [0, 0, 0, 0] := by rw [ofL, ofE_nil, if_pos rfl]; simp [t0, t1, t2, t3, tot]
theorem of_one : ofL 0 T0.schemas [⟨0, [], []⟩] = [1, 0, 0, 0] := by rw [ofL, ofE_one, if_pos rfl]; simp [t0, t1, t2, t3, tot, lk_at, cl_c, sumI]
theorem of_a : ofL 0 T0.schemas [⟨0, [1], [4]⟩] = [5, 2, 5, 0] := by rw [ofL, ofE_a, if_pos rfl]; simp [t0, t1, t2, t3, tot, lk_at, cl_a, sumI, fA0, fB0]
theorem of_b : ofL 0 T0.schemas [⟨0, [2], [4]⟩, ⟨0, [], []⟩] = [5, 0, 5, 0] := by rw [ofL, ofE_b, if_pos rfl]; simp [t0, t1, t2, t3, tot, lk_at, cl_b, cl_c, sumI, fB0]
theorem whE_a : wholeE 0 T0.schemas 0 [1] 1 = 0 := by kernel_rfl
theorem wh_a : wholeL 0 T0.schemas 0 [1] 1 = [1, 2] := by
  rw [wholeL, whE_a, if_pos rfl]
  exact cl_a'
theorem wh_b : wholeE 0 T0.schemas 1 [] 0 = 230 ∧ wholeL 0 T0.schemas 1 [] 0 = [] := ⟨by kernel_rfl, by kernel_rfl⟩
theorem of_bad : ofE 160 E0.schemas [] = 160 := by kernel_rfl
theorem weighed0 : Weighed T0.schemas := by unfold Weighed; decide
theorem deps0 : ∀ x ∈ T0.schemas, ∀ d ∈ x.deps, depI64 d := by decide
theorem weighedE : Weighed E0.schemas := by unfold Weighed; decide
theorem depsE : ∀ x ∈ E0.schemas, ∀ d ∈ x.deps, depI64 d := by decide

end Go.Proofs.YtkgmonplcdnnbaaGreat

namespace Go.Proofs.YtkgmonplcdnnbaaGreat
open Go.RowKit Go.Shelf

theorem Tab0.below {T : Value} {w w' : World} (h : Tab0 T w) (hb : Below w.heap.size w w') : Tab0 T w' := by
  obtain ⟨A1, A3, A7, h0, h1, h3, h7⟩ := h
  exact ⟨A1, A3, A7, h0, h1.mono strR_mono hb, h3.mono qSchemaR_mono hb, h7.mono iR_mono hb⟩
theorem slB_nil {α : Type} {sz bytes : Nat} {R : World → List Value → α → Prop} (w : World) : SlB sz bytes R w (.slice none 0 0) [] := ⟨SlR.nil _ _ (Nat.zero_le _), by simp⟩
theorem check0 {T : Value} {w : World} (h : Tab0 T w) : CheckSays T 0 w := by
  intro W hW
  obtain ⟨A1, A3, A7, rfl, h1, h3, h7⟩ := h.below hW
  have := schemasCheck_any A1 none A3 none none none 1 1 0 0 1 1 0 0 0 0 0 0 A7 1 1 T0 [0] pv0 W h1 (slB_nil W) h3 (slB_nil W) (slB_nil W) (slB_nil W) h7 ⟨fun _ _ _ _ _ => Says.nil, fun _ _ => Says.nil, fun _ _ => Says.nil⟩ deps0
  rw [ck_T0] at this
  exact this
theorem checkE {A7 : Option Addr} {w : World} (h7 : SlR 1 iR w (.slice A7 1 1) [0]) : CheckSays (.agg #[.slice none 0 0, .slice none 0 0, .slice none 0 0, .slice none 0 0, .slice none 0 0, .slice none 0 0, .slice A7 1 1]) 160 w := by
  intro W hW
  have := schemasCheck_any none none none none none none 0 0 0 0 0 0 0 0 0 0 0 0 A7 1 1 E0 [0] pv0 W (slB_nil W) (slB_nil W) (slB_nil W) (slB_nil W) (slB_nil W) (slB_nil W) (h7.mono iR_mono hW) ⟨fun _ _ _ _ _ => Says.nil, fun _ _ => Says.nil, fun _ _ => Says.nil⟩ depsE
  rw [ck_E0] at this
  exact this
theorem of0 {T : Value} {w W : World} (h : Tab0 T w) (hb : Below w.heap.size w W) {A : Option Addr} {n c : Nat} {cs : List QClaims} (hcs : SlB 3 56 qClaimsR W (.slice A n c) cs) :
    Calls Tryz.prog 12 #[T, .slice A n c] W fun e w' => ∃ v, e = .returned (.tuple #[v, .int .i64 (ofE 0 T0.schemas cs)]) ∧ SlR 1 iR w' v (ofL 0 T0.schemas cs) ∧ Below W.heap.size W w' := by
  have hW := h.below hb
  have hK := check0 hW
  obtain ⟨A1, A3, A7, rfl, h1, h3, h7⟩ := hW
  exact Of_any A1 none A3 none none none 1 1 0 0 1 1 0 0 0 0 0 0 A7 A 1 1 n c T0.schemas cs 0 W hK h3 hcs deps0 (fun _ => weighed0)
theorem ofX {A7 : Option Addr} {w : World} (h7 : SlR 1 iR w (.slice A7 1 1) [0]) :
    Calls Tryz.prog 12 #[.agg #[.slice none 0 0, .slice none 0 0, .slice none 0 0, .slice none 0 0, .slice none 0 0, .slice none 0 0, .slice A7 1 1], .slice none 0 0] w fun e w' => ∃ v, e = .returned (.tuple #[v, .int .i64 160]) ∧ Below w.heap.size w w' := by
  refine (Of_any none none none none none none 0 0 0 0 0 0 0 0 0 0 0 0 A7 none 1 1 0 0 E0.schemas [] 160 w (checkE h7) (slB_nil w) (slB_nil w) depsE (fun h => by cases h)).mono ?_
  rintro e w' ⟨v, rfl, _, hb⟩
  exact ⟨v, rfl, hb⟩
theorem wh0 {T : Value} {w W : World} (h : Tab0 T w) (hb : Below w.heap.size w W) (sc : Int) {FA VA : Option Addr} {nf cf nv cv : Nat} {F : List Int} (hF : SlR 1 intR W (.slice FA nf cf) F) (hnv : nv ≤ 9223372036854775807) :
    Calls Tryz.prog 14 #[T, .agg #[.int .i64 sc, .slice FA nf cf, .slice VA nv cv]] W fun e w' => ∃ v, e = .returned (.tuple #[v, .int .i64 (wholeE 0 T0.schemas sc F nv)]) ∧ SlR 1 iR w' v (wholeL 0 T0.schemas sc F nv) ∧ Below W.heap.size W w' := by
  have hW := h.below hb
  have hK := check0 hW
  obtain ⟨A1, A3, A7, rfl, h1, h3, h7⟩ := hW
  refine (Whole_any A1 none A3 none none none 1 1 0 0 1 1 0 0 0 0 0 0 A7 FA VA 1 1 nf cf nv cv T0.schemas sc 0 F W hK h3 hF hnv deps0).mono ?_
  rintro e w' ⟨v, rfl, hv, hb2⟩
  exact ⟨v, rfl, slI_of_own hv, hb2⟩

/-- A one-element row of ints. -/
theorem int1 {W : World} {g : Nat} {x : Int} (h : Blk W g 3 #[.int .i64 x]) (hx : isI64 x) : SlR 1 intR W (.slice (some ⟨g, 0, none⟩) 1 1) [x] :=
  slR_blk (l := [x]) (cs := [.int .i64 x]) h (CellsR.single rfl ⟨rfl, hx⟩) (by simp [maxLen])
theorem ints_nil (W : World) : SlR 1 intR W (.slice none 0 0) [] := SlR.nil _ _ (Nat.zero_le _)

end Go.Proofs.YtkgmonplcdnnbaaGreat
