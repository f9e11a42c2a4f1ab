/- The chapter's examples: the law's function sane returns true. -/
import Derived.Test.YtejjggchjoifoaaDepBroken
import Derived.Test.YtejjggchjoifoaaDepR3
import Derived.Deep.DeepCutAuto
import Derived.Test.YtejjggchjoifoaaRegion
namespace Go.Proofs.Ytejjggchjoifoaa
open Go.RowKit

theorem give_any (tv : Int) (B : Option Addr) (m c : Nat) (w : World) :
    Calls Try.prog 25 #[.int .i64 tv, .slice B m c] w fun e w' =>
      e = .returned (.agg #[.slice none 0 0, .string ⟨#[]⟩, .slice B m c, .int .i64 tv]) ∧ w.alloc (.cells #[.slice none 0 0, .string ⟨#[]⟩, .slice B m c, .int .i64 tv] 29) = w' := by
  go_enter Try.func25, Try.ntmps25
  go_wp2
  exact bodyPost_ret (v := .agg #[.slice none 0 0, .string ⟨#[]⟩, .slice B m c, .int .i64 tv]) (by simp [results, Try.results25, go_sem]) rfl ⟨rfl, rfl⟩

theorem ints_blk {W : World} {g : Nat} {t : TypeId} {l : List Int} (h : Blk W g t (l.map (Value.int .i64)).toArray) (hl : ∀ x ∈ l, -9223372036854775808 ≤ x ∧ x ≤ 9223372036854775807) (hm : l.length ≤ maxLen) : SlR 1 intR W (.slice (some ⟨g, 0, none⟩) l.length l.length) l := by
  refine ⟨some ⟨g, 0, none⟩, l.length, rfl, Nat.le_refl _, hm, fun i x hi => ⟨g, 0, [.int .i64 x], rfl, h.lt, rfl, ?_, rfl, hl x (List.mem_of_getElem? hi)⟩⟩
  intro j u hu
  rcases j with _ | j
  · simp only [List.getElem?_cons_zero, Option.some.injEq] at hu
    subst hu
    rw [h.cell]
    simp [hi]
  · simp at hu

def fieldZ : Value := .agg #[.string ⟨#[]⟩, .int .i64 0, .int .i64 0, .int .i64 0, .string ⟨#[]⟩, .int .i64 0, .slice none 0 0, .int .i64 0, .int .i64 0, .int .i64 0, .int .i64 0]
def fieldCells (n : Nat) : Array Value := madeCells fieldZ.cells (n * 11)
theorem Try.infoField : (Try.prog.info? 95).map (fun i => (i.zero, i.size, i.bytes)) = some (some fieldZ, 11, 120) := by kernel_rfl
theorem run_makeFields (n : Nat) (h : n ≤ 100) (W : World) : (Instr.makeSlice 22 (.int .i64 (n : Nat)) (.int .i64 (n : Nat))).run Try.prog W = .ok (.slice (some ⟨W.heap.size, 0, none⟩) n n) (W.alloc (.cells (fieldCells n) 95)) := by
  obtain ⟨j0, hj, hjz0, hjz1, hjz2⟩ := info_parts Try.infoField
  have := run_make (P := Try.prog) W 22 95 j0 fieldZ Try.underlying22 hj hjz0 .i64 .i64 n n (by omega) (by omega) (by rw [hjz2]; omega) (by omega)
  rw [hjz1] at this
  simp only [Int.toNat_natCast] at this
  exact this

/-- A schema in a box, with so many fields and these dependencies. -/
def SchW (W : World) (p nf : Nat) (ds : List Dep) : Prop :=
  ∃ fA fc dA dc, Blk W p 25 #[.string ⟨#[]⟩, .string ⟨#[]⟩, .int .i64 0, .int .i64 0, .slice fA nf fc, .slice dA ds.length dc] ∧ SlR 4 depR W (.slice dA ds.length dc) ds
theorem SchW.below {W W' : World} {p nf : Nat} {ds : List Dep} (h : SchW W p nf ds) (hb : Below W.heap.size W W') : SchW W' p nf ds := by
  obtain ⟨fA, fc, dA, dc, h1, h2⟩ := h
  exact ⟨fA, fc, dA, dc, h1.below hb h1.lt, h2.mono depR_mono hb⟩

theorem deps2_blk {W : World} {g : Nat} {a b c d : Value} {d0 d1 : Dep} {s0 s1 : ByteArray} {A0 A1 : Option Addr} {n0 c0 n1 c1 : Nat}
    (h : Blk W g 29 #[a, .string s0, .slice A0 n0 c0, b, c, .string s1, .slice A1 n1 c1, d]) (ha : a = .slice none 0 0) (hc : c = .slice none 0 0) (hb : b = .int .i64 d0.dst) (hd : d = .int .i64 d1.dst)
    (h0 : SlR 1 intR W (.slice A0 n0 c0) d0.src) (h1 : SlR 1 intR W (.slice A1 n1 c1) d1.src) (b0 : -9223372036854775808 ≤ d0.dst ∧ d0.dst ≤ 9223372036854775807) (b1 : -9223372036854775808 ≤ d1.dst ∧ d1.dst ≤ 9223372036854775807) :
    SlR 4 depR W (.slice (some ⟨g, 0, none⟩) 2 2) [d0, d1] := by
  subst ha hc hb hd
  refine ⟨some ⟨g, 0, none⟩, 2, rfl, Nat.le_refl _, by decide, fun i x hi => ?_⟩
  rcases i with _ | _ | i
  · simp only [List.getElem?_cons_zero, Option.some.injEq] at hi
    subst hi
    refine ⟨g, 0, _, rfl, h.lt, ?_, ?_, ⟨none, 0, 0, s0, A0, n0, c0, rfl, h0, b0⟩⟩
    · rfl
    · intro j u hu
      rw [h.cell]
      rcases j with _ | _ | _ | _ | j <;> simp at hu ⊢ <;> exact hu
  · simp only [List.getElem?_cons_succ, List.getElem?_cons_zero, Option.some.injEq] at hi
    subst hi
    refine ⟨g, 0, _, rfl, h.lt, ?_, ?_, ⟨none, 0, 0, s1, A1, n1, c1, rfl, h1, b1⟩⟩
    · rfl
    · intro j u hu
      rw [h.cell]
      rcases j with _ | _ | _ | _ | j <;> simp at hu ⊢ <;> exact hu
  · simp at hi

def sD : List Dep := [⟨[1], 2⟩, ⟨[2], 3⟩]

theorem Blk.ne_ {w : World} {g : Nat} {t : TypeId} {cs : Array Value} {g' : Nat} {t' : TypeId} {cs' : Array Value} (h : Blk w g t cs) (h' : Blk w g' t' cs') (hne : t ≠ t') : g ≠ g' := by
  rintro rfl
  have e : some (Obj.cells cs t (0, 0)) = some (Obj.cells cs' t' (0, 0)) := h.symm.trans h'
  injection e with e
  injection e with _ e2
  exact hne e2

theorem Blk.new1 (w : World) (o : Obj) (t : TypeId) (cs : Array Value) : Blk ((w.alloc o).alloc (.cells cs t)) (w.heap.size + 1) t cs := by
  have := Blk.new (w.alloc o) t cs
  rwa [World.size_alloc] at this

theorem two_below (W : World) (o1 o2 : Obj) : Below W.heap.size W ((W.drew.alloc o1).alloc o2) := ((Below.refl _ _).drew.alloc (by simp) _).alloc (by simp) _
theorem two_blk (W : World) (t : TypeId) (cs : Array Value) (o2 : Obj) : Blk ((W.drew.alloc (.cells cs t)).alloc o2) W.heap.size t cs := by
  have h := Blk.new W.drew t cs
  have h2 := h.below ((Below.refl _ _).alloc (Nat.le_refl _) o2) h.lt
  simpa using h2

theorem inst3_blk {W : World} {g : Nat} {A0 A2 : Option Addr} {n0 c0 n2 c2 : Nat} {l0 l2 : Inst}
    (h : Blk W g 49 #[.int .i64 0, .int .i64 0, .int .i64 0, .slice A0 n0 c0, .int .i64 0, .int .i64 0, .int .i64 0, .slice A0 n0 c0, .int .i64 0, .int .i64 0, .int .i64 0, .slice A2 n2 c2])
    (h0 : SlR 1 intR W (.slice A0 n0 c0) l0) (h2 : SlR 1 intR W (.slice A2 n2 c2) l2) :
    SlR 4 instR W (.slice (some ⟨g, 0, none⟩) 3 3) [l0, l0, l2] := by
  refine ⟨some ⟨g, 0, none⟩, 3, rfl, Nat.le_refl _, by decide, fun i x hi => ?_⟩
  rcases i with _ | _ | _ | i
  · simp only [List.getElem?_cons_zero, Option.some.injEq] at hi
    subst hi
    refine ⟨g, 0, _, rfl, h.lt, ?_, ?_, ⟨0, 0, 0, A0, n0, c0, rfl, h0⟩⟩
    · rfl
    · intro j u hu
      rw [h.cell]
      rcases j with _ | _ | _ | _ | j <;> simp at hu ⊢ <;> exact hu
  · simp only [List.getElem?_cons_succ, List.getElem?_cons_zero, Option.some.injEq] at hi
    subst hi
    refine ⟨g, 0, _, rfl, h.lt, ?_, ?_, ⟨0, 0, 0, A0, n0, c0, rfl, h0⟩⟩
    · rfl
    · intro j u hu
      rw [h.cell]
      rcases j with _ | _ | _ | _ | j <;> simp at hu ⊢ <;> exact hu
  · simp only [List.getElem?_cons_succ, List.getElem?_cons_zero, Option.some.injEq] at hi
    subst hi
    refine ⟨g, 0, _, rfl, h.lt, ?_, ?_, ⟨0, 0, 0, A2, n2, c2, rfl, h2⟩⟩
    · rfl
    · intro j u hu
      rw [h.cell]
      rcases j with _ | _ | _ | _ | j <;> simp at hu ⊢ <;> exact hu
  · simp at hi

theorem four_blk (W : World) (a b : Array Value) (c d : Array Value) :
    Blk ((((W.alloc (.cells a 3)).alloc (.cells b 3)).alloc (.cells c 49)).alloc (.cells d 49)) (W.heap.size + 1 + 1) 49 c ∧
    Blk ((((W.alloc (.cells a 3)).alloc (.cells b 3)).alloc (.cells c 49)).alloc (.cells d 49)) (W.heap.size + 1 + 1 + 1) 49 d ∧
    Blk ((((W.alloc (.cells a 3)).alloc (.cells b 3)).alloc (.cells c 49)).alloc (.cells d 49)) W.heap.size 3 a ∧
    Blk ((((W.alloc (.cells a 3)).alloc (.cells b 3)).alloc (.cells c 49)).alloc (.cells d 49)) (W.heap.size + 1) 3 b ∧
    Below W.heap.size W ((((W.alloc (.cells a 3)).alloc (.cells b 3)).alloc (.cells c 49)).alloc (.cells d 49)) := by
  refine ⟨?_, ?_, (((Blk.new _ _ _).alloc _).alloc _).alloc _, ((Blk.new1 _ _ _ _).alloc _).alloc _, ((((Below.refl _ _).alloc (by simp) _).alloc (by simp) _).alloc (by simp; omega) _).alloc (by simp; omega) _⟩
  · have h := Blk.new ((W.alloc (.cells a 3)).alloc (.cells b 3)) 49 c
    rw [World.size_alloc, World.size_alloc] at h
    exact h.alloc _
  · have h := Blk.new (((W.alloc (.cells a 3)).alloc (.cells b 3)).alloc (.cells c 49)) 49 d
    rw [World.size_alloc, World.size_alloc, World.size_alloc] at h
    exact h

/-- What sane has made: two schemas in boxes. -/
structure SnW (w : World) (p p2 : Nat) (fA : Option Addr) (fc : Nat) (dA : Option Addr) (dc : Nat) (gA : Option Addr) (gc : Nat) (eA : Option Addr) (ec : Nat) (W : World) : Prop where
  old : Below w.heap.size w W
  bs : Blk W p 25 #[.string ⟨#[]⟩, .string ⟨#[]⟩, .int .i64 0, .int .i64 0, .slice fA 4 fc, .slice dA 2 dc]
  ds : SlR 4 depR W (.slice dA 2 dc) sD
  bs2 : Blk W p2 25 #[.string ⟨#[]⟩, .string ⟨#[]⟩, .int .i64 0, .int .i64 0, .slice gA 3 gc, .slice eA 0 ec]
  ds2 : SlR 4 depR W (.slice eA 0 ec) []
theorem SnW.below {w : World} {p p2 : Nat} {fA : Option Addr} {fc : Nat} {dA : Option Addr} {dc : Nat} {gA : Option Addr} {gc : Nat} {eA : Option Addr} {ec : Nat} {W W' : World} (h : SnW w p p2 fA fc dA dc gA gc eA ec W) (hb : Below W.heap.size W W') : SnW w p p2 fA fc dA dc gA gc eA ec W' :=
  ⟨h.old.trans (hb.mono h.old.size), h.bs.below hb h.bs.lt, h.ds.mono depR_mono hb, h.bs2.below hb h.bs2.lt, h.ds2.mono depR_mono hb⟩

theorem SnW.six {w : World} {p p2 : Nat} {fA : Option Addr} {fc : Nat} {dA : Option Addr} {dc : Nat} {gA : Option Addr} {gc : Nat} {eA : Option Addr} {ec : Nat} {W : World} (h : SnW w p p2 fA fc dA dc gA gc eA ec W) :
    W.cell? ⟨p, 0, none⟩ = some (.string ⟨#[]⟩) ∧ W.cell? ⟨p, 1, none⟩ = some (.string ⟨#[]⟩) ∧ W.cell? ⟨p, 2, none⟩ = some (.int .i64 0) ∧ W.cell? ⟨p, 3, none⟩ = some (.int .i64 0) ∧ W.cell? ⟨p, 4, none⟩ = some (.slice fA 4 fc) ∧ W.cell? ⟨p, 5, none⟩ = some (.slice dA 2 dc) :=
  ⟨h.bs.cell 0, h.bs.cell 1, h.bs.cell 2, h.bs.cell 3, h.bs.cell 4, h.bs.cell 5⟩

theorem sane_c1 : closL 4 sD [1] = [1, 2, 3] ∧ closOk 4 sD [1] = true := by
  have h : closOk 4 sD [1] = true := by decide
  refine ⟨?_, h⟩
  rw [closL_yes h, ← clos_nf (nf := 4) (by omega) (checkB_ok (nf := 4) (ds := sD) (by decide)).2.2.2 (by decide)]
  decide
theorem sane_c2 : closL 3 [] [2, 0] = [0, 2] ∧ closOk 3 [] [2, 0] = true := by
  have h : closOk 3 [] [2, 0] = true := by decide
  refine ⟨?_, h⟩
  rw [closL_yes h, ← clos_nf (nf := 3) (by omega) (by simp) (by decide)]
  decide
theorem sane_i1 : (checkB 4 sD && validB 4 ⟨[1], 3⟩ && impB sD ⟨[1], 3⟩) = true ∧ (checkB 4 sD && validB 4 ⟨[1], 3⟩) = true := by
  have h : (checkB 4 sD && validB 4 ⟨[1], 3⟩) = true := by decide
  refine ⟨?_, h⟩
  rw [h]
  unfold impB
  rw [← clos_nf (nf := 4) (by omega) (checkB_ok (nf := 4) (ds := sD) (by decide)).2.2.2 (by decide)]
  decide
theorem sane_i2 : (checkB 4 sD && validB 4 ⟨[3], 1⟩ && impB sD ⟨[3], 1⟩) = false ∧ (checkB 4 sD && validB 4 ⟨[3], 1⟩) = true := by
  have h : (checkB 4 sD && validB 4 ⟨[3], 1⟩) = true := by decide
  refine ⟨?_, h⟩
  rw [h]
  unfold impB
  rw [← clos_nf (nf := 4) (by omega) (checkB_ok (nf := 4) (ds := sD) (by decide)).2.2.2 (by decide)]
  decide
theorem sane_i3 : (checkB 4 sD && validB 4 ⟨[], 0⟩) = false := by decide
theorem sane_b1 : brokenS 4 sD [[9, 5, 6, 7], [9, 5, 6, 7], [8, 4, 6, 1]] = ⟨0, 2, 1, true⟩ ∧ brokenOk 4 sD [[9, 5, 6, 7], [9, 5, 6, 7], [8, 4, 6, 1]] = true := by
  constructor
  · kernel_rfl
  · decide
theorem sane_b2 : brokenS 4 sD [] = ⟨0, 0, 0, false⟩ ∧ brokenOk 4 sD [] = true := by
  constructor
  · kernel_rfl
  · decide

/-- How far the first statement of sane is. -/
structure SaneI (w : World) (b0 b1 b2 b3 b4 b5 b6 b7 b8 : Bool) (x1 x25 x26 x27 x28 x29 x30 x31 : Value) (W : World) : Prop where
  old : Below w.heap.size w W
  a0 : b8 = false → b0 = true → ∃ g, x25 = .slice (some ⟨g, 0, none⟩) 4 4
  a1 : b8 = false → b1 = true → ∃ g, x26 = .slice (some ⟨g, 0, none⟩) 1 1 ∧ Blk W g 3 #[.int .i64 1]
  a2 : b8 = false → b2 = true → ∃ g, x27 = .agg #[.slice none 0 0, .string ⟨#[]⟩, .slice (some ⟨g, 0, none⟩) 1 1, .int .i64 2] ∧ Blk W g 3 #[.int .i64 1]
  a3 : b8 = false → b3 = true → ∃ g, x28 = .slice (some ⟨g, 0, none⟩) 1 1 ∧ Blk W g 3 #[.int .i64 2]
  a4 : b8 = false → b4 = true → ∃ g, x29 = .agg #[.slice none 0 0, .string ⟨#[]⟩, .slice (some ⟨g, 0, none⟩) 1 1, .int .i64 3] ∧ Blk W g 3 #[.int .i64 2]
  a5 : b8 = false → b5 = true → ∃ g g1 g3, x30 = .slice (some ⟨g, 0, none⟩) 2 2 ∧ Blk W g 29 #[.slice none 0 0, .string ⟨#[]⟩, .slice (some ⟨g1, 0, none⟩) 1 1, .int .i64 2, .slice none 0 0, .string ⟨#[]⟩, .slice (some ⟨g3, 0, none⟩) 1 1, .int .i64 3] ∧ Blk W g1 3 #[.int .i64 1] ∧ Blk W g3 3 #[.int .i64 2]
  a6 : b8 = false → b6 = true → ∃ g0 g g1 g3, x31 = .agg #[.string ⟨#[]⟩, .string ⟨#[]⟩, .int .i64 0, .int .i64 0, .slice (some ⟨g0, 0, none⟩) 4 4, .slice (some ⟨g, 0, none⟩) 2 2] ∧ Blk W g 29 #[.slice none 0 0, .string ⟨#[]⟩, .slice (some ⟨g1, 0, none⟩) 1 1, .int .i64 2, .slice none 0 0, .string ⟨#[]⟩, .slice (some ⟨g3, 0, none⟩) 1 1, .int .i64 3] ∧ Blk W g1 3 #[.int .i64 1] ∧ Blk W g3 3 #[.int .i64 2]
  a7 : b8 = false → b7 = true → ∃ g, x1 = .pointer (some ⟨g, 0, none⟩) ∧ w.heap.size ≤ g ∧ Blk W g 25 #[.string ⟨#[]⟩, .string ⟨#[]⟩, .int .i64 0, .int .i64 0, .slice none 0 0, .slice none 0 0]
  a8 : b8 = true → ∃ p, x1 = .pointer (some ⟨p, 0, none⟩) ∧ SchW W p 4 sD
  a9 : b8 = true → b0 = true ∧ b1 = true ∧ b2 = true ∧ b3 = true ∧ b4 = true ∧ b5 = true ∧ b6 = true ∧ b7 = true

theorem not8 {b c : Bool} (h : b = true → c = true) (hc : c = false) : b = false := by
  cases b
  · rfl
  · rw [hc] at h; exact absurd (h rfl) (by simp)

def SaneR (w : World) (L : Array Bool) (a : Act) (W : World) : Prop :=
  ∃ b0 b1 b2 b3 b4 b5 b6 b7 b8 x1 x25 x26 x27 x28 x29 x30 x31, L = #[b0, b1, b2, b3, b4, b5, b6, b7, b8] ∧ a = { tmps := #[.bool false, x1, undef, undef, undef, undef, undef, undef, undef, undef, undef, undef, undef, undef, undef, undef, undef, undef, undef, undef, undef, undef, undef, undef, undef, x25, x26, x27, x28, x29, x30, x31, undef, undef, undef, undef, undef, undef, undef, undef, undef, undef, undef, undef, undef, undef, undef, undef, undef, undef, undef, undef, undef, undef, undef, undef, undef, undef, undef, undef, undef, undef, undef, undef, undef, undef, undef, undef, undef, undef, undef, undef, undef, undef, undef, undef, undef, undef, undef, undef, undef, undef, undef, undef, undef, undef, undef, undef, undef, undef, undef, undef, undef, undef, undef, undef, undef, undef, undef, undef, undef, undef, undef, undef, undef, undef, undef, undef, undef, undef, undef, undef, undef, undef, undef, undef, undef, undef, undef, undef, undef, undef, undef, undef, undef, undef, undef, undef, undef, undef, undef, undef, undef, undef, undef, undef, undef, undef, undef, undef, undef, undef, undef, undef, undef, undef, undef, undef, undef, undef, undef, undef, undef, undef, undef, undef, undef, undef, undef, undef, undef, undef], defers := [] } ∧ SaneI w b0 b1 b2 b3 b4 b5 b6 b7 b8 x1 x25 x26 x27 x28 x29 x30 x31 W

theorem SaneI.grow {w : World} {b0 b1 b2 b3 b4 b5 b6 b7 b8 : Bool} {x1 x25 x26 x27 x28 x29 x30 x31 : Value} {W W' : World} (h : SaneI w b0 b1 b2 b3 b4 b5 b6 b7 b8 x1 x25 x26 x27 x28 x29 x30 x31 W) (hb : Below W.heap.size W W') : SaneI w b0 b1 b2 b3 b4 b5 b6 b7 b8 x1 x25 x26 x27 x28 x29 x30 x31 W' where
  old := h.old.trans (hb.mono h.old.size)
  a0 := h.a0
  a1 := fun e1 e2 => by obtain ⟨g, h1, h2⟩ := h.a1 e1 e2; exact ⟨g, h1, h2.below hb h2.lt⟩
  a2 := fun e1 e2 => by obtain ⟨g, h1, h2⟩ := h.a2 e1 e2; exact ⟨g, h1, h2.below hb h2.lt⟩
  a3 := fun e1 e2 => by obtain ⟨g, h1, h2⟩ := h.a3 e1 e2; exact ⟨g, h1, h2.below hb h2.lt⟩
  a4 := fun e1 e2 => by obtain ⟨g, h1, h2⟩ := h.a4 e1 e2; exact ⟨g, h1, h2.below hb h2.lt⟩
  a5 := fun e1 e2 => by obtain ⟨g, g1, g3, h1, h2, h3, h4⟩ := h.a5 e1 e2; exact ⟨g, g1, g3, h1, h2.below hb h2.lt, h3.below hb h3.lt, h4.below hb h4.lt⟩
  a6 := fun e1 e2 => by obtain ⟨g0, g, g1, g3, h1, h2, h3, h4⟩ := h.a6 e1 e2; exact ⟨g0, g, g1, g3, h1, h2.below hb h2.lt, h3.below hb h3.lt, h4.below hb h4.lt⟩
  a7 := fun e1 e2 => by obtain ⟨g, h1, h2, h3⟩ := h.a7 e1 e2; exact ⟨g, h1, h2, h3.below hb h3.lt⟩
  a8 := fun e1 => by obtain ⟨p, h1, h2⟩ := h.a8 e1; exact ⟨p, h1, h2.below hb⟩
  a9 := h.a9

set_option maxRecDepth 100000 in
set_option maxHeartbeats 4000000 in
theorem sane_any (w : World) : Calls Try.prog 10 #[] w (Ret (.bool true) w) := by
  have hm4 := fun W => run_makeFields 4 (by omega) W
  have hm3 := fun W => run_makeFields 3 (by omega) W
  simp only [Int.cast_ofNat_Int] at hm4 hm3
  go_enter Try.func10, Try.ntmps10
  go_upto_region 1 with fail
  go_cut [1] (fun x1 wx => ∃ p, x1 = .pointer (some ⟨p, 0, none⟩) ∧ SchW wx p 4 sD ∧ Below w.heap.size w wx)
  case first =>
    clear hm3
    refine wp_region_inv (by kernel_rfl) (SaneR w) ?start ?step ?done
    case start => exact ⟨false, false, false, false, false, false, false, false, false, undef, undef, undef, undef, undef, undef, undef, undef, rfl, rfl, ⟨(Below.refl _ _).drew, by simp, by simp, by simp, by simp, by simp, by simp, by simp, by simp, by simp, by simp⟩⟩
    case step =>
      rintro L a W i ⟨b0, b1, b2, b3, b4, b5, b6, b7, b8, x1, x25, x26, x27, x28, x29, x30, x31, rfl, rfl, hI⟩ hi
      unfold Region.ready at hi
      simp only [List.mem_filter, List.mem_range] at hi
      obtain ⟨hlt, hcond⟩ := hi
      have HI := Lib.hid hI
      clear hI
      rcases i with _ | _ | _ | _ | _ | _ | _ | _ | _ | i
      · simp [Region.binds] at hcond
        have c0 := hcond
        have h8 : b8 = false := not8 (fun e => (HI.out.a9 e).1) c0
        have H8 := Lib.hid h8
        clear hlt h8 c0 hcond
        refine wpOp_of rfl rfl ?_
        unfold Oper.wp
        go_simp
        exact ⟨true, b1, b2, b3, b4, b5, b6, b7, b8, x1, _, x26, x27, x28, x29, x30, x31, rfl, rfl, { HI.out.grow ((Below.refl _ _).alloc (Nat.le_refl _) _) with a0 := fun _ _ => ⟨_, rfl⟩, a9 := (fun e => absurd (e.symm.trans H8.out) (by simp)) }⟩
      · simp [Region.binds] at hcond
        have c0 := hcond
        have h8 : b8 = false := not8 (fun e => (HI.out.a9 e).2.1) c0
        have H8 := Lib.hid h8
        clear hlt h8 c0 hcond
        refine wpOp_of rfl rfl ?_
        unfold Oper.wp
        go_simp
        exact ⟨b0, true, b2, b3, b4, b5, b6, b7, b8, x1, x25, _, x27, x28, x29, x30, x31, rfl, rfl, { HI.out.grow ((Below.refl _ _).alloc (Nat.le_refl _) _) with a1 := fun _ _ => ⟨_, rfl, Blk.new _ _ _⟩, a9 := (fun e => absurd (e.symm.trans H8.out) (by simp)) }⟩
      · simp [Region.binds] at hcond
        obtain ⟨c0, c1⟩ := hcond
        have h8 : b8 = false := not8 (fun e => (HI.out.a9 e).2.2.1) c0
        obtain ⟨g, rfl, hg⟩ := HI.out.a1 h8 c1
        have H8 := Lib.hid h8
        clear hlt h8 c0 c1
        refine wpOp_of rfl rfl ?_
        unfold Oper.wp
        go_simp
        refine (give_any _ _ _ _ _).mono ?_
        rintro e w' ⟨rfl, rfl⟩
        go_simp
        exact ⟨b0, b1, true, b3, b4, b5, b6, b7, b8, x1, x25, _, _, x28, x29, x30, x31, rfl, rfl, { HI.out.grow ((Below.refl _ _).alloc (Nat.le_refl _) _) with a2 := fun _ _ => ⟨_, rfl, hg.alloc _⟩, a9 := (fun e => absurd (e.symm.trans H8.out) (by simp)) }⟩
      · simp [Region.binds] at hcond
        have c0 := hcond
        have h8 : b8 = false := not8 (fun e => (HI.out.a9 e).2.2.2.1) c0
        have H8 := Lib.hid h8
        clear hlt h8 c0 hcond
        refine wpOp_of rfl rfl ?_
        unfold Oper.wp
        go_simp
        exact ⟨b0, b1, b2, true, b4, b5, b6, b7, b8, x1, x25, x26, x27, _, x29, x30, x31, rfl, rfl, { HI.out.grow ((Below.refl _ _).alloc (Nat.le_refl _) _) with a3 := fun _ _ => ⟨_, rfl, Blk.new _ _ _⟩, a9 := (fun e => absurd (e.symm.trans H8.out) (by simp)) }⟩
      · simp [Region.binds] at hcond
        obtain ⟨c0, c1, c2⟩ := hcond
        have h8 : b8 = false := not8 (fun e => (HI.out.a9 e).2.2.2.2.1) c0
        obtain ⟨g, rfl, hg⟩ := HI.out.a3 h8 c1
        have H8 := Lib.hid h8
        clear hlt h8 c0 c1 c2
        refine wpOp_of rfl rfl ?_
        unfold Oper.wp
        go_simp
        refine (give_any _ _ _ _ _).mono ?_
        rintro e w' ⟨rfl, rfl⟩
        go_simp
        exact ⟨b0, b1, b2, b3, true, b5, b6, b7, b8, x1, x25, x26, x27, _, _, x30, x31, rfl, rfl, { HI.out.grow ((Below.refl _ _).alloc (Nat.le_refl _) _) with a4 := fun _ _ => ⟨_, rfl, hg.alloc _⟩, a9 := (fun e => absurd (e.symm.trans H8.out) (by simp)) }⟩
      · simp [Region.binds] at hcond
        obtain ⟨c0, c1, c2⟩ := hcond
        have h8 : b8 = false := not8 (fun e => (HI.out.a9 e).2.2.2.2.2.1) c0
        obtain ⟨g, rfl, hg⟩ := HI.out.a2 h8 c1
        obtain ⟨g', rfl, hg'⟩ := HI.out.a4 h8 c2
        have H8 := Lib.hid h8
        clear hlt h8 c0 c1 c2
        refine wpOp_of rfl rfl ?_
        unfold Oper.wp
        go_simp
        exact ⟨b0, b1, b2, b3, b4, true, b6, b7, b8, x1, x25, x26, _, x28, _, _, x31, rfl, rfl, { HI.out.grow ((Below.refl _ _).alloc (Nat.le_refl _) _) with a5 := fun _ _ => ⟨_, _, _, rfl, Blk.new _ _ _, hg.alloc _, hg'.alloc _⟩, a9 := (fun e => absurd (e.symm.trans H8.out) (by simp)) }⟩
      · simp [Region.binds] at hcond
        obtain ⟨c0, c1, c2⟩ := hcond
        have h8 : b8 = false := not8 (fun e => (HI.out.a9 e).2.2.2.2.2.2.1) c0
        obtain ⟨g0, rfl⟩ := HI.out.a0 h8 c1
        obtain ⟨g, g1, g3, rfl, q1, q2, q3⟩ := HI.out.a5 h8 c2
        have H8 := Lib.hid h8
        clear hlt h8 c0 c1 c2
        refine wpOp_of rfl rfl ?_
        unfold Oper.wp
        go_simp
        exact ⟨b0, b1, b2, b3, b4, b5, true, b7, b8, x1, _, x26, x27, x28, x29, _, _, rfl, rfl, { HI.out with a6 := fun _ _ => ⟨_, _, _, _, rfl, q1, q2, q3⟩, a9 := (fun e => absurd (e.symm.trans H8.out) (by simp)) }⟩
      · simp [Region.binds] at hcond
        have c0 := hcond
        have h8 : b8 = false := not8 (fun e => (HI.out.a9 e).2.2.2.2.2.2.2) c0
        have H8 := Lib.hid h8
        clear hlt h8 c0 hcond
        refine wpOp_of rfl rfl ?_
        unfold Oper.wp
        go_simp
        exact ⟨b0, b1, b2, b3, b4, b5, b6, true, b8, _, x25, x26, x27, x28, x29, x30, x31, rfl, rfl, { HI.out.grow ((Below.refl _ _).alloc (Nat.le_refl _) _) with a7 := fun _ _ => ⟨_, rfl, HI.out.old.size, Blk.new _ _ _⟩, a8 := (fun e => absurd (e.symm.trans H8.out) (by simp)), a9 := (fun e => absurd (e.symm.trans H8.out) (by simp)) }⟩
      · simp [Region.binds] at hcond
        obtain ⟨h8, c7, c6, d4, c0, c1, c2, c3, c4, c5, d6, d7⟩ := hcond
        obtain ⟨g7, rfl, hg7, hb7⟩ := HI.out.a7 h8 c7
        obtain ⟨g0, g, g1, g3, rfl, q1, q2, q3⟩ := HI.out.a6 h8 c6
        have k0 := hb7.cell 0
        have k1 := hb7.cell 1
        have k2 := hb7.cell 2
        have k3 := hb7.cell 3
        have k4 := hb7.cell 4
        have k5 := hb7.cell 5
        have f0 := hb7.frozen 0
        have f1 := hb7.frozen 1
        have f2 := hb7.frozen 2
        have f3 := hb7.frozen 3
        have f4 := hb7.frozen 4
        have f5 := hb7.frozen 5
        simp only [List.getElem?_toArray, List.getElem?_cons_zero, List.getElem?_cons_succ] at k0 k1 k2 k3 k4 k5
        have HC : Hid (b0 = true ∧ b1 = true ∧ b2 = true ∧ b3 = true ∧ b4 = true ∧ b5 = true ∧ b6 = true ∧ b7 = true) := ⟨c0, c1, c2, c3, c4, c5, c6, c7⟩
        have HB7 := Lib.hid hb7
        have HQ1 := Lib.hid q1
        have HQ2 := Lib.hid q2
        have HQ3 := Lib.hid q3
        clear hlt h8 c0 c1 c2 c3 c4 c5 c6 c7 d4 d6 d7 hb7 q1 q2 q3
        refine wpOp_of rfl rfl ?_
        unfold Oper.wp
        go_simp
        refine ⟨b0, b1, b2, b3, b4, b5, b6, b7, true, _, x25, x26, x27, x28, x29, x30, _, rfl, rfl, ?_⟩
        have n1 : g ≠ g7 := Blk.ne_ HQ1.out HB7.out (by decide)
        have n2 : g1 ≠ g7 := Blk.ne_ HQ2.out HB7.out (by decide)
        have n3 : g3 ≠ g7 := Blk.ne_ HQ3.out HB7.out (by decide)
        exact
          { old := (((((HI.out.old.setCell hg7 _).setCell hg7 _).setCell hg7 _).setCell hg7 _).setCell hg7 _).setCell hg7 _
            a0 := fun e => by cases e
            a1 := fun e => by cases e
            a2 := fun e => by cases e
            a3 := fun e => by cases e
            a4 := fun e => by cases e
            a5 := fun e => by cases e
            a6 := fun e => by cases e
            a7 := fun e => by cases e
            a8 := fun _ => ⟨g7, rfl, some ⟨g0, 0, none⟩, 4, some ⟨g, 0, none⟩, 2, (((((HB7.out.put 0 _).put 1 _).put 2 _).put 3 _).put 4 _).put 5 _,
              deps2_blk (d0 := ⟨[1], 2⟩) (d1 := ⟨[2], 3⟩) ((((((HQ1.out.far (p := ⟨g7, 0, none⟩) n1 _).far (p := ⟨g7, 1, none⟩) n1 _).far (p := ⟨g7, 2, none⟩) n1 _).far (p := ⟨g7, 3, none⟩) n1 _).far (p := ⟨g7, 4, none⟩) n1 _).far (p := ⟨g7, 5, none⟩) n1 _) rfl rfl rfl rfl
                (ints_blk (l := [1]) ((((((HQ2.out.far (p := ⟨g7, 0, none⟩) n2 _).far (p := ⟨g7, 1, none⟩) n2 _).far (p := ⟨g7, 2, none⟩) n2 _).far (p := ⟨g7, 3, none⟩) n2 _).far (p := ⟨g7, 4, none⟩) n2 _).far (p := ⟨g7, 5, none⟩) n2 _) (by simp) (by decide))
                (ints_blk (l := [2]) ((((((HQ3.out.far (p := ⟨g7, 0, none⟩) n3 _).far (p := ⟨g7, 1, none⟩) n3 _).far (p := ⟨g7, 2, none⟩) n3 _).far (p := ⟨g7, 3, none⟩) n3 _).far (p := ⟨g7, 4, none⟩) n3 _).far (p := ⟨g7, 5, none⟩) n3 _) (by simp) (by decide))
                (by simp) (by simp)⟩
            a9 := fun _ => HC.out }
      · exfalso
        simp at hlt
        omega
    case done =>
      rintro L a W ⟨b0, b1, b2, b3, b4, b5, b6, b7, b8, x1, x25, x26, x27, x28, x29, x30, x31, rfl, rfl, hI⟩ hr
      rw [Region.ready, List.filter_eq_nil_iff] at hr
      have h0 := hr 0 (by simp)
      have h1 := hr 1 (by simp)
      have h2 := hr 2 (by simp)
      have h3 := hr 3 (by simp)
      have h4 := hr 4 (by simp)
      have h5 := hr 5 (by simp)
      have h6 := hr 6 (by simp)
      have h7 := hr 7 (by simp)
      have h8 := hr 8 (by simp)
      clear hr
      simp [Region.binds] at h0 h1 h2 h3 h4 h5 h6 h7 h8
      have t8 : b8 = true := by
        subst h0 h1 h3 h7
        simp at h2
        subst h2
        simp at h4
        subst h4
        simp at h5
        subst h5
        simp at h6
        subst h6
        simpa using h8
      obtain ⟨p, rfl, hp⟩ := hI.a8 t8
      have hold := hI.old
      have HP := Lib.hid hp
      have HO := Lib.hid hold
      clear h0 h1 h2 h3 h4 h5 h6 h7 h8 t8 hI hp hold hm4
      go_wp2_with fail
      go_meet
      exact ⟨p, rfl, HP.out, HO.out⟩
  case rest =>
    obtain ⟨p, rfl, hsch, hbw⟩ := hcut
    clear hm4
    have hpl : p < wc.heap.size := by obtain ⟨_, _, _, _, h, _⟩ := hsch; exact h.lt
    have HSCH := Lib.hid hsch
    have HBW := Lib.hid hbw
    clear hsch hbw
    go_upto_region 2 with fail
    go_cut [2] (fun x2 wx => ∃ p2, x2 = .pointer (some ⟨p2, 0, none⟩) ∧ SchW wx p 4 sD ∧ SchW wx p2 3 [] ∧ Below w.heap.size w wx)
    case first =>
      go_wp2_with fail
      go_meet
      refine ⟨_, rfl, HSCH.out.below (((Below.refl _ _).alloc (Nat.le_refl _) _).alloc (by simp) _), ⟨_, 3, none, 0, Blk.new1 _ _ _ _, SlR.nil _ _ (Nat.zero_le _)⟩, (HBW.out.alloc HBW.out.size _).alloc (Nat.le_trans HBW.out.size (by simp)) _⟩
    case rest =>
      clear hm3 HSCH HBW hpl
      obtain ⟨p2, rfl, ⟨fA, fc, dA, dc, u1, u2⟩, ⟨gA, gc, eA, ec, u3, u4⟩, hbw⟩ := hcut
      obtain ⟨w2, rfl⟩ : ∃ w2 : World, w2 = wc := ⟨_, rfl⟩
      have H2 := Lib.hid (show SnW w p p2 fA fc dA dc gA gc eA ec w2 from ⟨hbw, u1, u2, u3, u4⟩)
      have q0 := u1.cell 0
      have q1 := u1.cell 1
      have q2 := u1.cell 2
      have q3 := u1.cell 3
      have q4 := u1.cell 4
      have q5 := u1.cell 5
      have hp := u1.lt
      simp only [List.getElem?_toArray, List.getElem?_cons_zero, List.getElem?_cons_succ] at q0 q1 q2 q3 q4 q5
      clear u1 u2 u3 u4 hbw
      go_upto_region 3 with fail
      go_cut [3, 4] (fun x3 x4 wx => x4 = .int .i64 0 ∧ SlR 1 intR wx x3 [1, 2, 3] ∧ Below w2.heap.size w2 wx)
      case first =>
        go_wp2_with fail
        have hb : Below w2.heap.size w2 (w2.alloc (.cells #[.int .i64 1] 3)) := (Below.refl _ _).alloc (Nat.le_refl _) _
        refine (Closure_any ⟨#[]⟩ ⟨#[]⟩ 0 0 fA dA 4 fc 2 dc sD (some ⟨w2.heap.size, 0, none⟩) 1 1 [1] _ (by omega) (H2.out.ds.mono depR_mono hb) (ints_blk (l := [1]) (Blk.new _ _ _) (by simp) (by decide))).mono ?_
        rintro e w3 ⟨v, rfl, hv, hb3⟩
        rw [sane_c1.1] at hv
        rw [sane_c1.2, show eno true = 0 from rfl]
        have HV := Lib.hid hv
        have HB := Lib.hid (hb.trans (hb3.mono (B' := w2.heap.size) (by simp)))
        clear hv hb hb3
        go_wp2_with fail
        go_meet
        exact ⟨rfl, HV.out, HB.out⟩
      case rest =>
        clear q0 q1 q2 q3 q4 q5 hp
        obtain ⟨rfl, hv3, hb3⟩ := hcut
        obtain ⟨w3, rfl⟩ : ∃ w3 : World, w3 = wc := ⟨_, rfl⟩
        have h3 := H2.out.below hb3
        have r0 := h3.bs2.cell 0
        have r1 := h3.bs2.cell 1
        have r2 := h3.bs2.cell 2
        have r3 := h3.bs2.cell 3
        have r4 := h3.bs2.cell 4
        have r5 := h3.bs2.cell 5
        have hp2 := h3.bs2.lt
        simp only [List.getElem?_toArray, List.getElem?_cons_zero, List.getElem?_cons_succ] at r0 r1 r2 r3 r4 r5
        have H3 := Lib.hid h3
        have HV3 := Lib.hid hv3
        clear hv3 hb3 h3 H2
        go_upto_region 4 with fail
        go_cut [5, 6] (fun x5 x6 wx => x6 = .int .i64 0 ∧ SlR 1 intR wx x5 [0, 2] ∧ Below w3.heap.size w3 wx)
        case first =>
          go_wp2_with fail
          have hb : Below w3.heap.size w3 (w3.alloc (.cells #[.int .i64 2, .int .i64 0] 3)) := (Below.refl _ _).alloc (Nat.le_refl _) _
          refine (Closure_any ⟨#[]⟩ ⟨#[]⟩ 0 0 gA eA 3 gc 0 ec [] (some ⟨w3.heap.size, 0, none⟩) 2 2 [2, 0] _ (by omega) (H3.out.ds2.mono depR_mono hb) (ints_blk (l := [2, 0]) (Blk.new _ _ _) (by simp) (by decide))).mono ?_
          rintro e w4 ⟨v, rfl, hv, hb3⟩
          rw [sane_c2.1] at hv
          rw [sane_c2.2, show eno true = 0 from rfl]
          have HV := Lib.hid hv
          have HB := Lib.hid (hb.trans (hb3.mono (B' := w3.heap.size) (by simp)))
          clear hv hb hb3
          go_wp2_with fail
          go_meet
          exact ⟨rfl, HV.out, HB.out⟩
        case rest =>
          clear r0 r1 r2 r3 r4 r5 hp2
          obtain ⟨rfl, hv5, hb4⟩ := hcut
          obtain ⟨w4, rfl⟩ : ∃ w4 : World, w4 = wc := ⟨_, rfl⟩
          have h4 := H3.out.below hb4
          have HV3' := Lib.hid (HV3.out.mono intR_mono hb4)
          have q0 := h4.bs.cell 0
          have q1 := h4.bs.cell 1
          have q2 := h4.bs.cell 2
          have q3 := h4.bs.cell 3
          have q4 := h4.bs.cell 4
          have q5 := h4.bs.cell 5
          have hp := h4.bs.lt
          simp only [List.getElem?_toArray, List.getElem?_cons_zero, List.getElem?_cons_succ] at q0 q1 q2 q3 q4 q5
          have H4 := Lib.hid h4
          have HV5 := Lib.hid hv5
          clear hv5 hb4 h4 H3 HV3
          go_upto_region 5 with fail
          go_cut [7, 8] (fun x7 x8 wx => x7 = .bool true ∧ x8 = .int .i64 0 ∧ Below w4.heap.size w4 wx)
          case first =>
            go_region_held3 (fun w' => w'.cell? ⟨p, 0, none⟩ = some (.string ⟨#[]⟩) ∧ w'.cell? ⟨p, 1, none⟩ = some (.string ⟨#[]⟩) ∧ w'.cell? ⟨p, 2, none⟩ = some (.int .i64 0) ∧ w'.cell? ⟨p, 3, none⟩ = some (.int .i64 0) ∧ w'.cell? ⟨p, 4, none⟩ = some (.slice fA 4 fc) ∧ w'.cell? ⟨p, 5, none⟩ = some (.slice dA 2 dc))
              (first | go_keep | exact (H4.out.below ((two_below _ _ _).trans (hb5.mono (by simp; omega)))).six)
              (first
                | (go_at_call 25; refine (give_any _ _ _ _ _).mono ?_; rintro e w' ⟨rfl, rfl⟩)
                | (go_at_call 14; refine (implied_any ⟨#[]⟩ ⟨#[]⟩ 0 0 fA dA 4 fc 2 dc sD none _ 0 0 1 1 ⟨#[]⟩ ⟨[1], 3⟩ _ (by omega) (H4.out.ds.mono depR_mono (two_below _ _ _)) (ints_blk (l := [1]) (two_blk _ _ _ _) (by simp) (by decide))).mono ?_; rintro e w5 ⟨rfl, hb5⟩; rw [sane_i1.1, sane_i1.2, show eno true = 0 from rfl]))
            have HB := Lib.hid ((two_below _ _ _).trans (hb5.mono (B' := w4.heap.size) (by simp; omega)))
            clear hb5
            go_wp2_with fail
            go_meet
            exact ⟨rfl, rfl, HB.out⟩
          case rest =>
            clear q0 q1 q2 q3 q4 q5 hp
            obtain ⟨rfl, rfl, hb⟩ := hcut
            obtain ⟨w5, rfl⟩ : ∃ w5 : World, w5 = wc := ⟨_, rfl⟩
            have h := H4.out.below hb
            replace HV3' := Lib.hid (HV3'.out.mono intR_mono hb)
            replace HV5 := Lib.hid (HV5.out.mono intR_mono hb)
            obtain ⟨q0, q1, q2, q3, q4, q5⟩ := h.six
            have hp := h.bs.lt
            have H5 := Lib.hid h
            clear hb h H4
            go_upto_region 6 with fail
            go_cut [9, 10] (fun x7 x8 wx => x7 = .bool false ∧ x8 = .int .i64 0 ∧ Below w5.heap.size w5 wx)
            case first =>
              go_region_held3 (fun w' => w'.cell? ⟨p, 0, none⟩ = some (.string ⟨#[]⟩) ∧ w'.cell? ⟨p, 1, none⟩ = some (.string ⟨#[]⟩) ∧ w'.cell? ⟨p, 2, none⟩ = some (.int .i64 0) ∧ w'.cell? ⟨p, 3, none⟩ = some (.int .i64 0) ∧ w'.cell? ⟨p, 4, none⟩ = some (.slice fA 4 fc) ∧ w'.cell? ⟨p, 5, none⟩ = some (.slice dA 2 dc))
                (first | go_keep | exact (H5.out.below ((two_below _ _ _).trans (hb5.mono (by simp; omega)))).six)
                (first
                  | (go_at_call 25; refine (give_any _ _ _ _ _).mono ?_; rintro e w' ⟨rfl, rfl⟩)
                  | (go_at_call 14; refine (implied_any ⟨#[]⟩ ⟨#[]⟩ 0 0 fA dA 4 fc 2 dc sD none _ 0 0 1 1 ⟨#[]⟩ ⟨[3], 1⟩ _ (by omega) (H5.out.ds.mono depR_mono (two_below _ _ _)) (ints_blk (l := [3]) (two_blk _ _ _ _) (by simp) (by decide))).mono ?_; rintro e w6 ⟨rfl, hb5⟩; rw [sane_i2.1, sane_i2.2, show eno true = 0 from rfl]))
              have HB := Lib.hid ((two_below _ _ _).trans (hb5.mono (B' := w5.heap.size) (by simp; omega)))
              clear hb5
              go_wp2_with fail
              go_meet
              exact ⟨rfl, rfl, HB.out⟩
            case rest =>
              clear q0 q1 q2 q3 q4 q5 hp
              obtain ⟨rfl, rfl, hb⟩ := hcut
              obtain ⟨w6, rfl⟩ : ∃ w6 : World, w6 = wc := ⟨_, rfl⟩
              have h := H5.out.below hb
              replace HV3' := Lib.hid (HV3'.out.mono intR_mono hb)
              replace HV5 := Lib.hid (HV5.out.mono intR_mono hb)
              obtain ⟨q0, q1, q2, q3, q4, q5⟩ := h.six
              have hp := h.bs.lt
              have H6 := Lib.hid h
              clear hb h H5
              go_upto_region 7 with fail
              go_cut [11, 12] (fun _x11 x12 wx => x12 = .int .i64 130 ∧ Below w6.heap.size w6 wx)
              case first =>
                go_wp2_with fail
                refine (implied_any ⟨#[]⟩ ⟨#[]⟩ 0 0 fA dA 4 fc 2 dc sD none none 0 0 0 0 ⟨#[]⟩ ⟨[], 0⟩ _ (by omega) H6.out.ds (SlR.nil _ _ (Nat.zero_le _))).mono ?_
                rintro e w7 ⟨rfl, hb5⟩
                rw [sane_i3, show eno false = 130 from rfl]
                have HB := Lib.hid hb5
                clear hb5
                go_wp2_with fail
                go_meet
                exact ⟨rfl, HB.out⟩
              case rest =>
                clear q0 q1 q2 q3 q4 q5 hp
                obtain ⟨rfl, hb⟩ := hcut
                obtain ⟨w7, rfl⟩ : ∃ w7 : World, w7 = wc := ⟨_, rfl⟩
                have h := H6.out.below hb
                replace HV3' := Lib.hid (HV3'.out.mono intR_mono hb)
                replace HV5 := Lib.hid (HV5.out.mono intR_mono hb)
                have H7 := Lib.hid h
                clear hb h H6
                go_upto_region 8 with fail
                go_cut [13, 14] (fun x13 x14 wx => ∃ g1 g2 ga gb, x13 = .pointer (some ⟨g1, 0, none⟩) ∧ x14 = .pointer (some ⟨g2, 0, none⟩) ∧ Blk wx g1 49 #[.int .i64 0, .int .i64 0, .int .i64 0, .slice (some ⟨ga, 0, none⟩) 4 4] ∧ Blk wx g2 49 #[.int .i64 0, .int .i64 0, .int .i64 0, .slice (some ⟨gb, 0, none⟩) 4 4] ∧ Blk wx ga 3 #[.int .i64 9, .int .i64 5, .int .i64 6, .int .i64 7] ∧ Blk wx gb 3 #[.int .i64 8, .int .i64 4, .int .i64 6, .int .i64 1] ∧ Below w7.heap.size w7 wx)
                case first =>
                  go_wp2_with fail
                  go_meet
                  obtain ⟨f1, f2, f3, f4, f5⟩ := four_blk w7 #[.int .i64 9, .int .i64 5, .int .i64 6, .int .i64 7] #[.int .i64 8, .int .i64 4, .int .i64 6, .int .i64 1] #[.int .i64 0, .int .i64 0, .int .i64 0, .slice (some ⟨w7.heap.size, 0, none⟩) 4 4] #[.int .i64 0, .int .i64 0, .int .i64 0, .slice (some ⟨w7.heap.size + 1, 0, none⟩) 4 4]
                  exact ⟨_, _, _, _, rfl, rfl, f1, f2, f3, f4, f5⟩
                case rest =>
                  obtain ⟨g1, g2, ga, gb, rfl, rfl, hg1, hg2, hga, hgb, hb⟩ := hcut
                  obtain ⟨w8, rfl⟩ : ∃ w8 : World, w8 = wc := ⟨_, rfl⟩
                  have h := H7.out.below hb
                  replace HV3' := Lib.hid (HV3'.out.mono intR_mono hb)
                  replace HV5 := Lib.hid (HV5.out.mono intR_mono hb)
                  obtain ⟨q0, q1, q2, q3, q4, q5⟩ := h.six
                  have hp := h.bs.lt
                  have c0 := hg1.cell 0
                  have c1 := hg1.cell 1
                  have c2 := hg1.cell 2
                  have c3 := hg1.cell 3
                  have d0 := hg2.cell 0
                  have d1 := hg2.cell 1
                  have d2 := hg2.cell 2
                  have d3 := hg2.cell 3
                  simp only [List.getElem?_toArray, List.getElem?_cons_zero, List.getElem?_cons_succ] at c0 c1 c2 c3 d0 d1 d2 d3
                  have l1 := hg1.lt
                  have l2 := hg2.lt
                  have H8 := Lib.hid h
                  have HGA := Lib.hid hga
                  have HGB := Lib.hid hgb
                  clear hb h H7 hg1 hg2 hga hgb
                  go_upto_region 9 with fail
                  go_cut [15, 16, 17, 18, 19] (fun x15 x16 x17 x18 x19 wx => x15 = .int .i64 0 ∧ x16 = .int .i64 2 ∧ x17 = .int .i64 1 ∧ x18 = .bool true ∧ x19 = .int .i64 0 ∧ Below w8.heap.size w8 wx)
                  case first =>
                    go_wp2_with fail
                    have hbn := (Below.refl w8.heap.size w8).alloc (Nat.le_refl _) (.cells #[.int .i64 0, .int .i64 0, .int .i64 0, .slice (some ⟨ga, 0, none⟩) 4 4, .int .i64 0, .int .i64 0, .int .i64 0, .slice (some ⟨ga, 0, none⟩) 4 4, .int .i64 0, .int .i64 0, .int .i64 0, .slice (some ⟨gb, 0, none⟩) 4 4] 49)
                    have i0 := ints_blk (l := [9, 5, 6, 7]) (HGA.out.below hbn HGA.out.lt) (by simp) (by decide)
                    have i1 := ints_blk (l := [8, 4, 6, 1]) (HGB.out.below hbn HGB.out.lt) (by simp) (by decide)
                    have i2 := inst3_blk (Blk.new w8 _ _) i0 i1
                    refine (Broken_any ⟨#[]⟩ ⟨#[]⟩ 0 0 fA dA 4 fc 2 dc sD (some ⟨w8.heap.size, 0, none⟩) 3 3 _ _ (by omega) (H8.out.ds.mono depR_mono hbn) i2).mono ?_
                    rintro e w9 ⟨rfl, hb9⟩
                    rw [sane_b1.1, sane_b1.2, show eno true = 0 from rfl]
                    have HB := Lib.hid (hbn.trans (hb9.mono (by simp)))
                    clear hb9 hbn i0 i1 i2
                    go_wp2_with fail
                    go_meet
                    exact ⟨rfl, rfl, rfl, rfl, rfl, HB.out⟩
                  case rest =>
                    clear c0 c1 c2 c3 d0 d1 d2 d3 l1 l2 q0 q1 q2 q3 q4 q5 hp HGA HGB
                    obtain ⟨rfl, rfl, rfl, rfl, rfl, hb⟩ := hcut
                    obtain ⟨w9, rfl⟩ : ∃ w9 : World, w9 = wc := ⟨_, rfl⟩
                    have h := H8.out.below hb
                    replace HV3' := Lib.hid (HV3'.out.mono intR_mono hb)
                    replace HV5 := Lib.hid (HV5.out.mono intR_mono hb)
                    obtain ⟨q0, q1, q2, q3, q4, q5⟩ := h.six
                    have hp := h.bs.lt
                    have H9 := Lib.hid h
                    clear hb h H8
                    go_wp2_with fail
                    refine (Broken_any ⟨#[]⟩ ⟨#[]⟩ 0 0 fA dA 4 fc 2 dc sD none 0 0 [] _ (by omega) H9.out.ds (SlR.nil _ _ (Nat.zero_le _))).mono ?_
                    rintro e w10 ⟨rfl, hb10⟩
                    rw [sane_b2.1, sane_b2.2, show eno true = 0 from rfl]
                    have h := H9.out.below hb10
                    replace HV3' := Lib.hid (HV3'.out.mono intR_mono hb10)
                    replace HV5 := Lib.hid (HV5.out.mono intR_mono hb10)
                    clear q0 q1 q2 q3 q4 q5 hp
                    obtain ⟨q0, q1, q2, q3, q4, q5⟩ := h.six
                    have hp := h.bs.lt
                    have H10 := Lib.hid h
                    clear hb10 h H9
                    go_wp2_with fail
                    obtain ⟨A3, c3, rfl, -⟩ := HV3'.out
                    obtain ⟨A5, c5, rfl, -⟩ := HV5.out
                    refine (same_any A3 (some ⟨w10.heap.size, 0, none⟩) 3 c3 3 3 [1, 2, 3] [1, 2, 3] _ (HV3'.out.mono intR_mono ((Below.refl _ _).alloc (Nat.le_refl _) _)) (ints_blk (l := [1, 2, 3]) (Blk.new _ _ _) (by simp) (by decide))).mono ?_
                    rintro e w11 ⟨rfl, k11, hk11⟩
                    rw [show decide (([1, 2, 3] : List Int) = [1, 2, 3]) = true from rfl]
                    have hb11 : Below w10.heap.size w10 w11 := by rw [hk11]; exact below_drewN ((Below.refl _ _).alloc (Nat.le_refl _) _) _
                    have h := H10.out.below hb11
                    replace HV5 := Lib.hid (HV5.out.mono intR_mono hb11)
                    clear q0 q1 q2 q3 q4 q5 hp HV3' hk11
                    have H11 := Lib.hid h
                    clear hb11 h H10
                    go_wp2_with fail
                    refine (same_any A5 (some ⟨w11.heap.size, 0, none⟩) 2 c5 2 2 [0, 2] [0, 2] _ (HV5.out.mono intR_mono ((Below.refl _ _).alloc (Nat.le_refl _) _)) (ints_blk (l := [0, 2]) (Blk.new _ _ _) (by simp) (by decide))).mono ?_
                    rintro e w12 ⟨rfl, k12, hk12⟩
                    rw [show decide (([0, 2] : List Int) = [0, 2]) = true from rfl]
                    have hb12 : Below w11.heap.size w11 w12 := by rw [hk12]; exact below_drewN ((Below.refl _ _).alloc (Nat.le_refl _) _) _
                    have h := H11.out.below hb12
                    clear HV5 hk12
                    have H12 := Lib.hid h
                    clear hb12 h H11
                    go_wp2_with fail
                    refine (check_any ⟨#[]⟩ ⟨#[]⟩ 0 0 none none 0 0 0 0 [] _ (by omega) (SlR.nil _ _ (Nat.zero_le _))).mono ?_
                    rintro e w13 ⟨rfl, hb13⟩
                    rw [show eno (checkB 0 []) = 130 from rfl]
                    have h := H12.out.below hb13
                    obtain ⟨q0, q1, q2, q3, q4, q5⟩ := h.six
                    have hp := h.bs.lt
                    have H13 := Lib.hid h
                    clear hb13 h H12
                    go_wp2_with fail
                    refine (check_any ⟨#[]⟩ ⟨#[]⟩ 0 0 fA dA 4 fc 2 dc sD _ (by omega) H13.out.ds).mono ?_
                    rintro e w14 ⟨rfl, hb14⟩
                    rw [show eno (checkB 4 sD) = 0 from by decide]
                    have HB := Lib.hid (H13.out.old.trans (hb14.mono H13.out.old.size))
                    clear hb14 q0 q1 q2 q3 q4 q5 hp
                    go_wp2
                    go_ret
                    exact ⟨rfl, HB.out⟩

end Go.Proofs.Ytejjggchjoifoaa
