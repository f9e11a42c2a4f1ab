/- What depends.pairs yields, in plain Lean. -/
import Derived.Test.YtejjggchjoifoaaDepKey
import Derived.Test.YtejjggchjoifoaaDepClos
namespace Go.Proofs.Ytejjggchjoifoaa
open Go.RowKit

abbrev Inst : Type := List Int

/-- api.Instance: three ints and the slice Values. -/
def instR (w : World) (cs : List Value) (x : Inst) : Prop :=
  ∃ a b c A n cp, cs = [.int .i64 a, .int .i64 b, .int .i64 c, .slice A n cp] ∧ SlR 1 intR w (.slice A n cp) x

theorem instR_mono : Mono instR := by
  rintro w w' hb cs x ⟨a, b, c, A, n, cp, h1, h2⟩
  exact ⟨a, b, c, A, n, cp, h1, h2.mono intR_mono hb⟩

theorem inst_at {w : World} {A : Option Addr} {n cap : Nat} {l : List Inst} (h : SlR 4 instR w (.slice A n cap) l) {k : Nat} (hk : k < n) :
    ∃ b off x i1 i2 i3 vA vn vc, A = some ⟨b, off, none⟩ ∧ b < w.heap.size ∧ l[k]? = some x ∧
      w.cell? ⟨b, off + k * 4, none⟩ = some (.int .i64 i1) ∧ w.cell? ⟨b, off + k * 4 + 1, none⟩ = some (.int .i64 i2) ∧ w.cell? ⟨b, off + k * 4 + 2, none⟩ = some (.int .i64 i3) ∧ w.cell? ⟨b, off + k * 4 + 3, none⟩ = some (.slice vA vn vc) ∧
      SlR 1 intR w (.slice vA vn vc) x := by
  obtain ⟨b, off, x, cs, e, hb, hl, hlen, hc, i1, i2, i3, vA, vn, vc, rfl, h2⟩ := h.at_ hk
  exact ⟨b, off, x, i1, i2, i3, vA, vn, vc, e, hb, hl, by simpa using hc 0 _ rfl, by simpa [Nat.add_assoc] using hc 1 _ rfl, by simpa [Nat.add_assoc] using hc 2 _ rfl, by simpa [Nat.add_assoc] using hc 3 _ rfl, h2⟩

def bd64 (x : Int) : Bool := decide (-9223372036854775808 ≤ x) && decide (x ≤ 9223372036854775807)

/-- The twelve cells of the array after the first q fields of From have been filled in. -/
def keyUpto (src : List Int) (x : Inst) (q : Nat) : List Int :=
  (List.range 12).map (fun i => if i < q then x.getD (src.getD i 0).toNat 0 else 0)

theorem keyUpto_len (src : List Int) (x : Inst) (q : Nat) : (keyUpto src x q).length = 12 := by simp [keyUpto]

theorem getD_bd {x : Inst} (hx : ∀ v ∈ x, -9223372036854775808 ≤ v ∧ v ≤ 9223372036854775807) (i : Nat) : -9223372036854775808 ≤ x.getD i 0 ∧ x.getD i 0 ≤ 9223372036854775807 := by
  rw [List.getD_eq_getElem?_getD]
  cases h : x[i]? with
  | none => simp
  | some v => exact hx v (List.mem_of_getElem? h)

/-- The bounds of an instance, laid on it: out of range it counts as nothing (no reading of memory is so). -/
def clampI (x : Inst) : Inst := if x.all bd64 then x else []
theorem clampI_ok {x : Inst} (hx : ∀ v ∈ x, -9223372036854775808 ≤ v ∧ v ≤ 9223372036854775807) : clampI x = x := by
  have : x.all bd64 = true := by
    rw [List.all_eq_true]
    intro v hv
    have := hx v hv
    simp [bd64, this]
  simp [clampI, this]
theorem clampI_bd (x : Inst) : ∀ v ∈ clampI x, -9223372036854775808 ≤ v ∧ v ≤ 9223372036854775807 := by
  intro v hv
  unfold clampI at hv
  split at hv
  · rename_i h
    have := List.all_eq_true.1 h v hv
    simpa [bd64] using this
  · simp at hv

def keyK (src : List Int) (x : Inst) : Key12 := ⟨keyUpto src (clampI x) src.length, keyUpto_len _ _ _, by
  intro v hv
  simp only [keyUpto, List.mem_map, List.mem_range] at hv
  obtain ⟨i, _, rfl⟩ := hv
  split
  · exact getD_bd (clampI_bd x) _
  · omega⟩

structure PS where
  first : List (Key12 × Int)
  done : List (Int × Bool)
  out : List (Int × Int)

def instAt (l : List Inst) (i : Nat) : Inst := l.getD i []

/-- One instance more. -/
def pstep (d : Dep) (l : List Inst) (s : PS) (b : Nat) : PS :=
  match getM s.first (keyK d.src (instAt l b)) with
  | none => { s with first := putM s.first (keyK d.src (instAt l b)) b }
  | some a =>
    if (getM s.done a).getD false || (instAt l a.toNat).getD d.dst.toNat 0 == (instAt l b).getD d.dst.toNat 0 then s
    else { s with done := putM s.done a true, out := s.out ++ [(a, (b : Int))] }

def pst (d : Dep) (l : List Inst) : Nat → PS
  | 0 => ⟨[], [], []⟩
  | n + 1 => pstep d l (pst d l n) n

def pairsL (d : Dep) (l : List Inst) : List (Int × Int) := (pst d l l.length).out

theorem pst_pre (d : Dep) (l : List Inst) (n m : Nat) (h : n ≤ m) : (pst d l n).out <+: (pst d l m).out := by
  induction m with
  | zero => rw [Nat.le_zero.1 h]; exact List.prefix_rfl
  | succ m ih =>
    rcases Nat.lt_or_ge m n with hlt | hge
    · have : n = m + 1 := by omega
      rw [this]; exact List.prefix_rfl
    · refine (ih hge).trans ?_
      show _ <+: (pstep d l (pst d l m) m).out
      unfold pstep
      split
      · exact List.prefix_rfl
      · split
        · exact List.prefix_rfl
        · exact List.prefix_append _ _
theorem pst_len (d : Dep) (l : List Inst) (n : Nat) : (pst d l n).out.length ≤ n := by
  induction n with
  | zero => exact Nat.le_refl 0
  | succ n ih =>
    show (pstep d l (pst d l n) n).out.length ≤ n + 1
    unfold pstep
    split
    · exact Nat.le_succ_of_le ih
    · split
      · exact Nat.le_succ_of_le ih
      · simp; omega
/-- What the first map holds are earlier indices. -/
theorem pst_first (d : Dep) (l : List Inst) (n : Nat) : ∀ k a, getM (pst d l n).first k = some a → 0 ≤ a ∧ a < n := by
  induction n with
  | zero => intro k a h; cases h
  | succ n ih =>
    intro k a h
    have h' : getM (pstep d l (pst d l n) n).first k = some a := h
    unfold pstep at h'
    split at h'
    · simp only [getM_put] at h'
      split at h'
      · simp only [Option.some.injEq] at h'; omega
      · have := ih k a h'; omega
    · split at h'
      · have := ih k a h'; omega
      · have := ih k a h'; omega

theorem pst_out (d : Dep) (l : List Inst) (n : Nat) : ∀ p ∈ (pst d l n).out, 0 ≤ p.1 ∧ p.1 < p.2 ∧ p.2 < n := by
  induction n with
  | zero => intro p h; cases h
  | succ n ih =>
    intro p h
    have h' : p ∈ (pstep d l (pst d l n) n).out := h
    unfold pstep at h'
    split at h'
    · have := ih p h'; omega
    · rename_i a ha
      split at h'
      · have := ih p h'; omega
      · simp only [List.mem_append, List.mem_singleton] at h'
        rcases h' with h' | rfl
        · have := ih p h'; omega
        · have := pst_first d l n _ a ha
          simp only
          omega

end Go.Proofs.Ytejjggchjoifoaa
