/- Plain: what numberRule computes; what its walk carries along. -/
import Derived.Test.YtkkkephjljiplaaNmTerm
namespace Go.Proofs.Ytkkkephjljiplaa
open Go.RowKit

def varsN (l : List QFrom) : Nat → SMap
  | 0 => []
  | k + 1 => match l[k]? with
    | some f => putM (varsN l k) f.name (k : Int)
    | none => varsN l k
def varsOf (l : List QFrom) : SMap := varsN l l.length
theorem varsN_app (l r : List QFrom) : ∀ k, k ≤ l.length → varsN (l ++ r) k = varsN l k
  | 0, _ => rfl
  | k + 1, h => by rw [varsN, varsN, varsN_app l r k (by omega), List.getElem?_append_left (by omega)]
theorem varsOf_snoc (l : List QFrom) (f : QFrom) : varsOf (l ++ [f]) = putM (varsOf l) f.name (l.length : Int) := by
  unfold varsOf
  rw [List.length_append]
  show varsN (l ++ [f]) (l.length + 1) = _
  rw [varsN, List.getElem?_append_right (Nat.le_refl _), Nat.sub_self, varsN_app l _ _ (Nat.le_refl _)]
  rfl
theorem varsN_get (l : List QFrom) : ∀ k x v, getM (varsN l k) x = some v → ∃ n : Nat, v = (n : Int) ∧ n < k ∧ ∃ f, l[n]? = some f ∧ f.name = x
  | 0, x, v, h => by simp [varsN, getM_nil] at h
  | k + 1, x, v, h => by
    rw [varsN] at h
    cases hk : l[k]? with
    | none =>
      rw [hk] at h
      obtain ⟨n, h1, h2, h3⟩ := varsN_get l k x v h
      exact ⟨n, h1, by omega, h3⟩
    | some f =>
      rw [hk] at h
      simp only [getM_put] at h
      split at h
      · rename_i e
        exact ⟨k, by simpa using h.symm, by omega, f, hk, e.symm⟩
      · obtain ⟨n, h1, h2, h3⟩ := varsN_get l k x v h
        exact ⟨n, h1, by omega, h3⟩

def fromStep (s : QSource) (out : List QFrom) (f : QFrom) : Option QFrom :=
  match idx (schemaNames s) f.kind with
  | none => none
  | some a => (termP s (varsOf out) out f.of_).map (fun t => { f with schema := (a : Int), of_ := t })
def atomStep (s : QSource) (fo : List QFrom) (a : QAtom) : Option QAtom :=
  match termP s (varsOf fo) fo a.a, termP s (varsOf fo) fo a.b with
  | some x, some y => some { a with a := x, b := y }
  | _, _ => none
def setStep (s : QSource) (xa : QSchema) (fo : List QFrom) (c : QSet) : Option QSet :=
  match idx (fieldNames xa) c.path, termP s (varsOf fo) fo c.term with
  | some n, some t => some { c with field := (n : Int), term := t }
  | _, _ => none
def ruleP (s : QSource) (r : QRule) : Option QRule :=
  match idx (schemaNames s) r.head with
  | none => none
  | some a => match allP (fromStep s) r.froms with
    | none => none
    | some fo => match allP (fun _ => atomStep s fo) r.where_ with
      | none => none
      | some wo => match s.schemas[a]? with
        | none => none
        | some xa => match allP (fun _ => setStep s xa fo) r.sets with
          | none => none
          | some so => some { r with schema := (a : Int), froms := fo, where_ := wo, sets := so }

/-- The schemas of the variables stand. -/
def FromOk (s : QSource) (l : List QFrom) : Prop := ∀ f ∈ l, ∃ (a : Nat) (x : QSchema), f.schema = (a : Int) ∧ s.schemas[a]? = some x

theorem termP_same {s : QSource} {vars : SMap} {fo : List QFrom} {t t' : QTerm} (h : termP s vars fo t = some t') : t' = { t with var := t'.var, field := t'.field } := by
  unfold termP at h
  split at h
  · injection h with h; subst h; rfl
  · split at h
    · cases h
    · split at h
      · cases h
      · split at h
        · cases h
        · simp only [Option.map_eq_some_iff] at h
          obtain ⟨n, _, rfl⟩ := h
          rfl

/-- What the closure's variables hold. -/
structure RB (w0 : World) (R G gi Rb Ub V vb : Nat) (wr : World) : Prop where
  gr : w0.grownBy wr (some G)
  rb : wr.cell? ⟨Rb, 0, none⟩ = some (.pointer (some ⟨R, 0, none⟩))
  ub : wr.cell? ⟨Ub, 0, none⟩ = some (.pointer (some ⟨G, gi, none⟩))
  vv : wr.cell? ⟨V, 0, none⟩ = some (.map (some vb))
section
variable {w0 : World} {R G gi Rb Ub V vb : Nat} {wr wr' : World}
theorem RB.far (h : RB w0 R G gi Rb Ub V vb wr) {K : Nat} (hg : wr.grownBy wr' (some K)) (h0 : w0.heap.size ≤ K) (h1 : Rb ≠ K) (h2 : Ub ≠ K) (h3 : V ≠ K) : RB w0 R G gi Rb Ub V vb wr' :=
  ⟨grown_mid h.gr hg h0, hg.cell h.rb (by simpa using h1), hg.cell h.ub (by simpa using h2), hg.cell h.vv (by simpa using h3)⟩
theorem RB.near (h : RB w0 R G gi Rb Ub V vb wr) (hg : wr.grownBy wr' (some G)) (h1 : Rb ≠ G) (h2 : Ub ≠ G) (h3 : V ≠ G) : RB w0 R G gi Rb Ub V vb wr' :=
  ⟨grown_trans h.gr hg, hg.cell h.rb (by simpa using h1), hg.cell h.ub (by simpa using h2), hg.cell h.vv (by simpa using h3)⟩
theorem RB.below (h : RB w0 R G gi Rb Ub V vb wr) (hb : Below wr.heap.size wr wr') : RB w0 R G gi Rb Ub V vb wr' := by
  have hg : wr.grownBy wr' none := grown_of_below hb _
  exact ⟨grown_trans h.gr (grown_of_below hb _), hg.cell h.rb (by simp), hg.cell h.ub (by simp), hg.cell h.vv (by simp)⟩
theorem RB.drew (h : RB w0 R G gi Rb Ub V vb wr) : RB w0 R G gi Rb Ub V vb wr.drew := ⟨grown_drew h.gr, h.rb, h.ub, h.vv⟩
end
theorem res_hide {lo M R G HT : Nat} {s : QSource} {w0 wr : World} (h : ResR (mask lo M w0) R s) (hg : w0.grownBy wr (some G)) (hlo : lo ≤ G) (hGM : G < M) (hHT : w0.heap.size ≤ HT) : ResR (mask HT (HT + 1) wr) R s := by
  have := h.below (mask_old (lo := HT) (M := HT + 1) (mask lo M w0) (mask_below hg hlo hGM) (by rw [mask_size]; exact hHT))
  rw [mask_comm] at this
  exact this.unm

theorem from_put2 {w : World} {cs : List Value} {l : List QFrom} {k : Nat} {u : QFrom} (h : CellsR 8 qFromR w cs l) (hk : l[k]? = some u) (a : Int) : CellsR 8 qFromR w (cs.set (k * 8 + 2) (.int .i64 a)) (l.set k { u with schema := a }) :=
  h.put (by omega) (List.getElem?_eq_some_iff.1 hk).1 (by
    have : chunk cs 8 k = _ := h.chunk hk
    rw [this]; rfl)
theorem from_putT {w : World} {cs : List Value} {l : List QFrom} {k : Nat} {u : QFrom} (h : CellsR 8 qFromR w cs l) (hk : l[k]? = some u) (t : QTerm) (ht : t = { u.of_ with var := t.var, field := t.field }) : CellsR 8 qFromR w ((cs.set (k * 8 + 3 + 2) (.int .i64 t.var)).set (k * 8 + 3 + 3) (.int .i64 t.field)) (l.set k { u with of_ := t }) := by
  have hkl := (List.getElem?_eq_some_iff.1 hk).1
  have h1 : CellsR 8 qFromR w (cs.set (k * 8 + 5) (.int .i64 t.var)) (l.set k { u with of_ := { u.of_ with var := t.var } }) := h.put (by omega) hkl (by
    have : chunk cs 8 k = _ := h.chunk hk
    rw [this]; rfl)
  have h2 := h1.put (i := k) (j := 6) (x' := { u with of_ := { u.of_ with var := t.var, field := t.field } }) (u := .int .i64 t.field) (by omega) (by simpa using hkl) (by
    have : chunk _ 8 k = _ := h1.chunk (i := k) (by rw [List.getElem?_set_self hkl])
    rw [this]; rfl)
  rw [List.set_set, ← ht] at h2
  exact h2
theorem atom_putA {w : World} {cs : List Value} {l : List QAtom} {k : Nat} {u : QAtom} (h : CellsR 11 qAtomR w cs l) (hk : l[k]? = some u) (t : QTerm) (ht : t = { u.a with var := t.var, field := t.field }) : CellsR 11 qAtomR w ((cs.set (k * 11 + 1 + 2) (.int .i64 t.var)).set (k * 11 + 1 + 3) (.int .i64 t.field)) (l.set k { u with a := t }) := by
  have hkl := (List.getElem?_eq_some_iff.1 hk).1
  have h1 : CellsR 11 qAtomR w (cs.set (k * 11 + 3) (.int .i64 t.var)) (l.set k { u with a := { u.a with var := t.var } }) := h.put (by omega) hkl (by
    have : chunk cs 11 k = _ := h.chunk hk
    rw [this]; rfl)
  have h2 := h1.put (i := k) (j := 4) (x' := { u with a := { u.a with var := t.var, field := t.field } }) (u := .int .i64 t.field) (by omega) (by simpa using hkl) (by
    have : chunk _ 11 k = _ := h1.chunk (i := k) (by rw [List.getElem?_set_self hkl])
    rw [this]; rfl)
  rw [List.set_set, ← ht] at h2
  exact h2
theorem atom_putB {w : World} {cs : List Value} {l : List QAtom} {k : Nat} {u : QAtom} (h : CellsR 11 qAtomR w cs l) (hk : l[k]? = some u) (t : QTerm) (ht : t = { u.b with var := t.var, field := t.field }) : CellsR 11 qAtomR w ((cs.set (k * 11 + 6 + 2) (.int .i64 t.var)).set (k * 11 + 6 + 3) (.int .i64 t.field)) (l.set k { u with b := t }) := by
  have hkl := (List.getElem?_eq_some_iff.1 hk).1
  have h1 : CellsR 11 qAtomR w (cs.set (k * 11 + 8) (.int .i64 t.var)) (l.set k { u with b := { u.b with var := t.var } }) := h.put (by omega) hkl (by
    have : chunk cs 11 k = _ := h.chunk hk
    rw [this]; rfl)
  have h2 := h1.put (i := k) (j := 9) (x' := { u with b := { u.b with var := t.var, field := t.field } }) (u := .int .i64 t.field) (by omega) (by simpa using hkl) (by
    have : chunk _ 11 k = _ := h1.chunk (i := k) (by rw [List.getElem?_set_self hkl])
    rw [this]; rfl)
  rw [List.set_set, ← ht] at h2
  exact h2
theorem set_put1 {w : World} {cs : List Value} {l : List QSet} {k : Nat} {u : QSet} (h : CellsR 7 qSetR w cs l) (hk : l[k]? = some u) (a : Int) : CellsR 7 qSetR w (cs.set (k * 7 + 1) (.int .i64 a)) (l.set k { u with field := a }) :=
  h.put (by omega) (List.getElem?_eq_some_iff.1 hk).1 (by
    have : chunk cs 7 k = _ := h.chunk hk
    rw [this]; rfl)
theorem set_putT {w : World} {cs : List Value} {l : List QSet} {k : Nat} {u : QSet} (h : CellsR 7 qSetR w cs l) (hk : l[k]? = some u) (t : QTerm) (ht : t = { u.term with var := t.var, field := t.field }) : CellsR 7 qSetR w ((cs.set (k * 7 + 2 + 2) (.int .i64 t.var)).set (k * 7 + 2 + 3) (.int .i64 t.field)) (l.set k { u with term := t }) := by
  have hkl := (List.getElem?_eq_some_iff.1 hk).1
  have h1 : CellsR 7 qSetR w (cs.set (k * 7 + 4) (.int .i64 t.var)) (l.set k { u with term := { u.term with var := t.var } }) := h.put (by omega) hkl (by
    have : chunk cs 7 k = _ := h.chunk hk
    rw [this]; rfl)
  have h2 := h1.put (i := k) (j := 5) (x' := { u with term := { u.term with var := t.var, field := t.field } }) (u := .int .i64 t.field) (by omega) (by simpa using hkl) (by
    have : chunk _ 7 k = _ := h1.chunk (i := k) (by rw [List.getElem?_set_self hkl])
    rw [this]; rfl)
  rw [List.set_set, ← ht] at h2
  exact h2

/-- A cell of an element of a row. -/
theorem chunk_get {cs : List Value} {sz k j : Nat} {c : List Value} {u : Value} (hc : chunk cs sz k = c) (hj : j < sz) (hu : c[j]? = some u) : cs[k * sz + j]? = some u := by
  rw [← chunk_at hj, hc, hu]

/-- The closure's look at the variables, where another row is written. -/
theorem froms_look {s : QSource} {w wx : World} {base : Nat} {vA : Option Addr} {vn vc : Nat} {cr : List Value} {fo : List QFrom} (ho : w.ownsRow base 61 8 (.slice vA vn vc) vn cr) (hc : CellsR 8 qFromR wx cr fo) (hl : fo.length = vn) (hp : FromOk s fo) :
    ∃ H, (fo ≠ [] → vA = some ⟨H, 0, none⟩ ∧ base ≤ H ∧ H < w.heap.size) ∧ ∀ (x : ByteArray) (v : Int), getM (varsOf fo) x = some v → ∃ (n a : Nat) (f : QFrom) (sc : QSchema), v = (n : Int) ∧ n < vn ∧ vn ≤ 9223372036854775807 ∧ fo[n]? = some f ∧ f.schema = (a : Int) ∧ s.schemas[a]? = some sc ∧ w.cell? ⟨H, n * 8 + 2, none⟩ = some (.int .i64 a) := by
  rcases own_row ho with ⟨h, h0⟩ | ⟨H, hcap, h, hH, hHw, hn2⟩
  · have : fo = [] := List.eq_nil_of_length_eq_zero (by omega)
    subst this
    exact ⟨0, fun e => absurd rfl e, fun x v hv => by simp [varsOf, varsN, getM_nil] at hv⟩
  · injection h with h1 h2 h3
    subst h1 h3
    refine ⟨H, fun _ => ⟨rfl, hH, hHw⟩, fun x v hv => ?_⟩
    obtain ⟨n, rfl, hn, f, hf, _⟩ := varsN_get fo _ x v hv
    obtain ⟨a, sc, ha, hs⟩ := hp f (List.mem_of_getElem? hf)
    refine ⟨n, a, f, sc, rfl, by omega, by omega, hf, ha, hs, ?_⟩
    have hch : chunk cr 8 n = _ := hc.chunk hf
    have := own_cell ho (show n < vn by omega) (by omega) hch (j := 2) rfl
    rw [ha] at this
    exact this

/-- The closure, where another row than that of the variables is written. -/
theorem number_far {w0 w wx : World} {R G gi Rb Ub V vb lo M bz base sz HT n cap ot : Nat} {vA : Option Addr} {vn vc : Nat} {T : TypeId} {cs cr : List Value} {s : QSource} {fo : List QFrom} {t : QTerm}
    (hrb : RB w0 R G gi Rb Ub V vb w) (hG2 : w.cell? ⟨G, gi + 2, none⟩ = some (.slice vA vn vc)) (hof : w.ownsRow bz 61 8 (.slice vA vn vc) vn cr) (hcf : CellsR 8 qFromR wx cr fo) (hl : fo.length = vn) (hok : FromOk s fo) (hm : MapAt strW i64W w vb (varsOf fo))
    (hres : ResR (mask lo M w0) R s) (hlo : lo ≤ G) (hGM : G < M) (hHT : w0.heap.size ≤ HT) (nV : V ≠ HT) (nR : Rb ≠ HT) (nU : Ub ≠ HT) (nG : G ≠ HT) (nF : ∀ r, (Value.slice vA vn vc).ownBlock = some r → r ≠ HT)
    (ho : w.ownsRow base T sz (.slice (some ⟨HT, 0, none⟩) n cap) n cs) (h0 : cs[ot]? = some (.string t.name)) (h1 : cs[ot + 1]? = some (.string t.path)) (h2 : cs[ot + 2]? = some (.int .i64 t.var)) (h3 : cs[ot + 3]? = some (.int .i64 t.field)) :
    Calls Try.prog 75 #[.pointer (some ⟨HT, ot, none⟩), .pointer (some ⟨V, 0, none⟩), .pointer (some ⟨Rb, 0, none⟩), .pointer (some ⟨Ub, 0, none⟩)] w (RetTerm base T sz HT n cap cs ot (termP s (varsOf fo) fo t) w) := by
  obtain ⟨H, hne, hlook⟩ := froms_look hof hcf hl hok
  refine number_any V Rb Ub vb R G gi H vn vc base sz HT n cap ot T cs s (varsOf fo) fo t w hrb.vv nV hrb.rb nR hrb.ub nU (fun e => by rw [hG2, (hne e).1]) nG hm (res_hide hres hrb.gr hlo hGM hHT) (fun v hv => ?_) ho h0 h1 h2 h3
  obtain ⟨n', a, f, sc, h1, h2, h3, h4, h5, h6, h7⟩ := hlook t.name v hv
  have hnn : fo ≠ [] := fun e => by rw [e] at h4; simp at h4
  exact ⟨n', a, f, sc, h1, h2, h3, h4, h5, h6, h7, .inl (nF H (by rw [(hne hnn).1]; rfl))⟩

end Go.Proofs.Ytkkkephjljiplaa
