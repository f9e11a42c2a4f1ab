/- Slices of data of several cells each: their cells as one list; rows of the call's own that read as lists; append of such a slice. For any program. -/
import Derived.WalkKit
import Derived.Lib.Hide
import Derived.Deep.Light
import Derived.Deep.Draws
import Derived.Deep.LoopGhost
import Derived.Maps.AppendAt
import Derived.OwnWalk
namespace Go.Proofs.YtkgmonplcdnnbaaGreat
open Go.RowKit
def SlR {α : Type} (sz : Nat) (R : World → List Value → α → Prop) (w : World) (v : Value) (l : List α) : Prop :=
 ∃ A cap, v = .slice A l.length cap ∧ l.length ≤ cap ∧ cap ≤ maxLen ∧
  ∀ i x, l[i]? = some x → ∃ b off cs, A = some ⟨b, off, none⟩ ∧ b < w.heap.size ∧ cs.length = sz ∧ (∀ j u, cs[j]? = some u → w.cell? ⟨b, off + (i * sz + j), none⟩ = some u) ∧ R w cs x
def Ret (v : Value) (w : World) (e : Ending) (w' : World) : Prop := e = .returned v ∧ Below w.heap.size w w'
def intR (_ : World) (cs : List Value) (x : Int) : Prop := cs = [.int .i64 x] ∧ -9223372036854775808 ≤ x ∧ x ≤ 9223372036854775807
def Mono {α : Type} (R : World → List Value → α → Prop) : Prop := ∀ (w w' : World), Below w.heap.size w w' → ∀ (cs : List Value) (x : α), R w cs x → R w' cs x
theorem intR_mono : Mono intR := fun _ _ _ _ _ h => h
theorem below_drewN {B : Nat} {a w : World} (h : Below B a w) (n : Nat) : Below B a (w.drewN n) := ⟨h.os, h.tape, h.output, h.size, h.block⟩
section
variable {α : Type} {sz : Nat} {R : World → List Value → α → Prop} {w w' : World} {l : List α}
theorem SlR.mono (hR : Mono R) (hb : Below w.heap.size w w') {v : Value} (h : SlR sz R w v l) : SlR sz R w' v l := by
 obtain ⟨A, cap, e, h1, h2, h3⟩ := h
 refine ⟨A, cap, e, h1, h2, fun i x hi => ?_⟩
 obtain ⟨b, off, cs, rfl, hlt, hl, hc, hr⟩ := h3 i x hi
 exact ⟨b, off, cs, rfl, Nat.lt_of_lt_of_le hlt hb.size, hl, fun j u hu => (hb.cell (p := ⟨b, _, none⟩) hlt).trans (hc j u hu), hR _ _ hb _ _ hr⟩
theorem SlR.at_ {A : Option Addr} {n cap : Nat} (h : SlR sz R w (.slice A n cap) l) {k : Nat} (hk : k < n) :
 ∃ b off x cs, A = some ⟨b, off, none⟩ ∧ b < w.heap.size ∧ l[k]? = some x ∧ cs.length = sz ∧ (∀ j u, cs[j]? = some u → w.cell? ⟨b, off + (k * sz + j), none⟩ = some u) ∧ R w cs x := by
 obtain ⟨A', cap', e, h1, h2, h3⟩ := h
 injection e with e1 e2 e3
 subst e1 e2 e3
 obtain ⟨b, off, cs, rfl, hb, hl, hc, hr⟩ := h3 k l[k] (List.getElem?_eq_getElem hk)
 exact ⟨b, off, l[k], cs, rfl, hb, List.getElem?_eq_getElem hk, hl, hc, hr⟩
theorem SlR.len {A : Option Addr} {n cap : Nat} (h : SlR sz R w (.slice A n cap) l) : n = l.length := by
 obtain ⟨A', cap', e, h1, h2, h3⟩ := h
 injection e
theorem SlR.le {A : Option Addr} {n cap : Nat} (h : SlR sz R w (.slice A n cap) l) : n ≤ cap ∧ cap ≤ 9223372036854775807 := by
 obtain ⟨A', cap', e, h1, h2, h3⟩ := h
 injection e with e1 e2 e3
 unfold maxLen at h2
 omega
theorem SlR.form {v : Value} (h : SlR sz R w v l) : ∃ A cap, v = .slice A l.length cap := by
 obtain ⟨A, cap, e, _⟩ := h
 exact ⟨A, cap, e⟩
theorem SlR.nil (A : Option Addr) (cap : Nat) (hc : cap ≤ maxLen) : SlR sz R w (.slice A 0 cap) [] :=
 ⟨A, cap, rfl, Nat.zero_le _, hc, fun i x h => by simp at h⟩
end
theorem ints_at {w : World} {A : Option Addr} {n cap : Nat} {l : List Int} (h : SlR 1 intR w (.slice A n cap) l) {k : Nat} (hk : k < n) :
 ∃ b off x, A = some ⟨b, off, none⟩ ∧ b < w.heap.size ∧ l[k]? = some x ∧ w.cell? ⟨b, off + k, none⟩ = some (.int .i64 x) ∧ -9223372036854775808 ≤ x ∧ x ≤ 9223372036854775807 := by
 obtain ⟨b, off, x, cs, e, hb, hl, hlen, hc, rfl, hx⟩ := h.at_ hk
 exact ⟨b, off, x, e, hb, hl, by simpa using hc 0 _ rfl, hx⟩
theorem drop_cons {α : Type} {l : List α} {k : Nat} {x : α} (h : l[k]? = some x) : l.drop k = x :: l.drop (k + 1) := by
 obtain ⟨hk, rfl⟩ := List.getElem?_eq_some_iff.1 h
 exact List.drop_eq_getElem_cons hk
theorem take_snoc {α : Type} {l : List α} {k : Nat} {x : α} (h : l[k]? = some x) : l.take (k + 1) = l.take k ++ [x] := by
 obtain ⟨hk, rfl⟩ := List.getElem?_eq_some_iff.1 h
 exact List.take_succ_eq_append_getElem hk
theorem ret_bool {a b : Bool} (h : a = b) : Ending.returned (.bool a) = .returned (.bool b) := by rw [h]
theorem ret_int {k : IntKind} {a b : Int} (h : a = b) : Ending.returned (.int k a) = .returned (.int k b) := by rw [h]
theorem bcell {W w1 : World} (hb : Below W.heap.size W w1) : (∀ b o, b < W.heap.size → w1.cell? ⟨b, o, none⟩ = W.cell? ⟨b, o, none⟩) ∧ (∀ b o, b < W.heap.size → w1.frozen? ⟨b, o, none⟩ = W.frozen? ⟨b, o, none⟩) :=
 ⟨fun b o h => hb.cell (p := ⟨b, o, none⟩) h, fun b o h => hb.frozen (p := ⟨b, o, none⟩) h⟩
def Blk (w : World) (g : Nat) (t : TypeId) (cs : Array Value) : Prop := w.heap[g]? = some (.cells cs t (0, 0))
section
variable {w w' : World} {g : Nat} {t : TypeId} {cs : Array Value}
theorem Blk.lt (h : Blk w g t cs) : g < w.heap.size := (Array.getElem?_eq_some_iff.1 h).1
theorem Blk.cell (h : Blk w g t cs) (i : Nat) : w.cell? ⟨g, i, none⟩ = cs[i]? := by
 have h' : w.heap[g]? = some (.cells cs t (0, 0)) := h
 simp [World.cell?, h']
theorem Blk.frozen (h : Blk w g t cs) (i : Nat) : w.frozen? ⟨g, i, none⟩ = false := by
 have h' : w.heap[g]? = some (.cells cs t (0, 0)) := h
 simp [World.frozen?, h']
theorem Blk.new (w : World) (t : TypeId) (cs : Array Value) : Blk (w.alloc (.cells cs t)) w.heap.size t cs := heap_alloc_new w _
theorem Blk.alloc (h : Blk w g t cs) (o : Obj) : Blk (w.alloc o) g t cs := (Below.heap_alloc w o g h.lt).trans h
theorem Blk.drew (h : Blk w g t cs) : Blk w.drew g t cs := h
theorem Blk.drewN (h : Blk w g t cs) (n : Nat) : Blk (w.drewN n) g t cs := h
theorem Blk.put (h : Blk w g t cs) (i : Nat) (u : Value) : Blk (w.setCell ⟨g, i, none⟩ u) g t (cs.setIfInBounds i u) := by
 have h' : w.heap[g]? = some (.cells cs t (0, 0)) := h
 show (w.setCell ⟨g, i, none⟩ u).heap[g]? = _
 simp [World.setCell, Array.getElem?_modify, h']
theorem Blk.far (h : Blk w g t cs) {p : Addr} (hp : g ≠ p.block) (u : Value) : Blk (w.setCell p u) g t cs := (Below.heap_setCell w p u g hp).trans h
theorem Blk.below {B : Nat} (h : Blk w g t cs) (hb : Below B w w') (hg : g < B) : Blk w' g t cs := (hb.block g hg).trans h
theorem Blk.grown {row : Option Nat} (h : Blk w g t cs) (hb : w.grownBy w' row) (hg : some g ≠ row) : Blk w' g t cs := (hb.block g h.lt hg).trans h
end
theorem grown_alloc {a w : World} {row : Option Nat} (h : a.grownBy w row) (o : Obj) : a.grownBy (w.alloc o) row :=
 ⟨h.os, h.tape, h.output, Nat.le_trans h.size (by simp), fun i hi hne => (Below.heap_alloc w o i (Nat.lt_of_lt_of_le hi h.size)).trans (h.block i hi hne)⟩
theorem grown_drewN {a w : World} {row : Option Nat} (h : a.grownBy w row) (n : Nat) : a.grownBy (w.drewN n) row := ⟨h.os, h.tape, h.output, h.size, h.block⟩
theorem grown_drew {a w : World} {row : Option Nat} (h : a.grownBy w row) : a.grownBy w.drew row := ⟨h.os, h.tape, h.output, h.size, h.block⟩
theorem grown_put {a w : World} {g : Nat} (h : a.grownBy w (some g)) (i : Nat) (u : Value) : a.grownBy (w.setCell ⟨g, i, none⟩ u) (some g) :=
 ⟨h.os, h.tape, h.output, by simpa [World.setCell] using h.size, fun k hk hne => (Below.heap_setCell w _ u k (fun e => hne (by rw [e]))).trans (h.block k hk hne)⟩
def CellsR {α : Type} (sz : Nat) (R : World → List Value → α → Prop) (w : World) (cs : List Value) (l : List α) : Prop :=
 cs.length = l.length * sz ∧ ∀ i x, l[i]? = some x → R w ((cs.drop (i * sz)).take sz) x
section
variable {α : Type} {sz : Nat} {R : World → List Value → α → Prop} {w w' : World} {l : List α}
theorem CellsR.mono (hR : Mono R) (hb : Below w.heap.size w w') {cs : List Value} (h : CellsR sz R w cs l) : CellsR sz R w' cs l :=
 ⟨h.1, fun i x hi => hR _ _ hb _ _ (h.2 i x hi)⟩
theorem CellsR.nil : CellsR sz R w [] ([] : List α) := ⟨by simp, fun i x h => by simp at h⟩
theorem CellsR.one {cs : List Value} {x : α} (hl : cs.length = sz) (h : R w cs x) : CellsR sz R w cs [x] := by
 refine ⟨by simp [hl], fun i y hi => ?_⟩
 rcases i with _ | i
 ·
  simp only [List.getElem?_cons_zero, Option.some.injEq] at hi
  subst hi
  rw [Nat.zero_mul, List.drop_zero, List.take_of_length_le (by omega)]
  exact h
 · simp at hi
theorem CellsR.append {cs cs' : List Value} {l' : List α} (h : CellsR sz R w cs l) (h' : CellsR sz R w cs' l') : CellsR sz R w (cs ++ cs') (l ++ l') := by
 refine ⟨by rw [List.length_append, List.length_append, h.1, h'.1, Nat.add_mul], fun i x hi => ?_⟩
 rcases Nat.lt_or_ge i l.length with hlt | hge
 ·
  rw [List.getElem?_append_left hlt] at hi
  have hle : i * sz + sz ≤ cs.length := by rw [h.1, ← Nat.succ_mul]; exact Nat.mul_le_mul_right _ hlt
  rw [List.drop_append_of_le_length (by omega), List.take_append_of_le_length (by rw [List.length_drop]; omega)]
  exact h.2 i x hi
 ·
  rw [List.getElem?_append_right hge] at hi
  have e : i * sz = cs.length + (i - l.length) * sz := by
   rw [h.1, ← Nat.add_mul]; congr 1; omega
  rw [e, List.drop_append, List.drop_of_length_le (by omega), List.nil_append, show cs.length + (i - l.length) * sz - cs.length = (i - l.length) * sz by omega]
  exact h'.2 _ x hi
theorem SlR.cells {A : Option Addr} {n c : Nat} (h : SlR sz R w (.slice A n c) l) : ∃ cs, CellsR sz R w cs l ∧ ∀ ad, A = some ad → ∀ j u, cs[j]? = some u → w.cell? (ad.add j) = some u := by
 rcases A with _ | ad
 ·
  have hl : l = [] := by
   cases l with
   | nil => rfl
   |
    cons x r =>
    obtain ⟨A', cap', e, h1, h2, h3⟩ := h
    obtain ⟨b, off, cs, e', _⟩ := h3 0 x rfl
    injection e with e1
    rw [← e1] at e'
    cases e'
  subst hl
  exact ⟨[], CellsR.nil, fun ad e => by cases e⟩
 ·
  have hn := h.len
  rcases Nat.eq_zero_or_pos n with h0 | h0
  ·
   have hl : l = [] := List.eq_nil_of_length_eq_zero (by omega)
   subst hl
   exact ⟨[], CellsR.nil, fun ad e j u hu => by simp at hu⟩
  ·
   obtain ⟨b, off, x0, cs0, e, _⟩ := h.at_ h0
   injection e with e
   subst e
   have hadd : ∀ j, (Addr.mk b off none).add j = ⟨b, off + j, none⟩ := fun j => by unfold Addr.add; split <;> simp_all
   have hcell : ∀ i (hi : i < n) k, k < sz → ∃ u, w.cell? ⟨b, off + (i * sz + k), none⟩ = some u := by
    intro i hi k hk
    obtain ⟨b', off', x, cs, e, _, _, hl, hc, _⟩ := h.at_ hi
    injection e with e
    injection e with e1 e2 _
    subst e1 e2
    exact ⟨cs[k], hc k _ (List.getElem?_eq_getElem (by omega))⟩
   refine ⟨(List.range (n * sz)).map (fun j => (w.cell? ⟨b, off + j, none⟩).getD undef), ⟨by simp [hn], ?_⟩, ?_⟩
   ·
    intro i x hi
    have hin : i < n := by have := (List.getElem?_eq_some_iff.1 hi).1; omega
    obtain ⟨b', off', x', cs, e, _, hx', hl, hc, hR⟩ := h.at_ hin
    injection e with e
    injection e with e1 e2 _
    subst e1 e2
    rw [hi] at hx'
    injection hx' with hx'
    subst hx'
    have he : (((List.range (n * sz)).map (fun j => (w.cell? ⟨b, off + j, none⟩).getD undef)).drop (i * sz)).take sz = cs := by
     have hle : i * sz + sz ≤ n * sz := by rw [← Nat.succ_mul]; exact Nat.mul_le_mul_right _ hin
     apply List.ext_getElem?
     intro k
     rcases Nat.lt_or_ge k sz with hk | hk
     ·
      rw [List.getElem?_take_of_lt hk, List.getElem?_drop, List.getElem?_map, List.getElem?_range (by omega), Option.map_some, hc k cs[k] (List.getElem?_eq_getElem (by omega)), List.getElem?_eq_getElem (by omega)]
      rfl
     · rw [List.getElem?_eq_none (by rw [List.length_take]; omega), List.getElem?_eq_none (by omega)]
    rw [he]
    exact hR
   ·
    intro ad e j u hu
    injection e with e
    subst e
    rw [List.getElem?_map] at hu
    rw [hadd]
    rcases Nat.lt_or_ge j (n * sz) with hj | hj
    ·
     rw [List.getElem?_range hj, Option.map_some, Option.some.injEq] at hu
     have hsz : 0 < sz := by
      rcases Nat.eq_zero_or_pos sz with e | e
      · subst e; omega
      · exact e
     obtain ⟨v, hv⟩ := hcell (j / sz) (by rw [Nat.div_lt_iff_lt_mul hsz]; exact hj) (j % sz) (Nat.mod_lt _ hsz)
     have e : j / sz * sz + j % sz = j := by rw [Nat.mul_comm]; exact Nat.div_add_mod j sz
     rw [e] at hv
     rw [hv] at hu ⊢
     exact congrArg some hu
    ·
     rw [List.getElem?_eq_none (by simpa using hj)] at hu
     cases hu
theorem slR_of_row {base : Nat} {e : TypeId} {v : Value} {n : Nat} {cs : List Value} (h : w.ownsRow base e sz v n cs) (hc : CellsR sz R w cs l) (hn : n = l.length) : SlR sz R w v l := by
 rcases h.2 with ⟨rfl, h0⟩ | ⟨g, cap, cur, rfl, hg, hh, hnc, hcm, hsz, htk⟩
 ·
  have hl0 : l = [] := List.eq_nil_of_length_eq_zero (by omega)
  subst hl0
  exact SlR.nil _ _ (Nat.zero_le _)
 ·
  subst hn
  refine ⟨some ⟨g, 0, none⟩, cap, rfl, hnc, hcm, fun i x hi => ⟨g, 0, (cs.drop (i * sz)).take sz, rfl, (Array.getElem?_eq_some_iff.1 hh).1, ?_, ?_, hc.2 i x hi⟩⟩
  ·
   have hil := (List.getElem?_eq_some_iff.1 hi).1
   have hle : i * sz + sz ≤ cs.length := by rw [hc.1, ← Nat.succ_mul]; exact Nat.mul_le_mul_right _ hil
   rw [List.length_take, List.length_drop]; omega
  ·
   intro j u hu
   rcases Nat.lt_or_ge j sz with hj | hj
   ·
    rw [List.getElem?_take_of_lt hj, List.getElem?_drop] at hu
    rw [← htk] at hu
    have hlt : i * sz + j < l.length * sz := by
     have hil := (List.getElem?_eq_some_iff.1 hi).1
     have : i * sz + sz ≤ l.length * sz := by rw [← Nat.succ_mul]; exact Nat.mul_le_mul_right _ hil
     omega
    rw [List.getElem?_take_of_lt hlt] at hu
    simp only [World.cell?, hh, Nat.zero_add]
    simpa using hu
   ·
    rw [List.getElem?_eq_none (by rw [List.length_take]; omega)] at hu
    cases hu
end
theorem SlR.fix {α : Type} {sz : Nat} {R : World → List Value → α → Prop} {w w' : World} {l : List α} {v : Value} (h : SlR sz R w v l) (hb : Below w.heap.size w w') : SlR sz (fun _ => R w) w' v l := by
 obtain ⟨A, cap, e, h1, h2, h3⟩ := h
 refine ⟨A, cap, e, h1, h2, fun i x hi => ?_⟩
 obtain ⟨b, off, cs, rfl, hlt, hl, hc, hr⟩ := h3 i x hi
 exact ⟨b, off, cs, rfl, Nat.lt_of_lt_of_le hlt hb.size, hl, fun j u hu => (hb.cell (p := ⟨b, _, none⟩) hlt).trans (hc j u hu), hr⟩
def One {α : Type} (R : World → List Value → α → Prop) : Prop := ∀ w cs x, R w cs x → ∀ u ∈ cs, u.oneCell' = true
theorem CellsR.ones {α : Type} {sz : Nat} {R : World → List Value → α → Prop} {w : World} {l : List α} (ho : One R) {cs : List Value} (h : CellsR sz R w cs l) : ∀ u ∈ cs, u.oneCell' = true := by
 intro u hu
 obtain ⟨j, hj, rfl⟩ := List.getElem_of_mem hu
 have hl := h.1
 have hsz : 0 < sz := by
  rcases Nat.eq_zero_or_pos sz with e | e
  · subst e; omega
  · exact e
 have hi : j / sz < l.length := by rw [Nat.div_lt_iff_lt_mul hsz, ← hl]; exact hj
 refine ho _ _ _ (h.2 (j / sz) _ (List.getElem?_eq_getElem hi)) _ (List.mem_of_getElem? (i := j % sz) ?_)
 rw [List.getElem?_take_of_lt (Nat.mod_lt _ hsz), List.getElem?_drop, show j / sz * sz + j % sz = j by rw [Nat.mul_comm]; exact Nat.div_add_mod j sz, List.getElem?_eq_getElem hj]
section
variable {P : Program} {α : Type} {sz : Nat} {R : World → List Value → α → Prop}
theorem run_append_row (w : World) (t ty e : TypeId) (i : TypeInfo) (z : Value) (bytes : Nat) (ht : P.underlying t = some (.slice e)) (hi : P.info? e = some i) (hz : i.zero = some z) (hsize : i.size = sz) (hby : i.bytes = bytes) (hzs : z.cells.size = sz) (hsz : 0 < sz) (ho : One R)
 (base : Nat) (v : Value) (n : Nat) (xs : List Value) (hown : w.ownsRow base e sz v n xs) (A : Option Addr) (m c : Nat) (l : List α) (hr : SlR sz R w (.slice A m c) l)
 (hn : n + m ≤ maxLen) (hb : (n + m) * bytes ≤ 140737488355328) (hbase : base ≤ w.heap.size) :
 ∃ v' w' cs, (Builtin.append_ #[t, t] ty #[v, .slice A m c]).run P w = .ok v' w' ∧ CellsR sz R w cs l ∧ w'.ownsRow base e sz v' (n + m) (xs ++ cs) ∧ w.grownBy w' v.ownBlock ∧ (v'.ownBlock = v.ownBlock ∨ v'.ownBlock = some w.heap.size) := by
 obtain ⟨cs, hcs, hcell⟩ := hr.cells
 have hlen := hr.len
 rcases A with _ | ad
 ·
  have hm : m = 0 := by
   rcases Nat.eq_zero_or_pos m with h0 | h0
   · exact h0
   ·
    obtain ⟨b, off, x, cs, e, _⟩ := hr.at_ h0
    cases e
  subst hm
  have hl : l = [] := List.eq_nil_of_length_eq_zero (by omega)
  subst hl
  have hcs0 : cs = [] := List.eq_nil_of_length_eq_zero (by rw [hcs.1]; simp)
  subst hcs0
  refine ⟨v, w, [], ?_, hcs, by simpa using hown, World.grownBy.refl w _, .inl rfl⟩
  rcases hown.2 with ⟨rfl, rfl⟩ | ⟨g, cap, cur, rfl, _, _, hnc, _⟩
  · simp [Builtin.append_, run_underlying ht, sizeOf, typeInfo, hi, Builtin.lenOf, Builtin.firstCells]
  · simp [Builtin.append_, run_underlying ht, sizeOf, typeInfo, hi, Builtin.lenOf, Builtin.firstCells, hnc, storeCells]
 ·
  obtain ⟨v', w', h1, h2, h3, _, h5⟩ := run_append_own_at (P := P) w base t ty e i z sz bytes ht hi hz hsize hby hzs hsz v n xs hown ad m c cs (by rw [hcs.1, ← hlen]) (hcell ad rfl) (hcs.ones ho) hn hb hbase
  exact ⟨v', w', cs, h1, hcs, h2, h3, h5⟩
theorem wp_append_row (w : World) {o : Oper} {a : Act} {K : Act → World → Prop} {Q : Exit → Act → World → Prop} (s x : Operand) (t e : TypeId)
 (hop : o.op = .call { callee := .builtin .append, args := #[s, x], argTypes := #[t, t] }) (i : TypeInfo) (z : Value) (bytes : Nat) (ht : P.underlying t = some (.slice e)) (hi : P.info? e = some i) (hz : i.zero = some z) (hsize : i.size = sz) (hby : i.bytes = bytes) (hzs : z.cells.size = sz) (hsz : 0 < sz) (ho : One R)
 (base : Nat) (v : Value) (n : Nat) (xs : List Value) (hs : a.eval s = v) (hown : w.ownsRow base e sz v n xs) (A : Option Addr) (m c : Nat) (l : List α) (hx : a.eval x = .slice A m c) (hr : SlR sz R w (.slice A m c) l)
 (hn : n + m ≤ maxLen) (hb : (n + m) * bytes ≤ 140737488355328) (hbase : base ≤ w.heap.size)
 (h : ∀ v' w' cs, CellsR sz R w cs l → w'.ownsRow base e sz v' (n + m) (xs ++ cs) → w.grownBy w' v.ownBlock → (v'.ownBlock = v.ownBlock ∨ v'.ownBlock = some w.heap.size) → K (a.put o.dst v') w') : o.wp P a w K Q := by
 obtain ⟨v', w', cs, hrun, h2, h3, h4, h5⟩ := run_append_row w t o.type e i z bytes ht hi hz hsize hby hzs hsz ho base v n xs hown A m c l hr hn hb hbase
 unfold Oper.wp execOp
 simp only [hop, resolve, invoke, builtin, Sem.run_bind, Sem.run_pure, Result.andThen_ok, List.map_toArray, List.map_cons, List.map_nil, hs, hx, hrun]
 exact h v' w' cs h2 h3 h4 h5
end
theorem wpList_append_row {P : Program} {α : Type} {sz : Nat} {R : World → List Value → α → Prop} (w : World) {ops : Array Oper} {rest : List Oper} {o : Oper} {a : Act} {Q : Exit → Act → World → Prop} (hgd : o.guard = none) (s x : Operand) (t e : TypeId)
 (hop : o.op = .call { callee := .builtin .append, args := #[s, x], argTypes := #[t, t] }) (i : TypeInfo) (z : Value) (bytes : Nat) (ht : P.underlying t = some (.slice e)) (hi : P.info? e = some i) (hz : i.zero = some z) (hsize : i.size = sz) (hby : i.bytes = bytes) (hzs : z.cells.size = sz) (hsz : 0 < sz) (ho : One R)
 (base : Nat) (v : Value) (n : Nat) (xs : List Value) (hs : a.eval s = v) (hown : w.ownsRow base e sz v n xs) (A : Option Addr) (m c : Nat) (l : List α) (hx : a.eval x = .slice A m c) (hr : SlR sz R w (.slice A m c) l)
 (hn : n + m ≤ maxLen) (hb : (n + m) * bytes ≤ 140737488355328) (hbase : base ≤ w.heap.size)
 (h : ∀ v' w' cs, CellsR sz R w cs l → w'.ownsRow base e sz v' (n + m) (xs ++ cs) → w.grownBy w' v.ownBlock → (v'.ownBlock = v.ownBlock ∨ v'.ownBlock = some w.heap.size) → wpList P ops Q rest (a.put o.dst v') w') : wpList P ops Q (o :: rest) a w :=
 wpList_plain hgd fun _ hK => wp_append_row w s x t e hop i z bytes ht hi hz hsize hby hzs hsz ho base v n xs hs hown A m c l hx hr hn hb hbase fun v' w' cs h2 h3 h4 h5 => hK _ _ (h v' w' cs h2 h3 h4 h5)
end Go.Proofs.YtkgmonplcdnnbaaGreat
