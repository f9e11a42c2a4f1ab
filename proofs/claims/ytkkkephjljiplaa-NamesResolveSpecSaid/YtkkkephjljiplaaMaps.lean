/- A map that reads as a list of pairs: look-up and store as equations on the operation's run, whatever the key's type. Plain lemmas, no program. -/
import Derived.Test.YtkkkephjljiplaaWords
import Derived.MapKept
namespace Go.Proofs.Ytkkkephjljiplaa
open Go.RowKit
open Go.MapKept (run_checkKey heap_set heap_alloc IsKey)

structure KeyEq (P : Program) (kt : TypeId) {κ : Type} (ek : κ → Value) : Prop where
  eq : ∀ (a b : κ) (w : World), ∃ r : Bool, (Op.equal kt (ek a) (ek b)).run P w = .ok r w ∧ (r = true ↔ a = b)
  ck : ∀ (e : Bool) (a : κ) (w : World), (Instr.checkKey e 10000 kt (ek a)).run P w = .ok () w
  sb : ∀ a : κ, Instr.sameBits 10000 (ek a) (ek a) = true
  un : ∃ d, P.underlying kt = some d ∧ ∀ (a b : κ) (r : Bool), Instr.sameNow d (ek a) (ek b) = some r → (r = true ↔ a = b)

section
variable {κ ν : Type} [DecidableEq κ]

def lookM : List (κ × ν) → κ → Nat → Option (Nat × ν)
  | [], _, _ => none
  | p :: m, k, i => if k = p.1 then some (i, p.2) else lookM m k (i + 1)
def getM (m : List (κ × ν)) (k : κ) : Option ν := (lookM m k 0).map (·.2)
def putM : List (κ × ν) → κ → ν → List (κ × ν)
  | [], k, v => [(k, v)]
  | p :: m, k, v => if k = p.1 then (k, v) :: m else p :: putM m k v

theorem lookM_snd (m : List (κ × ν)) (k : κ) (i j : Nat) : (lookM m k i).map (·.2) = (lookM m k j).map (·.2) := by
  induction m generalizing i j with
  | nil => rfl
  | cons p m ih =>
    unfold lookM
    split
    · rfl
    · exact ih _ _
theorem getM_nil (k : κ) : getM ([] : List (κ × ν)) k = none := rfl
theorem getM_cons (p : κ × ν) (m : List (κ × ν)) (k : κ) : getM (p :: m) k = if k = p.1 then some p.2 else getM m k := by
  simp only [getM]
  rw [lookM]
  split
  · rfl
  · exact lookM_snd m k _ _
theorem getM_put (m : List (κ × ν)) (k k' : κ) (v : ν) : getM (putM m k v) k' = if k' = k then some v else getM m k' := by
  induction m with
  | nil => simp only [putM, getM_cons, getM_nil]
  | cons p m ih =>
    unfold putM
    split
    · rename_i h
      subst h
      simp only [getM_cons]
      split <;> rfl
    · rename_i h
      simp only [getM_cons, ih]
      split
      · rename_i h2
        subst h2
        rw [if_neg (fun e => h e.symm)]
      · rfl

def MapAt (ek : κ → Value) (ev : ν → Value) (w : World) (b : Nat) (m : List (κ × ν)) : Prop :=
  ∃ es clock, w.heap[b]? = some (.map es clock) ∧ es.toList.map (fun e => (e.key, e.val)) = m.map (fun p => (ek p.1, ev p.2))

variable {ek : κ → Value} {ev : ν → Value} {P : Program} {kt et t : TypeId} {w w' : World} {b : Nat} {m : List (κ × ν)}

omit [DecidableEq κ] in
theorem MapAt.lt (h : MapAt ek ev w b m) : b < w.heap.size := by
  obtain ⟨es, clock, h, _⟩ := h
  exact (Array.getElem?_eq_some_iff.1 h).1
omit [DecidableEq κ] in
theorem MapAt.same (h : MapAt ek ev w b m) (hb : w'.heap[b]? = w.heap[b]?) : MapAt ek ev w' b m := by
  obtain ⟨es, clock, h, h2⟩ := h
  exact ⟨es, clock, hb.trans h, h2⟩
omit [DecidableEq κ] in
theorem MapAt.grown {row : Option Nat} (h : MapAt ek ev w b m) (hg : w.grownBy w' row) (hne : some b ≠ row) : MapAt ek ev w' b m :=
  h.same (hg.block b h.lt hne)
omit [DecidableEq κ] in
theorem MapAt.isMap (h : MapAt ek ev w b m) : ∃ es clock, w.heap[b]? = some (.map es clock) := by
  obtain ⟨es, clock, h, _⟩ := h
  exact ⟨es, clock, h⟩
omit [DecidableEq κ] in
theorem MapAt.new (ek : κ → Value) (ev : ν → Value) (w : World) : MapAt ek ev (w.alloc (.map #[] 0)) w.heap.size [] :=
  ⟨#[], 0, (heap_alloc w _).1, rfl⟩

theorem findNow_m (K : KeyEq P kt ek) {d : TypeDesc} (hd : P.underlying kt = some d) (k : κ) : ∀ (l : List MapEntry) (m : List (κ × ν)) (i : Nat), l.map (fun e => (e.key, e.val)) = m.map (fun p => (ek p.1, ev p.2)) →
    Instr.findNow d (ek k) l i = none ∨ Instr.findNow d (ek k) l i = some ((lookM m k i).map (fun q => (q.1, ev q.2))) := by
  intro l
  induction l with
  | nil =>
    intro m i h
    cases m with
    | nil => exact .inr rfl
    | cons p m => simp at h
  | cons e l ih =>
    intro m i h
    cases m with
    | nil => simp at h
    | cons p m =>
      simp only [List.map_cons, List.cons.injEq, Prod.mk.injEq] at h
      obtain ⟨⟨h1, h2⟩, h3⟩ := h
      obtain ⟨d', hd', hun⟩ := K.un
      obtain rfl : d' = d := by rw [hd] at hd'; exact (Option.some.inj hd').symm
      unfold Instr.findNow lookM
      rw [h1]
      cases hs : Instr.sameNow d' (ek k) (ek p.1) with
      | none => exact .inl rfl
      | some r =>
        have hr := hun _ _ _ hs
        cases r with
        | true =>
          right
          rw [if_pos (hr.1 rfl)]
          simp [h2]
        | false =>
          rw [if_neg (fun e => by have := hr.2 e; cases this)]
          exact ih m (i + 1) h3

theorem findAsking_m (K : KeyEq P kt ek) (k : κ) (w : World) : ∀ (l : List MapEntry) (m : List (κ × ν)) (i : Nat), l.map (fun e => (e.key, e.val)) = m.map (fun p => (ek p.1, ev p.2)) →
    (Instr.findAsking kt (ek k) l i).run P w = .ok ((lookM m k i).map (fun q => (q.1, ev q.2))) w := by
  intro l
  induction l with
  | nil =>
    intro m i h
    cases m with
    | nil => rfl
    | cons p m => simp at h
  | cons e l ih =>
    intro m i h
    cases m with
    | nil => simp at h
    | cons p m =>
      simp only [List.map_cons, List.cons.injEq, Prod.mk.injEq] at h
      obtain ⟨⟨h1, h2⟩, h3⟩ := h
      obtain ⟨r, hr, hiff⟩ := K.eq k p.1 w
      unfold Instr.findAsking lookM
      simp only [Sem.run_bind, h1, hr, Result.andThen_ok]
      cases r with
      | true => rw [if_pos (hiff.1 rfl)]; simp [h2]
      | false =>
        have hk : ¬ k = p.1 := fun e => by have := hiff.2 e; cases this
        rw [if_neg hk]
        simpa using ih m (i + 1) h3

theorem findKey_m (K : KeyEq P kt ek) (k : κ) (w : World) (l : List MapEntry) (m : List (κ × ν)) (h : l.map (fun e => (e.key, e.val)) = m.map (fun p => (ek p.1, ev p.2))) :
    (Instr.findKey kt (ek k) l).run P w = .ok ((lookM m k 0).map (fun q => (q.1, ev q.2))) w := by
  obtain ⟨d, hd, hun⟩ := K.un
  unfold Instr.findKey
  simp only [Sem.run_bind, run_underlying hd, Result.andThen_ok]
  rcases findNow_m (ev := ev) K hd k l m 0 h with h1 | h1
  · rw [h1]; exact findAsking_m K k w l m 0 h
  · rw [h1]; rfl

/-- The look-up: the element, or the zero value; with ok, whether it is there. -/
theorem run_lookup_m (K : KeyEq P kt ek) (ht : P.underlying t = some (.map kt et)) {z : Value} (hz : (zeroValue et).run P w = .ok z w) (h : MapAt ek ev w b m) (k : κ) (c : Bool) :
    (Instr.lookup t (.map (some b)) (ek k) c).run P w = .ok (if c then .tuple #[((getM m k).map ev).getD z, .bool (getM m k).isSome] else ((getM m k).map ev).getD z) w := by
  obtain ⟨es, clock, hb, hes⟩ := h
  unfold Instr.lookup getM
  simp only [Sem.run_bind, run_underlying ht, Result.andThen_ok, MapKept.run_getObj_map hb, Sem.run_pure, K.ck, findKey_m (ev := ev) K k w _ m hes]
  cases lookM m k 0 with
  | none => simp [hz]
  | some q => simp

theorem lookM_modify (ek : κ → Value) (ev : ν → Value) (k : κ) (v : ν) : ∀ (l : List MapEntry) (m : List (κ × ν)) (i j : Nat) (x : ν), l.map (fun e => (e.key, e.val)) = m.map (fun p => (ek p.1, ev p.2)) → lookM m k i = some (j, x) →
    i ≤ j ∧ (∃ e, l[j - i]? = some e ∧ e.key = ek k) ∧ (l.modify (j - i) (fun e => { e with key := ek k, val := ev v })).map (fun e => (e.key, e.val)) = (putM m k v).map (fun p => (ek p.1, ev p.2)) := by
  intro l
  induction l with
  | nil =>
    intro m i j x h
    cases m with
    | nil => intro h2; simp [lookM] at h2
    | cons p m => simp at h
  | cons e l ih =>
    intro m i j x h
    cases m with
    | nil => simp at h
    | cons p m =>
      simp only [List.map_cons, List.cons.injEq, Prod.mk.injEq] at h
      obtain ⟨⟨h1, h2⟩, h3⟩ := h
      unfold lookM putM
      split
      · rename_i hk
        intro hs
        simp only [Option.some.injEq, Prod.mk.injEq] at hs
        obtain ⟨rfl, rfl⟩ := hs
        refine ⟨Nat.le_refl _, ⟨e, by simp, by rw [h1, hk]⟩, ?_⟩
        simp [h3]
      · rename_i hk
        intro hs
        obtain ⟨a1, ⟨e', a2, a3⟩, a4⟩ := ih m (i + 1) j x h3 hs
        have hj : j - i = (j - (i + 1)) + 1 := by omega
        refine ⟨by omega, ⟨e', by rw [hj]; simpa using a2, a3⟩, ?_⟩
        rw [hj, List.modify_succ_cons]
        simp [h1, h2, a4]

omit [DecidableEq κ] in
theorem putM_none [DecidableEq κ] (k : κ) (v : ν) : ∀ (m : List (κ × ν)) (i : Nat), lookM m k i = none → putM m k v = m ++ [(k, v)] := by
  intro m
  induction m with
  | nil => intro i _; rfl
  | cons p m ih =>
    intro i h
    unfold lookM at h
    unfold putM
    split at h
    · cases h
    · rename_i hk
      rw [if_neg hk, ih _ h]; rfl

/-- The store. -/
theorem run_update_m (K : KeyEq P kt ek) (ht : P.underlying t = some (.map kt et)) (h : MapAt ek ev w b m) (k : κ) (v : ν) :
    ∃ w', (Instr.mapUpdate t (.map (some b)) (ek k) (ev v)).run P w = .ok () w' ∧ MapAt ek ev w' b (putM m k v) ∧ w.grownBy w' (some b) := by
  have hlt := h.lt
  obtain ⟨es, clock, hb, hes⟩ := h
  have hgrow : ∀ o : Obj, w.grownBy { w with heap := w.heap.setIfInBounds b o } (some b) := fun o =>
    ⟨rfl, rfl, rfl, by simp, fun i _ hne => (heap_set hb).2 i (fun e => hne (by rw [e]))⟩
  unfold Instr.mapUpdate
  simp only [Sem.run_bind, run_underlying ht, Result.andThen_ok, MapKept.run_getObj_map hb, K.ck, findKey_m (ev := ev) K k w _ m hes]
  cases hl : lookM m k 0 with
  | none =>
    refine ⟨_, MapKept.run_setObj_map _ hb, ⟨_, _, (heap_set hb).1, ?_⟩, hgrow _⟩
    rw [putM_none k v m 0 hl]
    simp [hes]
  | some q =>
    obtain ⟨j, x⟩ := q
    obtain ⟨_, ⟨e, he, hek⟩, h3⟩ := lookM_modify ek ev k v es.toList m 0 j x hes hl
    simp only [Nat.sub_zero] at he h3
    have he' : es[j]? = some e := by simpa using he
    simp only [Option.map_some, he', Option.getD_some, hek]
    unfold Instr.keyThatStays
    rw [K.sb, if_pos rfl]
    simp only [Sem.run_bind, Sem.run_pure, Result.andThen_ok]
    refine ⟨_, MapKept.run_setObj_map _ hb, ⟨_, _, (heap_set hb).1, ?_⟩, hgrow _⟩
    simpa using h3
end

/-- Keys of an integer type. -/
theorem keyEq_int {P : Program} {kt : TypeId} {q : IntKind} (hk : P.underlying kt = some (.int q)) : KeyEq P kt (fun x : Int => Value.int q x) where
  eq a b w := ⟨a == b, by simpa [Op.equal, Op.maxDepth] using run_equalIn_int w 9999 kt q q a b hk, by simp⟩
  ck e a w := run_checkKey (d := .int q) hk (by simp [IsKey]) e 9999
  sb a := by simp [Instr.sameBits]
  un := ⟨_, hk, fun a b r h => by simp [Instr.sameNow] at h; subst h; simp⟩

end Go.Proofs.Ytkkkephjljiplaa
