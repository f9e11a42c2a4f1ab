/- Package rules: the graph in memory: a map of maps. -/
import Derived.Test.YtkgmonplcdnnbaaGreatPm01
import Derived.WideShapes
import Derived.Test.YtkgmonplcdnnbaaGreatProg
import Derived.Deep.QuietTactic
import Derived.BigQuiet
namespace Go.Proofs.YtkgmonplcdnnbaaGreat
open Go.RowKit
open Go.MapKept (run_checkKey heap_set heap_alloc IsKey)
theorem str_eq (a b : ByteArray) : ((a.toList == b.toList) = true) ↔ a = b := by
 rw [beq_iff_eq, ByteArray.toList_eq, ByteArray.toList_eq]
 exact ⟨fun h => WideShapes.bytes_inj h, fun h => by rw [h]⟩
theorem str_beq (a b : ByteArray) : (a.toList == b.toList) = decide (a = b) := by
 rw [Bool.eq_iff_iff, str_eq, decide_eq_true_eq]
theorem ba_beq (a b : ByteArray) : ((a == b) = true) ↔ a = b := by
 rw [beq_toListBytes]
 exact str_eq a b
theorem keyEq_string {P : Program} {kt : TypeId} (hk : P.underlying kt = some .string) : KeyEq P kt (fun x : ByteArray => Value.string x) where
 eq a b w := ⟨a.toList == b.toList, by simpa [Op.equal, Op.maxDepth] using run_equalIn_string w 9999 kt a b hk, str_eq a b⟩
 ck e a w := run_checkKey (d := .string) hk (by simp [IsKey]) e 9999
 sb a := by simp only [Instr.sameBits]; exact (ba_beq a a).2 rfl
 un := ⟨_, hk, fun a b r h => by simp only [Instr.sameNow, Option.some.injEq] at h; subst h; exact ba_beq a b⟩
def seenM {κ : Type} (l : List κ) : List (κ × Bool) := l.map fun x => (x, true)
theorem getM_seen {κ : Type} [DecidableEq κ] (l : List κ) (x : κ) : getM (seenM l) x = if x ∈ l then some true else none := by
 induction l with
 | nil => simp [seenM, getM_nil]
 |
  cons y l ih =>
  have h : getM (seenM (y :: l)) x = if x = y then some true else getM (seenM l) x := getM_cons (y, true) (seenM l) x
  rw [h, ih]
  by_cases e : x = y <;> simp [e]
theorem putM_seen {κ : Type} [DecidableEq κ] (l : List κ) (x : κ) (h : x ∉ l) : putM (seenM l) x true = seenM (l ++ [x]) := by
 induction l with
 | nil => rfl
 |
  cons y l ih =>
  have e : ¬ x = y := fun e => h (by simp [e])
  have h2 : x ∉ l := fun e => h (by simp [e])
  have := ih h2
  simp only [seenM, List.map_cons, List.cons_append] at this ⊢
  rw [putM, if_neg e, this]
set_option maxHeartbeats 1000000 in
theorem differentStr_any (A : Option Addr) (n c : Nat) (l : List ByteArray) (w : World) (hs : SlR 1 strR w (.slice A n c) l) :
 Calls Tryz.prog 220 #[.slice A n c] w fun e w' => e = .returned (.bool (diffGo [] l)) ∧ Below w.heap.size w w' := by
 have hn2 : n ≤ 9223372036854775807 := by have := hs.le; omega
 have HN := Lib.hid hs.len
 have HS := Lib.hid hs
 clear hs
 have hmm : ∀ (n : Int) (w : World), (Instr.makeMap 292 (some (.int .i64 n))).run Tryz.prog w = .ok (.map (some w.heap.size)) (w.alloc (.map #[] 0)) := by
  intro n w
  simp [Instr.makeMap, run_underlying Tryz.underlying292, asInt, asIntOf]
 obtain ⟨v, hv⟩ : ∃ v, diffGo [] l = v := ⟨_, rfl⟩
 rw [hv]
 have HV : Hid (diffGo (l.take 0) (l.drop 0) = v) := Lib.hid hv
 clear hv
 go_enter Tryz.func220, Tryz.ntmps220
 go_wp2_with fail
 clear hmm
 have hm0 : MapAt Value.string Value.bool (w.alloc (.map #[] 0)) w.heap.size (seenM (l.take 0)) := MapAt.new _ _ w
 have hb0 : Below w.heap.size w (w.alloc (.map #[] 0)) := (Below.refl _ _).alloc (Nat.le_refl _) _
 have HM0 := Lib.hid hm0
 have HB0 := Lib.hid hb0
 clear hm0 hb0
 go_loopg [11] n (fun g i wr => ∃ k : Nat, k ≤ n ∧ g = n - k ∧ i = .int .i64 k ∧ diffGo (l.take k) (l.drop k) = v ∧ MapAt Value.string Value.bool wr w.heap.size (seenM (l.take k)) ∧ Below w.heap.size w wr)
 case atStart => exact ⟨0, Nat.zero_le _, rfl, rfl, HV.out, HM0.out, HB0.out⟩
 case round =>
  clear HM0 HB0 HV
  obtain ⟨k, hk, hg, rfl, hv, hm, hb⟩ := hrel
  have HG := Lib.hid hg
  have HB := Lib.hid hb
  by_cases hlt : k < n
  ·
   obtain ⟨b, off, x, rfl, hbl, hx, hc⟩ := str_at (HS.out.mono strR_mono HB.out) hlt
   rw [drop_cons hx, diffGo] at hv
   have hlook := run_lookup_m (keyEq_string Tryz.underlying9) Tryz.underlying292 (z := .bool false) (by kernel_rfl) hm x false
   rw [getM_seen] at hlook
   by_cases hmem : x ∈ l.take k
   ·
    rw [if_pos hmem] at hv hlook
    subst hv
    simp only [Option.map_some, Option.getD_some, Bool.false_eq_true, if_false] at hlook
    clear hx hg hb hm hmem
    go_wp2_with fail
    go_ret
    exact ⟨rfl, HB.out⟩
   ·
    rw [if_neg hmem] at hv hlook
    simp only [Option.map_none, Option.getD_none, Bool.false_eq_true, if_false] at hlook
    obtain ⟨w3, hrun3, hm3, hg3⟩ := run_update_m (keyEq_string Tryz.underlying9) Tryz.underlying292 hm x true
    rw [putM_seen _ _ hmem, ← take_snoc hx] at hm3
    rw [← take_snoc hx] at hv
    have HB3 := Lib.hid (HB.out.grown hg3 HB.out.size (fun r e => by cases e; exact Nat.le_refl _))
    have HM3 := Lib.hid hm3
    have HV3 := Lib.hid hv
    clear hm3 hg3 hv hx hg hb hm hmem
    go_wp2_with fail
    go_roundg (n - (k + 1))
    case measure => have := HG.out; omega
    case rel => exact ⟨k + 1, by omega, rfl, by go_num, HV3.out, HM3.out, HB3.out⟩
  ·
   rw [List.drop_of_length_le (by have := HN.out; omega)] at hv
   subst hv
   clear hm hb
   go_wp2_with fail
   go_ret
   exact ⟨rfl, HB.out⟩
open Go.MapKept (heap_set heap_alloc)
theorem putM_addNew (l : List Int) (x : Int) : putM (seenM l) x true = seenM (addNew l x) := by
 unfold addNew
 split
 ·
  next h =>
  induction l with
  | nil => simp at h
  |
   cons y l ih =>
   simp only [seenM, List.map_cons]
   rw [putM]
   by_cases e : x = y
   · subst e; rw [if_pos rfl]
   ·
    have h2 : x ∈ l := by simpa [e] using h
    rw [if_neg e]
    have := ih h2
    simp only [seenM] at this
    rw [this]
 · next h => exact putM_seen l x h
theorem getM_mem {κ ν : Type} [DecidableEq κ] {m : List (κ × ν)} {k : κ} {v : ν} (h : getM m k = some v) : (k, v) ∈ m := by
 induction m with
 | nil => simp [getM_nil] at h
 |
  cons p m ih =>
  rw [getM_cons] at h
  by_cases e : k = p.1
  ·
   rw [if_pos e] at h
   injection h with h
   subst h
   subst e
   exact List.mem_cons_self
  ·
   rw [if_neg e] at h
   exact List.mem_cons_of_mem _ (ih h)
theorem getM_none {κ ν : Type} [DecidableEq κ] {m : List (κ × ν)} {k : κ} : getM m k = none ↔ k ∉ m.map (·.1) := by
 induction m with
 | nil => simp [getM_nil]
 |
  cons p m ih =>
  rw [getM_cons]
  by_cases e : k = p.1
  · simp [e]
  ·
   rw [if_neg e, ih]
   simp [e]
theorem putM_new {κ ν : Type} [DecidableEq κ] {m : List (κ × ν)} {k : κ} {v : ν} (h : k ∉ m.map (·.1)) : putM m k v = m ++ [(k, v)] := by
 induction m with
 | nil => rfl
 |
  cons p m ih =>
  have h1 : ¬ k = p.1 := fun e => h (by simp [e])
  have h2 : k ∉ m.map (·.1) := fun e => h (by simp at e; simp [e])
  rw [putM, if_neg h1, ih h2]
  rfl
theorem modify_born {f : MapEntry → MapEntry} (hf : ∀ e, (f e).born = e.born) : ∀ (l : List MapEntry) (j : Nat), (l.modify j f).map (·.born) = l.map (·.born)
 | [], j => by simp
 | e :: l, 0 => by simp [hf]
 | e :: l, j + 1 => by simp [modify_born hf l j]
section
variable {κ ν : Type} [DecidableEq κ] {P : Program} {kt et t : TypeId} {ek : κ → Value} {ev : ν → Value} {w w' : World} {b : Nat} {m : List (κ × ν)}
def MapT (ek : κ → Value) (ev : ν → Value) (w : World) (b : Nat) (m : List (κ × ν)) : Prop :=
 ∃ es clock, w.heap[b]? = some (.map es clock) ∧ es.toList.map (fun e => (e.key, e.val)) = m.map (fun p => (ek p.1, ev p.2)) ∧ (es.toList.map (·.born)).Nodup ∧ ∀ x ∈ es.toList, x.born < clock
omit [DecidableEq κ] in
theorem MapT.at_ (h : MapT ek ev w b m) : MapAt ek ev w b m := by
 obtain ⟨es, clock, h1, h2, _⟩ := h
 exact ⟨es, clock, h1, h2⟩
omit [DecidableEq κ] in
theorem MapT.lt (h : MapT ek ev w b m) : b < w.heap.size := h.at_.lt
omit [DecidableEq κ] in
theorem MapT.same (h : MapT ek ev w b m) (hb : w'.heap[b]? = w.heap[b]?) : MapT ek ev w' b m := by
 obtain ⟨es, clock, h1, h2⟩ := h
 exact ⟨es, clock, hb.trans h1, h2⟩
omit [DecidableEq κ] in
theorem MapT.grown {row : Option Nat} (h : MapT ek ev w b m) (hg : w.grownBy w' row) (hne : some b ≠ row) : MapT ek ev w' b m := h.same (hg.block b h.lt hne)
omit [DecidableEq κ] in
theorem MapT.new (ek : κ → Value) (ev : ν → Value) (w : World) : MapT ek ev (w.alloc (.map #[] 0)) w.heap.size [] := ⟨#[], 0, (heap_alloc w _).1, rfl, by simp, by simp⟩
theorem run_update_t (K : KeyEq P kt ek) (ht : P.underlying t = some (.map kt et)) (h : MapT ek ev w b m) (k : κ) (v : ν) :
 ∃ w', (Instr.mapUpdate t (.map (some b)) (ek k) (ev v)).run P w = .ok () w' ∧ MapT ek ev w' b (putM m k v) ∧ w.grownBy w' (some b) := by
 have hlt := h.lt
 obtain ⟨es, clock, hb, hes, hnd, hold⟩ := h
 have hgrow : ∀ o : Obj, w.grownBy { w with heap := w.heap.setIfInBounds b o } (some b) := fun o =>
  ⟨rfl, rfl, rfl, by simp, fun i _ hne => (heap_set hb).2 i (fun e => hne (by rw [e]))⟩
 unfold Instr.mapUpdate
 simp only [Sem.run_bind, run_underlying ht, Result.andThen_ok, MapKept.run_getObj_map hb, K.ck, findKey_m (ev := ev) K k w _ m hes]
 cases hl : lookM m k 0 with
 |
  none =>
  refine ⟨_, MapKept.run_setObj_map _ hb, ⟨_, _, (heap_set hb).1, ?_, ?_, ?_⟩, hgrow _⟩
  ·
   rw [putM_none k v m 0 hl]
   simp [hes]
  ·
   simp only [Array.toList_push, List.map_append, List.map_cons, List.map_nil]
   refine List.nodup_append.2 ⟨hnd, by simp, fun a ha c hc e => ?_⟩
   simp only [List.mem_singleton] at hc
   subst hc
   subst e
   obtain ⟨x, hx, he⟩ := List.mem_map.1 ha
   have := hold x hx
   omega
  ·
   intro x hx
   simp only [Array.toList_push, List.mem_append, List.mem_singleton] at hx
   rcases hx with hx | rfl
   ·
    have := hold x hx
    omega
   · simp
 |
  some q =>
  obtain ⟨j, x⟩ := q
  obtain ⟨_, ⟨e, he, hek⟩, h3⟩ := lookM_modify ek ev k v es.toList m 0 j x hes hl
  simp only [Nat.sub_zero] at he h3
  have he' : es[j]? = some e := by simpa using he
  simp only [Option.map_some, he', Option.getD_some, hek]
  unfold Instr.keyThatStays
  rw [K.sb, if_pos rfl]
  simp only [Sem.run_bind, Sem.run_pure, Result.andThen_ok]
  refine ⟨_, MapKept.run_setObj_map _ hb, ⟨_, _, (heap_set hb).1, ?_, ?_, ?_⟩, hgrow _⟩
  · simpa using h3
  ·
   rw [Array.toList_modify]
   rw [modify_born (f := fun e => { key := ek k, val := ev v, born := e.born }) (fun _ => rfl)]
   exact hnd
  ·
   intro y hy
   rw [Array.toList_modify] at hy
   have hm : y.born ∈ (es.toList.modify j fun e => { key := ek k, val := ev v, born := e.born }).map (·.born) := List.mem_map_of_mem hy
   rw [modify_born (f := fun e => { key := ek k, val := ev v, born := e.born }) (fun _ => rfl)] at hm
   obtain ⟨z, hz, hzb⟩ := List.mem_map.1 hm
   rw [← hzb]
   exact hold z hz
end
theorem nodup_inj {α β : Type} {f : α → β} : ∀ {l : List α}, (l.map f).Nodup → ∀ {a b : α}, a ∈ l → b ∈ l → f a = f b → a = b
 | [], _, _, _, h, _, _ => by simp at h
 |
  c :: l, h, a, b, ha, hb, e => by
  simp only [List.map_cons, List.nodup_cons, List.mem_map, not_exists, not_and] at h
  rcases List.mem_cons.1 ha with rfl | ha'
  ·
   rcases List.mem_cons.1 hb with rfl | hb'
   · rfl
   · exact absurd e.symm (h.1 b hb')
  ·
   rcases List.mem_cons.1 hb with rfl | hb'
   · exact absurd e (h.1 a ha')
   · exact nodup_inj h.2 ha' hb' e
structure GraphH (w : World) (base M : Nat) (hs : List (Int × Nat)) (f : Int → List Int) : Prop where
 out : MapAt (Value.int .i64) (fun b : Nat => Value.map (some b)) w M hs
 ge : base ≤ M
 keys : (hs.map (·.1)).Nodup
 vals : (hs.map (·.2)).Nodup
 ins : ∀ p ∈ hs, base ≤ p.2 ∧ p.2 ≠ M ∧ MapT (Value.int .i64) Value.bool w p.2 (seenM (f p.1))
 rest : ∀ x, x ∉ hs.map (·.1) → f x = []
theorem map_blk {κ ν : Type} {w : World} {g : Nat} {t : TypeId} {cs : Array Value} {ev : ν → Value} {ek : κ → Value} {m : List (κ × ν)} (h : Blk w g t cs) (k : MapAt ek ev w g m) : False := by
 obtain ⟨es, clock, h2, _⟩ := k
 rw [show w.heap[g]? = some (.cells cs t (0, 0)) from h] at h2
 injection h2 with h2
 cases h2
theorem GraphH.below {w w' : World} {base M : Nat} {hs : List (Int × Nat)} {f : Int → List Int} (h : GraphH w base M hs f) (hb : Below w.heap.size w w') : GraphH w' base M hs f :=
 ⟨h.out.same (hb.block _ h.out.lt), h.ge, h.keys, h.vals, fun p hp => ⟨(h.ins p hp).1, (h.ins p hp).2.1, (h.ins p hp).2.2.same (hb.block _ (h.ins p hp).2.2.lt)⟩, h.rest⟩
theorem GraphH.kept {w w' : World} {base M : Nat} {hs : List (Int × Nat)} {f : Int → List Int} (h : GraphH w base M hs f) (hb : ∀ b, (b = M ∨ b ∈ hs.map (·.2)) → w'.heap[b]? = w.heap[b]?) : GraphH w' base M hs f :=
 ⟨h.out.same (hb _ (.inl rfl)), h.ge, h.keys, h.vals, fun p hp => ⟨(h.ins p hp).1, (h.ins p hp).2.1, (h.ins p hp).2.2.same (hb _ (.inr (List.mem_map_of_mem hp)))⟩, h.rest⟩
theorem GraphH.add {w w' : World} {base M g : Nat} {hs : List (Int × Nat)} {f : Int → List Int} {x : Int} (h : GraphH w base M hs f) (hx : x ∉ hs.map (·.1)) (hg : MapT (Value.int .i64) Value.bool w g ([] : List (Int × Bool))) (hgb : base ≤ g) (hgM : g ≠ M) (hgs : g ∉ hs.map (·.2))
 (hm : MapAt (Value.int .i64) (fun b : Nat => Value.map (some b)) w' M (putM hs x g)) (hgr : w.grownBy w' (some M)) : GraphH w' base M (hs ++ [(x, g)]) f := by
 rw [putM_new hx] at hm
 refine ⟨hm, h.ge, ?_, ?_, ?_, ?_⟩
 ·
  rw [List.map_append]
  exact List.nodup_append.2 ⟨h.keys, by simp, fun a ha b hb e => by simp at hb; subst hb; subst e; exact hx ha⟩
 ·
  rw [List.map_append]
  exact List.nodup_append.2 ⟨h.vals, by simp, fun a ha b hb e => by simp at hb; subst hb; subst e; exact hgs ha⟩
 ·
  intro p hp
  rcases List.mem_append.1 hp with hp | hp
  ·
   obtain ⟨h1, h2, h3⟩ := h.ins p hp
   exact ⟨h1, h2, h3.grown hgr (fun e => h2 (by injection e))⟩
  ·
   simp only [List.mem_singleton] at hp
   subst hp
   refine ⟨hgb, hgM, ?_⟩
   show MapT _ _ w' g (seenM (f x))
   rw [h.rest x hx]
   exact hg.grown hgr (fun e => hgM (by injection e))
 ·
  intro y hy
  exact h.rest y (fun e => hy (by rw [List.map_append]; exact List.mem_append_left _ e))
theorem GraphH.insert {w w' : World} {base M b : Nat} {hs : List (Int × Nat)} {f : Int → List Int} {x y : Int} (h : GraphH w base M hs f) (hx : (x, b) ∈ hs)
 (hm : MapT (Value.int .i64) Value.bool w' b (putM (seenM (f x)) y true)) (hgr : w.grownBy w' (some b)) : GraphH w' base M hs (fun z => if z = x then addNew (f x) y else f z) := by
 obtain ⟨h1, h2, h3⟩ := h.ins _ hx
 rw [putM_addNew] at hm
 refine ⟨h.out.grown hgr (fun e => h2 (by injection e with e; exact e.symm)), h.ge, h.keys, h.vals, ?_, ?_⟩
 ·
  intro p hp
  obtain ⟨k1, k2, k3⟩ := h.ins p hp
  refine ⟨k1, k2, ?_⟩
  by_cases e : p.1 = x
  ·
   have : p = (x, b) := nodup_inj h.keys hp hx e
   subst this
   simp only [if_true]
   exact hm
  ·
   have hne : p.2 ≠ b := by
    intro e2
    have : p = (x, b) := nodup_inj h.vals hp hx e2
    exact e (by rw [this])
   rw [if_neg e]
   exact k3.grown hgr (fun e2 => hne (by injection e2))
 ·
  intro z hz
  have hzx : z ≠ x := fun e => hz (by subst e; exact List.mem_map_of_mem (f := (·.1)) hx)
  simp only [if_neg hzx]
  exact h.rest z hz
end Go.Proofs.YtkgmonplcdnnbaaGreat
