/- What Broken returns is the first pair that breaks a dependency: plain Lean. -/
import Derived.Test.YtejjggchjoifoaaDepBroken
namespace Go.Proofs.Ytejjggchjoifoaa

/-- Do two instances break a dependency? -/
def breaksB (x y : Inst) (d : Dep) : Bool := d.src.all (fun f => x.getD f.toNat 0 == y.getD f.toNat 0) && x.getD d.dst.toNat 0 != y.getD d.dst.toNat 0

theorem breaksB_iff {x y : Inst} {d : Dep} : breaksB x y d = true ↔ (∀ f ∈ d.src, x.getD f.toNat 0 = y.getD f.toNat 0) ∧ x.getD d.dst.toNat 0 ≠ y.getD d.dst.toNat 0 := by
  simp [breaksB, List.all_eq_true]

def Bd (x : Inst) : Prop := ∀ v ∈ x, -9223372036854775808 ≤ v ∧ v ≤ 9223372036854775807

theorem keyUpto_iff {src : List Int} {x y : Inst} (hl : src.length ≤ 12) : keyUpto src x src.length = keyUpto src y src.length ↔ ∀ f ∈ src, x.getD f.toNat 0 = y.getD f.toNat 0 := by
  unfold keyUpto
  constructor
  · intro h f hf
    obtain ⟨i, hi, rfl⟩ := List.getElem_of_mem hf
    have h1 := congrArg (fun l => l[i]?) h
    simp only [List.getElem?_map, List.getElem?_range (show i < 12 by omega), Option.map_some, Option.some.injEq, if_pos hi] at h1
    have hg : src.getD i 0 = src[i] := by rw [List.getD_eq_getElem?_getD, List.getElem?_eq_getElem hi]; rfl
    rw [hg] at h1
    exact h1
  · intro h
    refine List.map_congr_left (fun i _ => ?_)
    by_cases hi : i < src.length
    · rw [if_pos hi, if_pos hi]
      refine h _ ?_
      rw [List.getD_eq_getElem?_getD, List.getElem?_eq_getElem hi]
      exact List.getElem_mem hi
    · rw [if_neg hi, if_neg hi]

theorem keyK_iff {src : List Int} {x y : Inst} (hl : src.length ≤ 12) (hx : Bd x) (hy : Bd y) : keyK src x = keyK src y ↔ ∀ f ∈ src, x.getD f.toNat 0 = y.getD f.toNat 0 := by
  rw [← keyUpto_iff hl]
  unfold keyK
  rw [Subtype.mk.injEq, clampI_ok hx, clampI_ok hy]

/-- Pairs, in the order of the two loops. -/
def lexLt (a b a' b' : Int) : Prop := a < a' ∨ a = a' ∧ b < b'

section
variable {d : Dep} {l : List Inst}

theorem instAt_bd (hb : ∀ x ∈ l, Bd x) (i : Nat) : Bd (instAt l i) := by
  unfold instAt
  rw [List.getD_eq_getElem?_getD]
  cases h : l[i]? with
  | none => intro v hv; simp at hv
  | some x => exact hb x (List.mem_of_getElem? h)

structure PInv (d : Dep) (l : List Inst) (n : Nat) (s : PS) : Prop where
  some_ : ∀ k a, getM s.first k = some a → 0 ≤ a ∧ a.toNat < n ∧ keyK d.src (instAt l a.toNat) = k ∧ ∀ j, j < a.toNat → keyK d.src (instAt l j) ≠ k
  none_ : ∀ k, getM s.first k = none → ∀ j, j < n → keyK d.src (instAt l j) ≠ k
  sound : ∀ p ∈ s.out, keyK d.src (instAt l p.1.toNat) = keyK d.src (instAt l p.2.toNat) ∧ (instAt l p.1.toNat).getD d.dst.toNat 0 ≠ (instAt l p.2.toNat).getD d.dst.toNat 0
  done_ : ∀ a, (getM s.done a).getD false = true → ∃ b, (a, b) ∈ s.out
  full : ∀ a b : Nat, a < b → b < n → (∀ j, j < a → keyK d.src (instAt l j) ≠ keyK d.src (instAt l a)) → keyK d.src (instAt l a) = keyK d.src (instAt l b) → (instAt l a).getD d.dst.toNat 0 ≠ (instAt l b).getD d.dst.toNat 0 →
    ∃ b' : Int, b' ≤ b ∧ ((a : Int), b') ∈ s.out

theorem pinv (d : Dep) (l : List Inst) : ∀ n, PInv d l n (pst d l n)
  | 0 => ⟨fun k a h => (by cases h), fun k _ j hj => (by omega), fun p h => (by cases h), fun a h => (by cases h), fun a b _ h => (by omega)⟩
  | n + 1 => by
    have ih := pinv d l n
    have hout := pst_out d l n
    have hpre := pst_pre d l n (n + 1) (by omega)
    show PInv d l (n + 1) (pstep d l (pst d l n) n)
    generalize pst d l n = s at ih hout hpre
    cases hg : getM s.first (keyK d.src (instAt l n)) with
    | none =>
      have hs : pstep d l s n = { s with first := putM s.first (keyK d.src (instAt l n)) n } := by unfold pstep; rw [hg]
      rw [hs]
      refine ⟨?_, ?_, ih.sound, ih.done_, ?_⟩
      · intro k a h
        simp only [getM_put] at h
        split at h
        · rename_i hk
          simp only [Option.some.injEq] at h
          subst h
          refine ⟨by omega, by omega, by rw [hk]; rfl, ?_⟩
          intro j hj
          rw [hk]
          exact ih.none_ _ hg j (by omega)
        · obtain ⟨h1, h2, h3⟩ := ih.some_ k a h
          exact ⟨h1, by omega, h3⟩
      · intro k h j hj
        simp only [getM_put] at h
        split at h
        · cases h
        · rename_i hk
          by_cases e : j = n
          · subst e; exact fun e => hk e.symm
          · exact ih.none_ k h j (by omega)
      · intro a b hab hb hf hk hd
        by_cases e : b = n
        · subst e
          exact absurd hk (ih.none_ _ hg a hab)
        · exact ih.full a b hab (by omega) hf hk hd
    | some a0 =>
      obtain ⟨g1, g2, g3, g4⟩ := ih.some_ _ _ hg
      have hsm : ∀ k a, getM s.first k = some a → 0 ≤ a ∧ a.toNat < n + 1 ∧ keyK d.src (instAt l a.toNat) = k ∧ ∀ j, j < a.toNat → keyK d.src (instAt l j) ≠ k := fun k a h => by
        obtain ⟨h1, h2, h3⟩ := ih.some_ k a h
        exact ⟨h1, by omega, h3⟩
      have hno : ∀ k, getM s.first k = none → ∀ j, j < n + 1 → keyK d.src (instAt l j) ≠ k := fun k h j hj => by
        by_cases e : j = n
        · subst e
          intro e
          rw [← e, hg] at h
          cases h
        · exact ih.none_ k h j (by omega)
      cases hc : (getM s.done a0).getD false || (instAt l a0.toNat).getD d.dst.toNat 0 == (instAt l n).getD d.dst.toNat 0 with
      | true =>
        have hs : pstep d l s n = s := by unfold pstep; rw [hg]; simp only [hc, if_true]
        rw [hs]
        refine ⟨hsm, hno, ih.sound, ih.done_, ?_⟩
        intro a b hab hb hf hk hd
        by_cases e : b = n
        · subst e
          have ea : a = a0.toNat := by
            rcases Nat.lt_trichotomy a a0.toNat with h | h | h
            · exact absurd hk (g4 a h)
            · exact h
            · exact absurd (g3.trans hk.symm) (hf _ h)
          subst ea
          rw [Bool.or_eq_true] at hc
          rcases hc with hc | hc
          · obtain ⟨b', hb'⟩ := ih.done_ _ hc
            have := hout _ hb'
            refine ⟨b', by simp only at this; omega, ?_⟩
            rw [Int.toNat_of_nonneg g1]; exact hb'
          · exact absurd (by simpa using hc) hd
        · exact ih.full a b hab (by omega) hf hk hd
      | false =>
        have hs : pstep d l s n = { s with done := putM s.done a0 true, out := s.out ++ [(a0, (n : Int))] } := by unfold pstep; rw [hg]; simp only [hc]; rfl
        rw [hs]
        rw [Bool.or_eq_false_iff] at hc
        refine ⟨hsm, hno, ?_, ?_, ?_⟩
        · intro p hp
          rcases List.mem_append.1 hp with h | h
          · exact ih.sound p h
          · rw [List.mem_singleton.1 h]
            exact ⟨g3, by simpa using hc.2⟩
        · intro a h
          simp only [getM_put] at h
          split at h
          · rename_i e
            subst e
            exact ⟨n, by simp⟩
          · obtain ⟨b, hb⟩ := ih.done_ a h
            exact ⟨b, List.mem_append_left _ hb⟩
        · intro a b hab hb hf hk hd
          by_cases e : b = n
          · subst e
            have ea : a = a0.toNat := by
              rcases Nat.lt_trichotomy a a0.toNat with h | h | h
              · exact absurd hk (g4 a h)
              · exact h
              · exact absurd (g3.trans hk.symm) (hf _ h)
            subst ea
            exact ⟨b, Int.le_refl _, by rw [Int.toNat_of_nonneg g1]; simp⟩
          · obtain ⟨b', h1, h2⟩ := ih.full a b hab (by omega) hf hk hd
            exact ⟨b', h1, List.mem_append_left _ h2⟩

/-- Each pair that is yielded breaks. -/
theorem pairs_sound (hb : ∀ x ∈ l, Bd x) (hl : d.src.length ≤ 12) {p : Int × Int} (h : p ∈ pairsL d l) : 0 ≤ p.1 ∧ p.1 < p.2 ∧ p.2 < l.length ∧ breaksB (instAt l p.1.toNat) (instAt l p.2.toNat) d = true := by
  have h1 := pst_out d l _ p h
  have h2 := (pinv d l _).sound p h
  refine ⟨h1.1, h1.2.1, h1.2.2, breaksB_iff.2 ⟨(keyK_iff hl (instAt_bd hb _) (instAt_bd hb _)).1 h2.1, h2.2⟩⟩

/-- The first of its class. -/
theorem least_of (P : Nat → Prop) [DecidablePred P] : ∀ a, P a → ∃ m, m ≤ a ∧ P m ∧ ∀ j, j < m → ¬ P j := by
  intro a
  induction a using Nat.strongRecOn with
  | _ a ih =>
    intro ha
    by_cases h : ∃ j, j < a ∧ P j
    · obtain ⟨j, hj, hp⟩ := h
      obtain ⟨m, h1, h2⟩ := ih j hj hp
      exact ⟨m, by omega, h2⟩
    · exact ⟨a, Nat.le_refl _, ha, fun j hj hp => h ⟨j, hj, hp⟩⟩

/-- Whatever breaks, a pair that comes not later is yielded. -/
theorem pairs_full (hb : ∀ x ∈ l, Bd x) (hl : d.src.length ≤ 12) {a b : Nat} (hab : a < b) (hbl : b < l.length) (h : breaksB (instAt l a) (instAt l b) d = true) :
    ∃ p ∈ pairsL d l, ¬ lexLt a b p.1 p.2 := by
  obtain ⟨h1, h2⟩ := breaksB_iff.1 h
  have hk := (keyK_iff hl (instAt_bd hb _) (instAt_bd hb _)).2 h1
  obtain ⟨m, hm, hkm, hleast⟩ := least_of (fun j => keyK d.src (instAt l j) = keyK d.src (instAt l a)) a rfl
  have hf : ∀ j, j < m → keyK d.src (instAt l j) ≠ keyK d.src (instAt l m) := fun j hj e => hleast j hj (e.trans hkm)
  have inv := pinv d l l.length
  rcases Nat.lt_or_ge m a with hlt | hge
  · have hx : ∃ c, m < c ∧ c < l.length ∧ keyK d.src (instAt l m) = keyK d.src (instAt l c) ∧ (instAt l m).getD d.dst.toNat 0 ≠ (instAt l c).getD d.dst.toNat 0 := by
      by_cases e : (instAt l m).getD d.dst.toNat 0 = (instAt l a).getD d.dst.toNat 0
      · exact ⟨b, by omega, hbl, hkm.trans hk, fun e' => h2 (e.symm.trans e')⟩
      · exact ⟨a, hlt, by omega, hkm, e⟩
    obtain ⟨c, c1, c2, c3, c4⟩ := hx
    obtain ⟨b', _, hp⟩ := inv.full m c c1 c2 hf c3 c4
    exact ⟨_, hp, fun hlex => by unfold lexLt at hlex; simp only at hlex; omega⟩
  · have e : m = a := by omega
    subst e
    obtain ⟨b', h3, hp⟩ := inv.full m b hab hbl hf hk h2
    exact ⟨_, hp, fun hlex => by unfold lexLt at hlex; simp only at hlex; omega⟩
end

/-- What the search has found after some dependencies. -/
structure BInv (l : List Inst) (ds : List Dep) (ps : Nat → List (Int × Int)) (n : Nat) (s : BS) : Prop where
  no : s.ok = false → s = ⟨0, 0, 0, false⟩ ∧ ∀ i, i < n → ps i = []
  yes : s.ok = true → 0 ≤ s.dep ∧ s.dep.toNat < n ∧ (s.a, s.b) ∈ ps s.dep.toNat ∧ (∀ i, i < n → ∀ p ∈ ps i, ¬ lexLt p.1 p.2 s.a s.b) ∧ (∀ i, i < s.dep.toNat → ∀ p ∈ ps i, p ≠ (s.a, s.b))

/-- One dependency's pairs, folded in. -/
theorem bfold {i : Nat} : ∀ (q : List (Int × Int)) (s : BS), (q.foldl (bstep (i : Int)) s).ok = (s.ok || !q.isEmpty) ∧
    ((q.foldl (bstep (i : Int)) s) = s ∨ ((q.foldl (bstep (i : Int)) s).dep = i ∧ ((q.foldl (bstep (i : Int)) s).a, (q.foldl (bstep (i : Int)) s).b) ∈ q ∧ (s.ok = true → lexLt (q.foldl (bstep (i : Int)) s).a (q.foldl (bstep (i : Int)) s).b s.a s.b))) ∧
    (∀ p ∈ q, ¬ lexLt p.1 p.2 (q.foldl (bstep (i : Int)) s).a (q.foldl (bstep (i : Int)) s).b) ∧ (s.ok = true → ¬ lexLt s.a s.b (q.foldl (bstep (i : Int)) s).a (q.foldl (bstep (i : Int)) s).b)
  | [], s => by simp [lexLt]
  | p :: q, s => by
    have ih := bfold (i := i) q (bstep (i : Int) s p)
    rw [List.foldl_cons]
    generalize hr : q.foldl (bstep (i : Int)) (bstep (i : Int) s p) = r at ih
    obtain ⟨h1, h2, h3, h4⟩ := ih
    rw [bstep_ok] at h1 h2 h4
    replace h4 := h4 rfl
    have hstep : (bstep (i : Int) s p = ⟨p.1, p.2, i, true⟩ ∧ (s.ok = true → lexLt p.1 p.2 s.a s.b)) ∨ (bstep (i : Int) s p = s ∧ s.ok = true ∧ ¬ lexLt p.1 p.2 s.a s.b) := by
      unfold bstep
      cases hc : (!s.ok || decide (p.1 < s.a) || (p.1 == s.a && decide (p.2 < s.b)))
      · right
        rw [if_neg (by simp)]
        simp only [Bool.or_eq_false_iff, Bool.not_eq_false', decide_eq_false_iff_not, Bool.and_eq_false_iff, beq_eq_false_iff_ne] at hc
        refine ⟨rfl, hc.1.1, ?_⟩
        unfold lexLt
        omega
      · left
        rw [if_pos rfl]
        refine ⟨rfl, fun hk => ?_⟩
        simp only [hk, Bool.not_true, Bool.false_or, Bool.or_eq_true, decide_eq_true_eq, Bool.and_eq_true, beq_iff_eq] at hc
        unfold lexLt
        omega
    refine ⟨by rw [h1]; simp, ?_, ?_, ?_⟩
    · rcases hstep with ⟨e, hs⟩ | ⟨e, hk, hs⟩
      · right
        rw [e] at h2 h4
        rcases h2 with h2 | ⟨a1, a2, a3⟩
        · rw [h2]
          exact ⟨rfl, by simp, hs⟩
        · refine ⟨a1, by simp [a2], fun hk => ?_⟩
          have b1 := hs hk
          have b2 := a3 rfl
          unfold lexLt at b1 b2 ⊢
          simp only at b2
          omega
      · rw [e] at h2
        rcases h2 with h2 | ⟨a1, a2, a3⟩
        · exact .inl h2
        · exact .inr ⟨a1, by simp [a2], fun _ => a3 rfl⟩
    · intro x hx
      rcases List.mem_cons.1 hx with rfl | hx
      · rcases hstep with ⟨e, hs⟩ | ⟨e, hk, hs⟩
        · rw [e] at h4
          exact h4
        · rw [e] at h4
          unfold lexLt at h4 hs ⊢
          omega
      · exact h3 x hx
    · intro hk
      rcases hstep with ⟨e, hs⟩ | ⟨e, _, hs⟩
      · rw [e] at h4
        have := hs hk
        unfold lexLt at h4 this ⊢
        simp only at h4
        omega
      · rw [e] at h4
        exact h4

theorem binv (l : List Inst) (ds : List Dep) : ∀ n, n ≤ ds.length → BInv l ds (fun i : Nat => ((ds[i]?).map (fun d => pairsL d l)).getD []) n (bdeps l ds n)
  | 0, _ => ⟨fun _ => ⟨rfl, fun i h => by omega⟩, fun h => (by cases h)⟩
  | n + 1, hn => by
    have ih := binv l ds n (by omega)
    have hd : ds[n]? = some ds[n] := List.getElem?_eq_getElem hn
    rw [bdeps_succ hd]
    have hb := bfold (i := n) (pairsL ds[n] l) (bdeps l ds n)
    have hps : (fun i : Nat => ((ds[i]?).map (fun d => pairsL d l)).getD []) n = pairsL ds[n] l := by show ((ds[n]?).map (fun d => pairsL d l)).getD [] = _; rw [hd]; rfl
    generalize pairsL ds[n] l = q at hb hps
    generalize bdeps l ds n = s at ih hb
    generalize hr : q.foldl (bstep (n : Int)) s = r at hb
    generalize (fun i : Nat => ((ds[i]?).map (fun d => pairsL d l)).getD []) = ps at ih hps
    obtain ⟨h1, h2, h3, h4⟩ := hb
    have hps' : ps n = q := hps
    constructor
    · intro hk
      rw [hk] at h1
      have h1' := h1.symm
      rw [Bool.or_eq_false_iff] at h1'
      have hq : q = [] := by simpa using h1'.2
      subst hq
      have hrs : s = r := hr
      subst hrs
      obtain ⟨e, h⟩ := ih.no h1'.1
      refine ⟨e, fun i hi => ?_⟩
      by_cases e : i = n
      · subst e; exact hps'
      · exact h i (by omega)
    · intro hk
      rcases h2 with h2 | ⟨a1, a2, a3⟩
      · rw [h2] at hk h3 ⊢
        obtain ⟨b1, b2, b3, b4, b5⟩ := ih.yes hk
        refine ⟨b1, by omega, b3, fun i hi => ?_, b5⟩
        by_cases e : i = n
        · subst e; rw [hps']; exact h3
        · exact b4 i (by omega)
      · have hdn : r.dep.toNat = n := by omega
        refine ⟨by omega, by omega, by rw [hdn, hps']; exact a2, ?_, ?_⟩
        · intro i hi
          by_cases e : i = n
          · subst e; rw [hps']; exact h3
          · intro p hp
            cases hso : s.ok
            · have := (ih.no hso).2 i (by omega)
              rw [this] at hp
              cases hp
            · obtain ⟨b1, b2, b3, b4, b5⟩ := ih.yes hso
              have c1 := b4 i (by omega) p hp
              have c2 := h4 hso
              unfold lexLt at c1 c2 ⊢
              omega
        · intro i hi p hp e
          cases hso : s.ok
          · have := (ih.no hso).2 i (by omega)
            rw [this] at hp
            cases hp
          · obtain ⟨b1, b2, b3, b4, b5⟩ := ih.yes hso
            have c1 := b4 i (by omega) p hp
            have c2 := a3 hso
            rw [e] at c1
            exact c1 c2

section
variable {nf : Nat} {ds : List Dep} {l : List Inst}

/-- Broken's answer, as it is described. -/
theorem broken_no (hb : ∀ x ∈ l, Bd x) (hk : brokenOk nf ds l = true) (h : (brokenS nf ds l).ok = false) : brokenS nf ds l = ⟨0, 0, 0, false⟩ ∧ ∀ a b : Nat, a < b → b < l.length → ∀ d ∈ ds, breaksB (instAt l a) (instAt l b) d = false := by
  have e : brokenS nf ds l = bdeps l ds ds.length := by simp [brokenS, hk]
  have hv : checkB nf ds = true := by unfold brokenOk at hk; rw [Bool.and_eq_true] at hk; exact hk.1
  rw [e] at h ⊢
  obtain ⟨h1, h2⟩ := (binv l ds ds.length (Nat.le_refl _)).no h
  refine ⟨h1, fun a b hab hbl d hd => ?_⟩
  cases hbr : breaksB (instAt l a) (instAt l b) d
  · rfl
  · obtain ⟨i, hi, rfl⟩ := List.getElem_of_mem hd
    have hlen : ds[i].src.length ≤ 12 := by
      have h4 := (List.all_eq_true.1 (by simp only [checkB, Bool.and_eq_true] at hv; exact hv.2) ds[i] hd : validB nf ds[i] = true)
      have := validB_len h4
      have := (checkB_ok hv).2.1
      omega
    obtain ⟨p, hp, _⟩ := pairs_full hb hlen hab hbl hbr
    have := h2 i hi
    simp only [List.getElem?_eq_getElem hi, Option.map_some, Option.getD_some] at this
    rw [this] at hp
    cases hp

theorem dep_len (hv : checkB nf ds = true) {d : Dep} (hd : d ∈ ds) : d.src.length ≤ 12 := by
  have h4 := (List.all_eq_true.1 (by simp only [checkB, Bool.and_eq_true] at hv; exact hv.2) d hd : validB nf d = true)
  have := validB_len h4
  have := (checkB_ok hv).2.1
  omega

/-- A first breaking pair with its first dependency. -/
structure IsFirst (ds : List Dep) (l : List Inst) (a b k : Nat) : Prop where
  ab : a < b
  bl : b < l.length
  kl : k < ds.length
  br : ∀ d, ds[k]? = some d → breaksB (instAt l a) (instAt l b) d = true
  before : ∀ a' b' : Nat, a' < b' → b' < l.length → lexLt a' b' a b → ∀ d ∈ ds, breaksB (instAt l a') (instAt l b') d = false
  least : ∀ d ∈ ds.take k, breaksB (instAt l a) (instAt l b) d = false

theorem broken_yes (hb : ∀ x ∈ l, Bd x) (hk : brokenOk nf ds l = true) (h : (brokenS nf ds l).ok = true) : ∃ a b k : Nat, brokenS nf ds l = ⟨a, b, k, true⟩ ∧ IsFirst ds l a b k := by
  have e : brokenS nf ds l = bdeps l ds ds.length := by simp [brokenS, hk]
  have hv : checkB nf ds = true := by unfold brokenOk at hk; rw [Bool.and_eq_true] at hk; exact hk.1
  rw [e] at h ⊢
  obtain ⟨h1, h2, h3, h4, h5⟩ := (binv l ds ds.length (Nat.le_refl _)).yes h
  generalize bdeps l ds ds.length = s at h h1 h2 h3 h4 h5
  obtain ⟨a, b, k, ok⟩ := s
  simp only at h h1 h2 h3 h4 h5
  subst h
  simp only [List.getElem?_eq_getElem h2, Option.map_some, Option.getD_some] at h3
  obtain ⟨p1, p2, p3, p4⟩ := pairs_sound hb (dep_len hv (List.getElem_mem h2)) h3
  simp only at p1 p2 p3 p4
  have hfull : ∀ a' b' : Nat, a' < b' → b' < l.length → ∀ i (hi : i < ds.length), breaksB (instAt l a') (instAt l b') ds[i] = true → ∃ p ∈ pairsL ds[i] l, ¬ lexLt a' b' p.1 p.2 :=
    fun a' b' hab hbl i hi hbr => pairs_full hb (dep_len hv (List.getElem_mem hi)) hab hbl hbr
  have hsnd : ∀ i (hi : i < ds.length), ∀ p ∈ pairsL ds[i] l, ¬ lexLt p.1 p.2 a b := fun i hi p hp => h4 i hi p (by simp only [List.getElem?_eq_getElem hi, Option.map_some, Option.getD_some]; exact hp)
  refine ⟨a.toNat, b.toNat, k.toNat, ?_, ?_⟩
  · rw [Int.toNat_of_nonneg p1, Int.toNat_of_nonneg (by omega : 0 ≤ b), Int.toNat_of_nonneg h1]
  · refine ⟨by omega, by omega, h2, ?_, ?_, ?_⟩
    · intro d hd
      rw [List.getElem?_eq_getElem h2, Option.some.injEq] at hd
      rw [← hd]; exact p4
    · intro a' b' hab hbl hlex d hd
      obtain ⟨i, hi, rfl⟩ := List.getElem_of_mem hd
      cases hbr : breaksB (instAt l a') (instAt l b') ds[i]
      · rfl
      · obtain ⟨p, hp, hnp⟩ := hfull a' b' hab hbl i hi hbr
        have := hsnd i hi p hp
        unfold lexLt at hlex this hnp
        omega
    · intro d hd
      obtain ⟨i, hi, rfl⟩ := List.getElem_of_mem hd
      rw [List.length_take] at hi
      rw [List.getElem_take]
      cases hbr : breaksB (instAt l a.toNat) (instAt l b.toNat) ds[i]
      · rfl
      · obtain ⟨p, hp, hnp⟩ := hfull a.toNat b.toNat (by omega) (by omega) i (by omega) hbr
        have h6 := hsnd i (by omega) p hp
        have h7 := h5 i (by omega) p (by simp only [List.getElem?_eq_getElem (show i < ds.length by omega), Option.map_some, Option.getD_some]; exact hp)
        obtain ⟨x, y⟩ := p
        simp only [ne_eq, Prod.mk.injEq] at h7
        unfold lexLt at h6 hnp
        simp only at h6 hnp
        exfalso
        apply h7
        omega

theorem first_unique {a b k a' b' k' : Nat} (h : IsFirst ds l a b k) (h' : IsFirst ds l a' b' k') : a = a' ∧ b = b' ∧ k = k' := by
  have hk := List.getElem?_eq_getElem h.kl
  have hk' := List.getElem?_eq_getElem h'.kl
  have e : ¬ lexLt a b a' b' := fun hl => by
    have := h'.before a b h.ab h.bl hl _ (List.getElem_mem h.kl)
    rw [h.br _ hk] at this
    cases this
  have e' : ¬ lexLt a' b' a b := fun hl => by
    have := h.before a' b' h'.ab h'.bl hl _ (List.getElem_mem h'.kl)
    rw [h'.br _ hk'] at this
    cases this
  have eq : a = a' ∧ b = b' := by unfold lexLt at e e'; omega
  obtain ⟨rfl, rfl⟩ := eq
  refine ⟨rfl, rfl, ?_⟩
  rcases Nat.lt_trichotomy k k' with hlt | h0 | hlt
  · have := h'.least (ds[k]'h.kl) (List.mem_of_getElem? (by rw [List.getElem?_take_of_lt hlt]; exact hk))
    rw [h.br _ hk] at this
    cases this
  · exact h0
  · have := h.least (ds[k']'h'.kl) (List.mem_of_getElem? (by rw [List.getElem?_take_of_lt hlt]; exact hk'))
    rw [h'.br _ hk'] at this
    cases this

/-- Whoever finds a first pair, finds Broken's. -/
theorem broken_first (hb : ∀ x ∈ l, Bd x) (hk : brokenOk nf ds l = true) {a b k : Nat} (h : IsFirst ds l a b k) : brokenS nf ds l = ⟨a, b, k, true⟩ := by
  cases ho : (brokenS nf ds l).ok
  · have := (broken_no hb hk ho).2 a b h.ab h.bl _ (List.getElem_mem h.kl)
    rw [h.br _ (List.getElem?_eq_getElem h.kl)] at this
    cases this
  · obtain ⟨a', b', k', e, h'⟩ := broken_yes hb hk ho
    obtain ⟨rfl, rfl, rfl⟩ := first_unique h h'
    exact e
theorem broken_none (hb : ∀ x ∈ l, Bd x) (hk : brokenOk nf ds l = true) (h : ∀ a b : Nat, a < b → b < l.length → ∀ d ∈ ds, breaksB (instAt l a) (instAt l b) d = false) : brokenS nf ds l = ⟨0, 0, 0, false⟩ := by
  cases ho : (brokenS nf ds l).ok
  · exact (broken_no hb hk ho).1
  · obtain ⟨a', b', k', e, h'⟩ := broken_yes hb hk ho
    have := h a' b' h'.ab h'.bl _ (List.getElem_mem h'.kl)
    rw [h'.br _ (List.getElem?_eq_getElem h'.kl)] at this
    cases this
end

end Go.Proofs.Ytejjggchjoifoaa
