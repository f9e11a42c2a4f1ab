/- Plain: a source with a further definition that refers to what there is not is refused. -/
import Derived.Test.YtkkkephjljiplaaNmBulk
import Derived.Test.YtkkkephjljiplaaNmScP
namespace Go.Proofs.Ytkkkephjljiplaa
open Go.RowKit

def nStr : ByteArray := ⟨#[110]⟩
def addN (a x : ByteArray) : ByteArray := a ++ (x ++ nStr)
def longN (l : List ByteArray) : ByteArray := l.foldl addN nStr
theorem longN_snoc (l : List ByteArray) (x : ByteArray) : longN (l ++ [x]) = longN l ++ (x ++ nStr) := by
  unfold longN
  rw [List.foldl_append]
  rfl
theorem addN_size : ∀ (l : List ByteArray) (a : ByteArray), (l.foldl addN a).size = a.size + (l.map strM).sum
  | [], a => by simp
  | x :: r, a => by
    rw [List.foldl_cons, addN_size r, List.map_cons, List.sum_cons]
    unfold addN strM
    simp only [ByteArray.size_append]
    have : nStr.size = 1 := rfl
    omega
theorem longN_size (l : List ByteArray) : (longN l).size = 1 + (l.map strM).sum := addN_size l nStr
theorem longN_pre {l L : List ByteArray} (h : l <+: L) : (longN l).size ≤ (longN L).size := by
  obtain ⟨r, rfl⟩ := h
  rw [longN_size, longN_size, List.map_append, List.sum_append]
  omega
theorem mem_sum {l : List ByteArray} {x : ByteArray} (h : x ∈ l) : strM x ≤ (l.map strM).sum := by
  induction l with
  | nil => cases h
  | cons y r ih =>
    rw [List.map_cons, List.sum_cons]
    rcases List.mem_cons.1 h with rfl | h
    · omega
    · have := ih h; omega
theorem longN_not (l : List ByteArray) : longN l ∉ l := by
  intro h
  have h1 := mem_sum h
  have h2 := longN_size l
  have h3 : strM (longN l) = (longN l).size + 1 := rfl
  omega

/-- The names of the schemas up to one, each with its fields. -/
def schN (s : QSource) (k : Nat) : List ByteArray := (s.schemas.take k).flatMap (fun y => y.name :: fieldNames y)
theorem schN_succ {s : QSource} {k : Nat} {y : QSchema} (hy : s.schemas[k]? = some y) : schN s (k + 1) = schN s k ++ [y.name] ++ fieldNames y := by
  unfold schN
  rw [take_snoc hy, List.flatMap_append]
  simp
def missNames (s : QSource) : List ByteArray := s.issuers ++ unitNames s ++ schN s s.schemas.length ++ purposeNames s
def longP (s : QSource) : ByteArray := longN (missNames s)
theorem schN_pre {s : QSource} : ∀ (m k : Nat), k + m = s.schemas.length → schN s k <+: schN s s.schemas.length
  | 0, k, h => by rw [← h]; exact List.prefix_refl _
  | m + 1, k, h => by
    refine List.IsPrefix.trans ?_ (schN_pre m (k + 1) (by omega))
    rw [schN_succ (List.getElem?_eq_getElem (show k < s.schemas.length by omega)), List.append_assoc]
    exact List.prefix_append _ _
theorem sum_flat (l : List QSchema) : ((l.flatMap (fun y => y.name :: fieldNames y)).map strM).sum = (l.map schemaM).sum := by
  induction l with
  | nil => rfl
  | cons y r ih =>
    rw [List.flatMap_cons, List.map_append, List.sum_append, ih, List.map_cons, List.sum_cons, List.map_cons, List.sum_cons]
    unfold schemaM fieldNames
    rw [List.map_map]
    rfl
theorem longP_size (s : QSource) : (longP s).size = 1 + sourceM s := by
  unfold longP
  rw [longN_size]
  unfold missNames sourceM schN
  rw [List.take_length]
  simp only [List.map_append, List.sum_append, sum_flat]
  unfold unitNames purposeNames
  rw [List.map_map, List.map_map]
  have h1 : (strM ∘ fun x : QUnit => x.name) = unitM := rfl
  have h2 : (strM ∘ fun x : QPurpose => x.name) = purposeM := rfl
  rw [h1, h2, ← Nat.add_assoc, ← Nat.add_assoc]
  try omega

theorem long_pre {s : QSource} (hcnt : sourceM s ≤ 1048576) {l : List ByteArray} (h : l <+: missNames s) : (longN l).size ≤ 1048577 := by
  have := longN_pre h
  have h2 := longP_size s
  unfold longP at h2
  omega
theorem pre_iss {s : QSource} {k : Nat} : [] ++ s.issuers.take k <+: missNames s := by
  unfold missNames
  rw [List.nil_append, List.append_assoc, List.append_assoc]
  exact (List.take_prefix _ _).trans (List.prefix_append _ _)
theorem pre_unit {s : QSource} {k : Nat} : s.issuers ++ (unitNames s).take k <+: missNames s := by
  unfold missNames
  rw [List.append_assoc, List.append_assoc, List.prefix_append_right_inj]
  exact (List.take_prefix _ _).trans (List.prefix_append _ _)
theorem pre_sch {s : QSource} {k : Nat} {l : List ByteArray} (hk : k ≤ s.schemas.length) (h : l <+: schN s k) : s.issuers ++ unitNames s ++ l <+: missNames s := by
  unfold missNames
  rw [List.append_assoc (s.issuers ++ unitNames s), List.prefix_append_right_inj]
  exact h.trans ((schN_pre (s.schemas.length - k) k (by omega)).trans (List.prefix_append _ _))
theorem pre_name {s : QSource} {k : Nat} {y : QSchema} (hy : s.schemas[k]? = some y) : s.issuers ++ unitNames s ++ schN s k ++ [y.name] <+: missNames s := by
  rw [List.append_assoc (s.issuers ++ unitNames s)]
  refine pre_sch (k := k + 1) (List.getElem?_eq_some_iff.1 hy).1 ?_
  rw [schN_succ hy]
  exact List.prefix_append _ _
theorem pre_field {s : QSource} {k j : Nat} {y : QSchema} (hy : s.schemas[k]? = some y) : (s.issuers ++ unitNames s ++ schN s k ++ [y.name]) ++ (fieldNames y).take j <+: missNames s := by
  rw [List.append_assoc (s.issuers ++ unitNames s), List.append_assoc (s.issuers ++ unitNames s)]
  refine pre_sch (k := k + 1) (List.getElem?_eq_some_iff.1 hy).1 ?_
  rw [schN_succ hy, List.prefix_append_right_inj]
  exact List.take_prefix _ _
theorem pre_purp {s : QSource} {k : Nat} : (s.issuers ++ unitNames s ++ schN s s.schemas.length) ++ (purposeNames s).take k <+: missNames s := by
  unfold missNames
  rw [List.prefix_append_right_inj]
  exact List.take_prefix _ _
/-- One more name. -/
theorem long_at {B N : List ByteArray} {k : Nat} {x : ByteArray} (hx : N[k]? = some x) : longN (B ++ N.take (k + 1)) = longN (B ++ N.take k) ++ (x ++ nStr) := by
  rw [take_snoc hx, ← List.append_assoc, longN_snoc]
theorem long_ok {s : QSource} (hcnt : sourceM s ≤ 1048576) {B : List ByteArray} {x : ByteArray} (hp : B ++ [x] <+: missNames s) : x.size + (ByteArray.mk #[110]).size ≤ 9223372036854775807 ∧ (longN B).size + (x ++ ByteArray.mk #[110]).size ≤ 9223372036854775807 := by
  have h := long_pre hcnt hp
  rw [longN_snoc, ByteArray.size_append, ByteArray.size_append] at h
  rw [ByteArray.size_append]
  have h1 : nStr.size = 1 := rfl
  have h2 : (ByteArray.mk #[110]).size = 1 := rfl
  omega

/-- A name that is none of a source's. -/
structure NotIn (s : QSource) (L : ByteArray) : Prop where
  iss : L ∉ s.issuers
  unit : L ∉ unitNames s
  sch : L ∉ schemaNames s
  purp : L ∉ purposeNames s
  ne : L ≠ noStr
theorem long_notIn (s : QSource) : NotIn s (longP s) := by
  have h : longP s ∉ missNames s := longN_not _
  unfold missNames at h
  simp only [List.mem_append, not_or] at h
  refine ⟨h.1.1.1, h.1.1.2, fun hm => h.1.2 ?_, h.2, fun e => ?_⟩
  · unfold schN
    rw [List.take_length, List.mem_flatMap]
    unfold schemaNames at hm
    obtain ⟨y, hy, e⟩ := List.mem_map.1 hm
    exact ⟨y, hy, by rw [← e]; exact List.mem_cons_self⟩
  · have h2 := longP_size s
    rw [e] at h2
    have : noStr.size = 0 := rfl
    omega

section
variable {α β : Type} {f : α → Option β}
theorem allTo_fit {f : List β → α → Option β} (l : List α) (r : List α) : ∀ k, k ≤ l.length → allTo f (l ++ r) k = allTo f l k
  | 0, _ => rfl
  | k + 1, hk => by
    rw [allTo, allTo, allTo_fit l r k (by omega), List.getElem?_append_left (by omega)]
theorem allP_last {f : List β → α → Option β} {l : List α} {x : α} (h : ∀ out, f out x = none) : allP f (l ++ [x]) = none := by
  refine allP_none (k := l.length + 1) (by simp) ?_
  have hx : (l ++ [x])[l.length]? = some x := by simp
  cases ho : allTo f (l ++ [x]) l.length with
  | none => exact allTo_none ho 1
  | some out => exact allTo_no ho hx (h out)
end
theorem numP_none {s : QSource} (h : unitsP (unitNames s) s.units = none ∨ allP (fun _ => schemaP s) s.schemas = none ∨ allP (fun _ => ruleP s) s.rules = none ∨ allP (fun _ => convertP s) s.converts = none ∨ allP (fun _ => purposeP s) s.purposes = none) : numP s = none := by
  unfold numP
  rcases h with h | h | h | h | h <;> rw [h] <;> repeat (first | rfl | split)
theorem refuse_name {s : QSource} (ht : sourceTwice s = false) (hn : numP s = none) : resolveP s = (110, noSource) := by
  unfold resolveP
  rw [if_neg (by rw [ht]; simp), hn]

theorem twice_parts {s : QSource} (h : sourceTwice s = false) : twiceB s.issuers = false ∧ twiceB (unitNames s) = false ∧ twiceB (schemaNames s) = false ∧ twiceB (purposeNames s) = false ∧ s.schemas.any (fun x => twiceB (fieldNames x)) = false ∧ s.rules.any (fun x => twiceB (fromNames x)) = false := by
  unfold sourceTwice at h
  simpa only [Bool.or_eq_false_iff, and_assoc] using h
theorem twice_of {s : QSource} (h1 : twiceB s.issuers = false) (h2 : twiceB (unitNames s) = false) (h3 : twiceB (schemaNames s) = false) (h4 : twiceB (purposeNames s) = false) (h5 : s.schemas.any (fun x => twiceB (fieldNames x)) = false) (h6 : s.rules.any (fun x => twiceB (fromNames x)) = false) : sourceTwice s = false := by
  unfold sourceTwice
  rw [h1, h2, h3, h4, h5, h6]
  rfl
theorem twice_snoc {l : List ByteArray} {x : ByteArray} (h : twiceB l = false) (hx : x ∉ l) : twiceB (l ++ [x]) = false := by
  rw [twiceB_iff] at h ⊢
  rw [List.nodup_append]
  refine ⟨h, by simp, fun a ha b hb e => ?_⟩
  rw [List.mem_singleton.1 hb] at e
  exact hx (e ▸ ha)
theorem any_snoc {α : Type} {p : α → Bool} {l : List α} {x : α} (h : l.any p = false) (hx : p x = false) : (l ++ [x]).any p = false := by
  rw [List.any_append, h]
  simp [hx]

theorem miss0 {s : QSource} {L : ByteArray} (ht : sourceTwice s = false) (hn : NotIn s L) : resolveP { s with schemas := s.schemas ++ [⟨L, L, 0, 0, [], []⟩] } = (110, noSource) := by
  obtain ⟨h1, h2, h3, h4, h5, h6⟩ := twice_parts ht
  refine refuse_name (twice_of h1 h2 ?_ h4 (any_snoc h5 rfl) h6) (numP_none (.inr (.inl (allP_last fun _ => ?_))))
  · have e : schemaNames { s with schemas := s.schemas ++ [⟨L, L, 0, 0, [], []⟩] } = schemaNames s ++ [L] := by unfold schemaNames; rw [List.map_append]; rfl
    rw [e]
    exact twice_snoc h3 hn.sch
  · unfold schemaP
    rw [idx_none.2 hn.iss]
theorem miss1 {s : QSource} {L : ByteArray} (ht : sourceTwice s = false) (hn : NotIn s L) : resolveP { s with units := s.units ++ [⟨L, L, 2, 0, 0⟩] } = (110, noSource) := by
  obtain ⟨h1, h2, h3, h4, h5, h6⟩ := twice_parts ht
  have e : unitNames { s with units := s.units ++ [⟨L, L, 2, 0, 0⟩] } = unitNames s ++ [L] := by unfold unitNames; rw [List.map_append]; rfl
  refine refuse_name (twice_of h1 ?_ h3 h4 h5 h6) (numP_none (.inl ?_))
  · rw [e]
    exact twice_snoc h2 hn.unit
  · rw [e]
    refine unitsP_none (k := s.units.length + 1) (by simp) ?_
    cases ho : unitsTo (unitNames s ++ [L]) (s.units ++ [⟨L, L, 2, 0, 0⟩]) s.units.length with
    | none => exact unitsTo_none ho 1
    | some out =>
      have hl := unitsTo_len (by simp) ho
      rw [unitsTo_succ (u := ⟨L, L, 2, 0, 0⟩) ho (by simp)]
      unfold unitStep
      rw [if_neg hn.ne]
      have hi : idx (unitNames s ++ [L]) L = some s.units.length := by
        rw [idx_snoc, idx_none.2 hn.unit, if_pos rfl]
        unfold unitNames
        simp
      simp only [hi]
      rw [List.getElem?_eq_none (by omega)]
theorem miss2 {s : QSource} {L : ByteArray} (ht : sourceTwice s = false) (hn : NotIn s L) : resolveP { s with rules := s.rules ++ [⟨L, 0, [], [], []⟩] } = (110, noSource) := by
  obtain ⟨h1, h2, h3, h4, h5, h6⟩ := twice_parts ht
  refine refuse_name (twice_of h1 h2 h3 h4 h5 (any_snoc h6 rfl)) (numP_none (.inr (.inr (.inl (allP_last fun _ => ?_)))))
  unfold ruleP
  have hi : idx (schemaNames { s with rules := s.rules ++ [⟨L, 0, [], [], []⟩] }) L = none := idx_none.2 hn.sch
  simp only [hi]
theorem miss3 {s : QSource} {L : ByteArray} (ht : sourceTwice s = false) (hn : NotIn s L) : resolveP { s with converts := s.converts ++ [⟨L, L, 0, 0, []⟩] } = (110, noSource) := by
  obtain ⟨h1, h2, h3, h4, h5, h6⟩ := twice_parts ht
  refine refuse_name (twice_of h1 h2 h3 h4 h5 h6) (numP_none (.inr (.inr (.inr (.inl (allP_last fun _ => ?_))))))
  unfold convertP
  have hi : idx (schemaNames { s with converts := s.converts ++ [⟨L, L, 0, 0, []⟩] }) L = none := idx_none.2 hn.sch
  simp only [hi]
theorem miss4 {s : QSource} {L : ByteArray} (ht : sourceTwice s = false) (hn : NotIn s L) : resolveP { s with purposes := s.purposes ++ [⟨L, [⟨L, noStr, 0, 0⟩], 0⟩] } = (110, noSource) := by
  obtain ⟨h1, h2, h3, h4, h5, h6⟩ := twice_parts ht
  refine refuse_name (twice_of h1 h2 h3 ?_ h5 h6) (numP_none (.inr (.inr (.inr (.inr (allP_last fun _ => ?_))))))
  · have e : purposeNames { s with purposes := s.purposes ++ [⟨L, [⟨L, noStr, 0, 0⟩], 0⟩] } = purposeNames s ++ [L] := by unfold purposeNames; rw [List.map_append]; rfl
    rw [e]
    exact twice_snoc h4 hn.purp
  · unfold purposeP
    have hi : idx (schemaNames { s with purposes := s.purposes ++ [⟨L, [⟨L, noStr, 0, 0⟩], 0⟩] }) L = none := idx_none.2 hn.sch
    have hr : ∀ out : List QRef, (fun _ : List QRef => refStep { s with purposes := s.purposes ++ [⟨L, [⟨L, noStr, 0, 0⟩], 0⟩] }) out ⟨L, noStr, 0, 0⟩ = none := fun _ => by
      unfold refStep
      simp only [hi]
    have := allP_last (l := []) hr
    rw [List.nil_append] at this
    rw [this]
    rfl

end Go.Proofs.Ytkkkephjljiplaa
