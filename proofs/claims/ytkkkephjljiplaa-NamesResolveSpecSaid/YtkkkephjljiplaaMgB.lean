/- Plain: what the reference computes, also where a name means nothing; where all names mean something it is what Resolve computes. -/
import Derived.Test.YtkkkephjljiplaaNmResP
import Derived.Test.YtkkkephjljiplaaNmFirst
import Derived.Test.YtkkkephjljiplaaMgA
namespace Go.Proofs.Ytkkkephjljiplaa
open Go.RowKit

/-- A step that can fail, as a test and a value. -/
theorem allTo_test {α β : Type} {f : α → Option β} {ok : α → Bool} {q : α → β} (h : ∀ x, f x = if ok x = true then some (q x) else none) (l : List α) : ∀ k, k ≤ l.length → allTo (fun _ => f) l k = if (l.take k).all ok = true then some ((l.take k).map q) else none
  | 0, _ => rfl
  | k + 1, hk => by
    have ih := allTo_test h l k (by omega)
    have hx : l[k]? = some l[k] := List.getElem?_eq_getElem hk
    rw [allTo, ih, take_snoc hx, List.all_append, List.map_append]
    cases h1 : (l.take k).all ok with
    | false => simp
    | true =>
      simp only [if_true, hx, h]
      cases h2 : ok l[k] <;> simp [h2]
theorem allP_test {α β : Type} {f : α → Option β} {ok : α → Bool} {q : α → β} (h : ∀ x, f x = if ok x = true then some (q x) else none) (l : List α) : allP (fun _ => f) l = if l.all ok = true then some (l.map q) else none := by
  have := allTo_test h l l.length (Nat.le_refl _)
  rw [List.take_length] at this
  exact this
theorem idxO_some {l : List ByteArray} {x : ByteArray} {n : Nat} (h : idx l x = some n) : idxO l x = (n : Int) := by unfold idxO; rw [h]
theorem idxO_none {l : List ByteArray} {x : ByteArray} (h : idx l x = none) : idxO l x = -1 := by unfold idxO; rw [h]

def refQ (s : QSource) (m : QRef) : QRef := { m with schema := idxO (schemaNames s) m.name, field := idxO (fieldNo s (idxO (schemaNames s) m.name)) m.path }
def refOk (s : QSource) (m : QRef) : Bool := decide (0 ≤ (refQ s m).schema) && decide (0 ≤ (refQ s m).field)
theorem fieldNo_at {s : QSource} {a : Nat} {x : QSchema} (h : s.schemas[a]? = some x) : fieldNo s (a : Int) = fieldNames x := by
  unfold fieldNo
  rw [if_pos (by omega), Int.toNat_natCast, h]
  rfl
theorem schema_at_idx {s : QSource} {nm : ByteArray} {a : Nat} (h : idx (schemaNames s) nm = some a) : ∃ x, s.schemas[a]? = some x := by
  have := idx_lt h
  unfold schemaNames at this
  rw [List.length_map] at this
  exact ⟨_, List.getElem?_eq_getElem this⟩
theorem refStep_test (s : QSource) (m : QRef) : refStep s m = if refOk s m = true then some (refQ s m) else none := by
  unfold refStep refOk refQ
  cases h : idx (schemaNames s) m.name with
  | none => simp [idxO_none h]
  | some a =>
    obtain ⟨x, hx⟩ := schema_at_idx h
    simp only [idxO_some h, fieldNo_at hx, hx]
    cases h2 : idx (fieldNames x) m.path with
    | none => simp [idxO_none h2]
    | some f => simp [idxO_some h2]
def purposeQ (s : QSource) (p : QPurpose) : QPurpose := { p with may := p.may.map (refQ s) }
def purposeOk (s : QSource) (p : QPurpose) : Bool := p.may.all (refOk s)
theorem purposeP_test (s : QSource) (p : QPurpose) : purposeP s p = if purposeOk s p = true then some (purposeQ s p) else none := by
  unfold purposeP purposeOk purposeQ
  rw [allP_test (refStep_test s)]
  split <;> rfl

def moveQ (s : QSource) (a b : Int) (m : QMove) : QMove := { m with a := idxO (fieldNo s a) m.from_, b := idxO (fieldNo s b) m.to_ }
def moveOk (s : QSource) (a b : Int) (m : QMove) : Bool := decide (0 ≤ (moveQ s a b m).a) && decide (0 ≤ (moveQ s a b m).b)
theorem moveStep_test {s : QSource} {a b : Nat} {xa xb : QSchema} (ha : s.schemas[a]? = some xa) (hb : s.schemas[b]? = some xb) (m : QMove) : moveStep xa xb m = if moveOk s (a : Int) (b : Int) m = true then some (moveQ s (a : Int) (b : Int) m) else none := by
  unfold moveStep moveOk moveQ
  simp only [fieldNo_at ha, fieldNo_at hb]
  cases h1 : idx (fieldNames xa) m.from_ with
  | none => simp [idxO_none h1]
  | some i =>
    cases h2 : idx (fieldNames xb) m.to_ with
    | none => simp [idxO_none h2]
    | some j => simp [idxO_some h1, idxO_some h2]
def convertQ (s : QSource) (c : QConvert) : QConvert := { c with a := idxO (schemaNames s) c.from_, b := idxO (schemaNames s) c.to_, moves := c.moves.map (moveQ s (idxO (schemaNames s) c.from_) (idxO (schemaNames s) c.to_)) }
def convertOk (s : QSource) (c : QConvert) : Bool := decide (0 ≤ (convertQ s c).a) && decide (0 ≤ (convertQ s c).b) && c.moves.all (moveOk s (idxO (schemaNames s) c.from_) (idxO (schemaNames s) c.to_))
theorem convertP_test (s : QSource) (c : QConvert) : convertP s c = if convertOk s c = true then some (convertQ s c) else none := by
  unfold convertP convertOk convertQ
  cases h1 : idx (schemaNames s) c.from_ with
  | none => simp [idxO_none h1]
  | some a =>
    cases h2 : idx (schemaNames s) c.to_ with
    | none => simp [idxO_none h2]
    | some b =>
      obtain ⟨xa, ha⟩ := schema_at_idx h1
      obtain ⟨xb, hb⟩ := schema_at_idx h2
      simp only [ha, hb, idxO_some h1, idxO_some h2]
      rw [allP_test (moveStep_test ha hb)]
      cases h3 : c.moves.all (moveOk s (a : Int) (b : Int)) <;> simp

def fieldQ (s : QSource) (f : QField) : QField := { f with type := { f.type with unit := if f.type.kind = 1 ∧ f.type.of_ ≠ noStr then idxO (unitNames s) f.type.of_ else -1 } }
def fieldOk (s : QSource) (f : QField) : Bool := !decide (f.type.kind = 1 ∧ f.type.of_ ≠ noStr) || decide (0 ≤ (fieldQ s f).type.unit)
theorem fieldStep_test (s : QSource) (f : QField) : fieldStep s f = if fieldOk s f = true then some (fieldQ s f) else none := by
  unfold fieldStep fieldOk fieldQ
  by_cases h : f.type.kind = 1 ∧ f.type.of_ ≠ noStr
  · simp only [if_pos h]
    cases h1 : idx (unitNames s) f.type.of_ with
    | none => simp [idxO_none h1, h]
    | some i => simp [idxO_some h1]
  · simp [h]
theorem idxI_test (l : List ByteArray) (x : ByteArray) : idxI l x = if decide (0 ≤ idxO l x) = true then some (idxO l x) else none := by
  unfold idxI
  cases h : idx l x with
  | none => simp [idxO_none h]
  | some i => simp [idxO_some h]
def depQ (x : QSchema) (d : QDep) : QDep := { d with src := d.names.map (idxO (fieldNames x)), dst := idxO (fieldNames x) d.name }
def depOk (x : QSchema) (d : QDep) : Bool := d.names.all (fun n => decide (0 ≤ idxO (fieldNames x) n)) && decide (0 ≤ idxO (fieldNames x) d.name)
theorem depStep_test (x : QSchema) (d : QDep) : depStep x d = if depOk x d = true then some (depQ x d) else none := by
  unfold depStep depOk depQ
  rw [allP_test (idxI_test (fieldNames x)), idxI_test]
  cases h1 : d.names.all (fun n => decide (0 ≤ idxO (fieldNames x) n)) <;> cases h2 : decide (0 ≤ idxO (fieldNames x) d.name) <;> simp
def schemaQ (s : QSource) (x : QSchema) : QSchema := { x with issuer := idxO s.issuers x.by_, fields := x.fields.map (fieldQ s), deps := x.deps.map (depQ x) }
def schemaOk (s : QSource) (x : QSchema) : Bool := decide (0 ≤ idxO s.issuers x.by_) && x.fields.all (fieldOk s) && x.deps.all (depOk x)
theorem schemaP_test (s : QSource) (x : QSchema) : schemaP s x = if schemaOk s x = true then some (schemaQ s x) else none := by
  unfold schemaP schemaOk schemaQ
  cases h1 : idx s.issuers x.by_ with
  | none => simp [idxO_none h1]
  | some a =>
    simp only [idxO_some h1]
    rw [allP_test (fieldStep_test s), allP_test (depStep_test x)]
    cases h2 : x.fields.all (fieldOk s) <;> cases h3 : x.deps.all (depOk x) <;> simp

end Go.Proofs.Ytkkkephjljiplaa

namespace Go.Proofs.Ytkkkephjljiplaa
open Go.RowKit

def namesF (l : List QFrom) : List ByteArray := l.map (·.name)
def schemaF (fo : List QFrom) (n : Nat) : Int := match fo[n]? with
  | some f => f.schema
  | none => 0
def termQ (s : QSource) (fo : List QFrom) (t : QTerm) : QTerm :=
  if t.name = noStr then { t with var := -1, field := 0 }
  else match idx (namesF fo) t.name with
    | none => t
    | some n => { t with var := (n : Int), field := idxO (fieldNo s (schemaF fo n)) t.path }
def termOk (s : QSource) (fo : List QFrom) (t : QTerm) : Bool :=
  if t.name = noStr then true
  else match idx (namesF fo) t.name with
    | none => false
    | some n => decide (0 ≤ idxO (fieldNo s (schemaF fo n)) t.path)
theorem termQ_form (s : QSource) (fo : List QFrom) (t : QTerm) : termQ s fo t = { t with var := (termQ s fo t).var, field := (termQ s fo t).field } := by
  unfold termQ
  split
  · rfl
  · split <;> rfl
theorem varsN_idx (l : List QFrom) : ∀ k, k ≤ l.length → ((namesF l).take k).Nodup → ∀ x, getM (varsN l k) x = (idx ((namesF l).take k) x).map (fun n : Nat => (n : Int))
  | 0, _, _, x => by simp [varsN, getM_nil, idx_nil]
  | k + 1, hk, hn, x => by
    have hl : l[k]? = some l[k] := List.getElem?_eq_getElem hk
    have hm : (namesF l)[k]? = some l[k].name := by unfold namesF; rw [List.getElem?_map, hl]; rfl
    rw [take_snoc hm, List.nodup_append] at hn
    have ih := varsN_idx l k (by omega) hn.1 x
    have hlen : ((namesF l).take k).length = k := by unfold namesF; simp; omega
    rw [varsN, hl]
    simp only [getM_put]
    rw [take_snoc hm, idx_snoc, ih, hlen]
    by_cases h : x = l[k].name
    · rw [if_pos h, if_pos h.symm]
      have : idx ((namesF l).take k) x = none := idx_none.2 (fun hx => hn.2.2 x hx l[k].name (by simp) h)
      rw [this]
      rfl
    · rw [if_neg h, if_neg (fun e => h e.symm)]
      cases idx ((namesF l).take k) x <;> rfl
theorem varsOf_idx {l : List QFrom} (hn : (namesF l).Nodup) (x : ByteArray) : getM (varsOf l) x = (idx (namesF l) x).map (fun n : Nat => (n : Int)) := by
  have hl : (namesF l).take l.length = namesF l := List.take_of_length_le (by unfold namesF; simp)
  have := varsN_idx l l.length (Nat.le_refl _) (by rw [hl]; exact hn) x
  rwa [hl] at this
theorem termP_test {s : QSource} {fo : List QFrom} (hn : (namesF fo).Nodup) (hf : FromOk s fo) (t : QTerm) : termP s (varsOf fo) fo t = if termOk s fo t = true then some (termQ s fo t) else none := by
  unfold termP termOk termQ
  by_cases h : t.name = noStr
  · simp [h]
  · simp only [if_neg h, varsOf_idx hn]
    cases hi : idx (namesF fo) t.name with
    | none => simp
    | some n =>
      have hlt := idx_lt hi
      unfold namesF at hlt
      rw [List.length_map] at hlt
      have hfo : fo[n]? = some fo[n] := List.getElem?_eq_getElem hlt
      obtain ⟨a, x, ha, hx⟩ := hf fo[n] (List.getElem_mem hlt)
      have hs : schemaF fo n = (a : Int) := by unfold schemaF; rw [hfo]; exact ha
      simp only [Option.map_some, Int.toNat_natCast, hfo, ha, hx, hs, fieldNo_at hx]
      cases h2 : idx (fieldNames x) t.path with
      | none => simp [idxO_none h2]
      | some f => simp [idxO_some h2]

def fromQ (s : QSource) (out : List QFrom) (f : QFrom) : QFrom := { f with schema := idxO (schemaNames s) f.kind, of_ := termQ s out f.of_ }
def fromsQ (s : QSource) (l : List QFrom) : Nat → List QFrom
  | 0 => []
  | k + 1 => match l[k]? with
    | some f => fromsQ s l k ++ [fromQ s (fromsQ s l k) f]
    | none => fromsQ s l k
def fromOk (s : QSource) (out : List QFrom) (f : QFrom) : Bool := decide (0 ≤ idxO (schemaNames s) f.kind) && termOk s out f.of_
def fromsOk (s : QSource) (l : List QFrom) : Nat → Bool
  | 0 => true
  | k + 1 => match l[k]? with
    | some f => fromsOk s l k && fromOk s (fromsQ s l k) f
    | none => fromsOk s l k
theorem fromsQ_succ {s : QSource} {l : List QFrom} {k : Nat} {f : QFrom} (h : l[k]? = some f) : fromsQ s l (k + 1) = fromsQ s l k ++ [fromQ s (fromsQ s l k) f] := by rw [fromsQ, h]
theorem fromsOk_succ {s : QSource} {l : List QFrom} {k : Nat} {f : QFrom} (h : l[k]? = some f) : fromsOk s l (k + 1) = (fromsOk s l k && fromOk s (fromsQ s l k) f) := by rw [fromsOk, h]
theorem fromsQ_len (s : QSource) (l : List QFrom) : ∀ k, k ≤ l.length → (fromsQ s l k).length = k
  | 0, _ => rfl
  | k + 1, hk => by rw [fromsQ_succ (List.getElem?_eq_getElem hk), List.length_append, fromsQ_len s l k (by omega)]; rfl
theorem fromsQ_names (s : QSource) (l : List QFrom) : ∀ k, k ≤ l.length → namesF (fromsQ s l k) = (namesF l).take k
  | 0, _ => rfl
  | k + 1, hk => by
    have hl : l[k]? = some l[k] := List.getElem?_eq_getElem hk
    have hm : (namesF l)[k]? = some l[k].name := by unfold namesF; rw [List.getElem?_map, hl]; rfl
    rw [fromsQ_succ hl, take_snoc hm, ← fromsQ_names s l k (by omega)]
    unfold namesF
    rw [List.map_append]
    rfl
theorem froms_test {s : QSource} {l : List QFrom} (hn : (namesF l).Nodup) : ∀ k, k ≤ l.length → allTo (fromStep s) l k = (if fromsOk s l k = true then some (fromsQ s l k) else none) ∧ (fromsOk s l k = true → FromOk s (fromsQ s l k))
  | 0, _ => ⟨rfl, fun _ f h => by simp [fromsQ] at h⟩
  | k + 1, hk => by
    obtain ⟨ih, ihf⟩ := froms_test hn k (by omega)
    have hl : l[k]? = some l[k] := List.getElem?_eq_getElem hk
    rw [allTo, ih, fromsQ_succ hl, fromsOk_succ hl, hl]
    cases h1 : fromsOk s l k with
    | false => simp
    | true =>
      have hf := ihf h1
      have hnd : (namesF (fromsQ s l k)).Nodup := by rw [fromsQ_names s l k (by omega)]; exact hn.sublist (List.take_sublist _ _)
      simp only [if_true, Bool.true_and]
      unfold fromStep fromOk fromQ
      cases h2 : idx (schemaNames s) l[k].kind with
      | none => simp [idxO_none h2]
      | some a =>
        obtain ⟨x, hx⟩ := schema_at_idx h2
        simp only [idxO_some h2, termP_test hnd hf]
        cases h3 : termOk s (fromsQ s l k) l[k].of_ with
        | false => simp
        | true =>
          refine ⟨by simp, fun _ f hm => ?_⟩
          rcases List.mem_append.1 hm with hm | hm
          · exact hf f hm
          · rw [List.mem_singleton] at hm
            subst hm
            exact ⟨a, x, rfl, hx⟩

def atomQ (s : QSource) (fo : List QFrom) (a : QAtom) : QAtom := { a with a := termQ s fo a.a, b := termQ s fo a.b }
def atomOk (s : QSource) (fo : List QFrom) (a : QAtom) : Bool := termOk s fo a.a && termOk s fo a.b
def setQ (s : QSource) (sc : Int) (fo : List QFrom) (c : QSet) : QSet := { c with field := idxO (fieldNo s sc) c.path, term := termQ s fo c.term }
def setOk (s : QSource) (sc : Int) (fo : List QFrom) (c : QSet) : Bool := termOk s fo c.term && decide (0 ≤ idxO (fieldNo s sc) c.path)
theorem atomStep_test {s : QSource} {fo : List QFrom} (hn : (namesF fo).Nodup) (hf : FromOk s fo) (a : QAtom) : atomStep s fo a = if atomOk s fo a = true then some (atomQ s fo a) else none := by
  unfold atomStep atomOk atomQ
  rw [termP_test hn hf, termP_test hn hf]
  cases termOk s fo a.a <;> cases termOk s fo a.b <;> simp
theorem setStep_test {s : QSource} {fo : List QFrom} {a : Nat} {xa : QSchema} (hx : s.schemas[a]? = some xa) (hn : (namesF fo).Nodup) (hf : FromOk s fo) (c : QSet) : setStep s xa fo c = if setOk s (a : Int) fo c = true then some (setQ s (a : Int) fo c) else none := by
  unfold setStep setOk setQ
  rw [termP_test hn hf, fieldNo_at hx]
  cases h1 : idx (fieldNames xa) c.path with
  | none => simp [idxO_none h1]
  | some n => cases h2 : termOk s fo c.term <;> simp [idxO_some h1]
def ruleFo (s : QSource) (r : QRule) : List QFrom := fromsQ s r.froms r.froms.length
def ruleQ (s : QSource) (r : QRule) : QRule := { r with schema := idxO (schemaNames s) r.head, froms := ruleFo s r, where_ := r.where_.map (atomQ s (ruleFo s r)), sets := r.sets.map (setQ s (idxO (schemaNames s) r.head) (ruleFo s r)) }
def ruleOk (s : QSource) (r : QRule) : Bool := decide (0 ≤ idxO (schemaNames s) r.head) && fromsOk s r.froms r.froms.length && r.where_.all (atomOk s (ruleFo s r)) && r.sets.all (setOk s (idxO (schemaNames s) r.head) (ruleFo s r))
theorem ruleP_test {s : QSource} {r : QRule} (ht : twiceB (fromNames r) = false) : ruleP s r = if ruleOk s r = true then some (ruleQ s r) else none := by
  have hn : (namesF r.froms).Nodup := (twiceB_iff _).1 ht
  unfold ruleP ruleOk ruleQ
  cases h1 : idx (schemaNames s) r.head with
  | none => simp [idxO_none h1]
  | some a =>
    obtain ⟨xa, hx⟩ := schema_at_idx h1
    obtain ⟨hfr, hfo⟩ := froms_test (s := s) hn r.froms.length (Nat.le_refl _)
    simp only [idxO_some h1]
    rw [show allP (fromStep s) r.froms = _ from hfr]
    cases h2 : fromsOk s r.froms r.froms.length with
    | false => simp
    | true =>
      have hf := hfo h2
      have hnd : (namesF (ruleFo s r)).Nodup := by unfold ruleFo; rw [fromsQ_names s _ _ (Nat.le_refl _)]; exact hn.sublist (List.take_sublist _ _)
      simp only [if_true]
      rw [show fromsQ s r.froms r.froms.length = ruleFo s r from rfl] at hf ⊢
      rw [allP_test (atomStep_test hnd hf)]
      cases h3 : r.where_.all (atomOk s (ruleFo s r)) with
      | false => simp
      | true =>
        simp only [if_true, hx]
        rw [allP_test (setStep_test hx hnd hf)]
        cases h4 : r.sets.all (setOk s (a : Int) (ruleFo s r)) with
        | false => simp
        | true => simp

/-- What the reference returns. -/
def numOk (s : QSource) : Bool := (unitsP (unitNames s) s.units).isSome && s.schemas.all (schemaOk s) && s.rules.all (ruleOk s) && s.converts.all (convertOk s) && s.purposes.all (purposeOk s)
def unitsQ (s : QSource) : List QUnit := (unitsP (unitNames s) s.units).getD []
def numQ (s : QSource) : QSource := { s with units := unitsQ s, schemas := s.schemas.map (schemaQ s), rules := s.rules.map (ruleQ s), converts := s.converts.map (convertQ s), purposes := s.purposes.map (purposeQ s) }
theorem allTo_rules {s : QSource} (l : List QRule) (h : ∀ r ∈ l, twiceB (fromNames r) = false) : ∀ k, k ≤ l.length → allTo (fun _ => ruleP s) l k = if (l.take k).all (ruleOk s) = true then some ((l.take k).map (ruleQ s)) else none
  | 0, _ => rfl
  | k + 1, hk => by
    have ih := allTo_rules (s := s) l h k (by omega)
    have hx : l[k]? = some l[k] := List.getElem?_eq_getElem hk
    rw [allTo, ih, take_snoc hx, List.all_append, List.map_append]
    cases h1 : (l.take k).all (ruleOk s) with
    | false => simp
    | true =>
      simp only [if_true, hx, ruleP_test (h _ (List.getElem_mem hk))]
      cases h2 : ruleOk s l[k] <;> simp [h2]
theorem numP_test {s : QSource} (ht : sourceTwice s = false) : numP s = if numOk s = true then some (numQ s) else none := by
  have hr : ∀ r ∈ s.rules, twiceB (fromNames r) = false := by
    unfold sourceTwice at ht
    simp only [Bool.or_eq_false_iff] at ht
    intro r hm
    have h2 := ht.2
    rw [List.any_eq_false] at h2
    simpa using h2 r hm
  unfold numP numOk numQ unitsQ
  have er := allTo_rules (s := s) s.rules hr s.rules.length (Nat.le_refl _)
  rw [List.take_length] at er
  rw [show allP (fun _ => ruleP s) s.rules = _ from er, allP_test (schemaP_test s), allP_test (convertP_test s), allP_test (purposeP_test s)]
  cases unitsP (unitNames s) s.units with
  | none => simp
  | some us =>
    cases h1 : s.schemas.all (schemaOk s) with
    | false => simp
    | true =>
      cases h2 : s.rules.all (ruleOk s) with
      | false => simp
      | true =>
        cases h3 : s.converts.all (convertOk s) with
        | false => simp
        | true => cases h4 : s.purposes.all (purposeOk s) <;> simp
theorem resolveP_test (s : QSource) : resolveP s = if sourceTwice s = true then (111, noSource) else if numOk s = true then (0, numQ s) else (110, noSource) := by
  unfold resolveP
  cases ht : sourceTwice s with
  | true => simp
  | false =>
    rw [numP_test ht]
    cases numOk s <;> simp

end Go.Proofs.Ytkkkephjljiplaa
