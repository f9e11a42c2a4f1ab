/- Plain: a source without the numbers of names; Resolve does not look at those numbers. -/
import Derived.Test.YtkkkephjljiplaaNmScP
namespace Go.Proofs.Ytkkkephjljiplaa
open Go.RowKit

def bareUnit (u : QUnit) : QUnit := { u with base := 0, scale := 0 }
def bareTerm (t : QTerm) : QTerm := { t with var := 0, field := 0 }
def bareFrom (f : QFrom) : QFrom := { f with schema := 0, of_ := bareTerm f.of_ }
def bareAtom (a : QAtom) : QAtom := { a with a := bareTerm a.a, b := bareTerm a.b }
def bareSet (c : QSet) : QSet := { c with field := 0, term := bareTerm c.term }
def bareField (f : QField) : QField := { f with type := { f.type with unit := 0 } }
def bareDep (d : QDep) : QDep := { d with src := [], dst := 0 }
def bareSchema (x : QSchema) : QSchema := { x with issuer := 0, fields := x.fields.map bareField, deps := x.deps.map bareDep }
def bareRule (r : QRule) : QRule := { r with schema := 0, froms := r.froms.map bareFrom, where_ := r.where_.map bareAtom, sets := r.sets.map bareSet }
def bareMove (m : QMove) : QMove := { m with a := 0, b := 0 }
def bareConvert (c : QConvert) : QConvert := { c with a := 0, b := 0, moves := c.moves.map bareMove }
def bareRef (m : QRef) : QRef := { m with schema := 0, field := 0 }
def barePurpose (p : QPurpose) : QPurpose := { p with may := p.may.map bareRef }
def bareP (s : QSource) : QSource := { s with units := s.units.map bareUnit, schemas := s.schemas.map bareSchema, rules := s.rules.map bareRule, converts := s.converts.map bareConvert, purposes := s.purposes.map barePurpose }

/-- A step that does not look at what is taken away. -/
theorem allTo_map {α β : Type} {f g : List β → α → Option β} {h : α → α} (hf : ∀ out x, f out (h x) = g out x) (l : List α) : ∀ k, allTo f (l.map h) k = allTo g l k
  | 0 => rfl
  | k + 1 => by
    rw [allTo, allTo, allTo_map hf l k, List.getElem?_map]
    cases allTo g l k with
    | none => rfl
    | some out =>
      cases l[k]? with
      | none => rfl
      | some x => simp only [Option.map_some, hf]
theorem allP_map {α β : Type} {f g : List β → α → Option β} {h : α → α} (hf : ∀ out x, f out (h x) = g out x) (l : List α) : allP f (l.map h) = allP g l := by
  unfold allP
  rw [List.length_map]
  exact allTo_map hf l _
/-- What a step leaves is, without numbers, what it was given. -/
theorem allTo_bare {α : Type} {f : List α → α → Option α} {h : α → α} (hf : ∀ out x y, f out x = some y → h y = h x) (l : List α) : ∀ k out, k ≤ l.length → allTo f l k = some out → out.map h = (l.take k).map h
  | 0, out, _, e => by rw [allTo, Option.some.injEq] at e; subst e; simp
  | k + 1, out, hk, e => by
    have hu : l[k]? = some l[k] := List.getElem?_eq_getElem hk
    cases ho : allTo f l k with
    | none => rw [allTo, ho] at e; cases e
    | some o =>
      cases hy : f o l[k] with
      | none => rw [allTo_no ho hu hy] at e; cases e
      | some y =>
        rw [allTo_yes ho hu hy, Option.some.injEq] at e
        subst e
        rw [List.map_append, allTo_bare hf l k o (by omega) ho, List.take_add_one, hu, List.map_append]
        simp [hf o _ y hy]
theorem allP_bare {α : Type} {f : List α → α → Option α} {h : α → α} (hf : ∀ out x y, f out x = some y → h y = h x) {l out : List α} (e : allP f l = some out) : out.map h = l.map h := by
  have := allTo_bare hf l l.length out (Nat.le_refl _) e
  rwa [List.take_length] at this

theorem names_unit (s : QSource) : unitNames (bareP s) = unitNames s := by
  unfold unitNames bareP
  simp only [List.map_map]
  rfl
theorem names_schema (s : QSource) : schemaNames (bareP s) = schemaNames s := by
  unfold schemaNames bareP
  simp only [List.map_map]
  rfl
theorem names_purpose (s : QSource) : purposeNames (bareP s) = purposeNames s := by
  unfold purposeNames bareP
  simp only [List.map_map]
  rfl
theorem names_field (x : QSchema) : fieldNames (bareSchema x) = fieldNames x := by
  unfold fieldNames bareSchema
  simp only [List.map_map]
  rfl
theorem names_from (x : QRule) : fromNames (bareRule x) = fromNames x := by
  unfold fromNames bareRule
  simp only [List.map_map]
  rfl
theorem schemas_at (s : QSource) (a : Nat) : (bareP s).schemas[a]? = (s.schemas[a]?).map bareSchema := by
  show (s.schemas.map bareSchema)[a]? = _
  rw [List.getElem?_map]

theorem twice_bare (s : QSource) : sourceTwice (bareP s) = sourceTwice s := by
  unfold sourceTwice
  rw [names_unit, names_schema, names_purpose]
  show (_ || (s.schemas.map bareSchema).any _ || (s.rules.map bareRule).any _) = _
  rw [List.any_map, List.any_map]
  have e1 : ((fun x => twiceB (fieldNames x)) ∘ bareSchema) = fun x => twiceB (fieldNames x) := by funext x; simp only [Function.comp, names_field]
  have e2 : ((fun x => twiceB (fromNames x)) ∘ bareRule) = fun x => twiceB (fromNames x) := by funext x; simp only [Function.comp, names_from]
  rw [e1, e2]
  rfl

theorem unitsTo_bare (names : List ByteArray) (us : List QUnit) : ∀ k, unitsTo names (us.map bareUnit) k = unitsTo names us k
  | 0 => rfl
  | k + 1 => by
    rw [unitsTo, unitsTo, unitsTo_bare names us k, List.getElem?_map]
    cases unitsTo names us k with
    | none => rfl
    | some out =>
      cases us[k]? with
      | none => rfl
      | some u => rfl
theorem fieldStep_bare (s : QSource) (f : QField) : fieldStep (bareP s) (bareField f) = fieldStep s f := by
  unfold fieldStep
  rw [names_unit]
  rfl
theorem depStep_bare (x : QSchema) (d : QDep) : depStep (bareSchema x) (bareDep d) = depStep x d := by
  unfold depStep
  rw [names_field]
  rfl
theorem schemaP_bare (s : QSource) (x : QSchema) : schemaP (bareP s) (bareSchema x) = schemaP s x := by
  unfold schemaP
  have e1 : allP (fun _ => fieldStep (bareP s)) (bareSchema x).fields = allP (fun _ => fieldStep s) x.fields := allP_map (h := bareField) (fun _ f => fieldStep_bare s f) x.fields
  have e2 : allP (fun _ => depStep (bareSchema x)) (bareSchema x).deps = allP (fun _ => depStep x) x.deps := allP_map (h := bareDep) (fun _ d => depStep_bare x d) x.deps
  rw [e1, e2]
  rfl
theorem termP_bare (s : QSource) (vars : SMap) (fo : List QFrom) (t : QTerm) : termP (bareP s) vars fo (bareTerm t) = termP s vars fo t := by
  unfold termP
  show (if t.name = noStr then _ else _) = _
  split
  · rfl
  · show (match getM vars t.name with | none => none | some v => _) = _
    cases getM vars t.name with
    | none => rfl
    | some v =>
      simp only
      cases fo[v.toNat]? with
      | none => rfl
      | some f =>
        simp only
        rw [schemas_at]
        cases s.schemas[f.schema.toNat]? with
        | none => rfl
        | some x =>
          simp only [Option.map_some, names_field]
          rfl
theorem fromStep_bare (s : QSource) (out : List QFrom) (f : QFrom) : fromStep (bareP s) out (bareFrom f) = fromStep s out f := by
  unfold fromStep
  rw [names_schema]
  show (match idx (schemaNames s) f.kind with | none => none | some a => (termP (bareP s) (varsOf out) out (bareTerm f.of_)).map _) = _
  rw [termP_bare]
  rfl
theorem atomStep_bare (s : QSource) (fo : List QFrom) (a : QAtom) : atomStep (bareP s) fo (bareAtom a) = atomStep s fo a := by
  unfold atomStep
  show (match termP (bareP s) (varsOf fo) fo (bareTerm a.a), termP (bareP s) (varsOf fo) fo (bareTerm a.b) with | some x, some y => _ | _, _ => none) = _
  rw [termP_bare, termP_bare]
  rfl
theorem setStep_bare (s : QSource) (x : QSchema) (fo : List QFrom) (c : QSet) : setStep (bareP s) (bareSchema x) fo (bareSet c) = setStep s x fo c := by
  unfold setStep
  rw [names_field]
  show (match idx (fieldNames x) c.path, termP (bareP s) (varsOf fo) fo (bareTerm c.term) with | some n, some t => _ | _, _ => none) = _
  rw [termP_bare]
  rfl
theorem ruleP_bare (s : QSource) (r : QRule) : ruleP (bareP s) (bareRule r) = ruleP s r := by
  unfold ruleP
  have e1 : allP (fromStep (bareP s)) (bareRule r).froms = allP (fromStep s) r.froms := allP_map (h := bareFrom) (fun out f => fromStep_bare s out f) r.froms
  have e2 : ∀ fo, allP (fun _ => atomStep (bareP s) fo) (bareRule r).where_ = allP (fun _ => atomStep s fo) r.where_ := fun fo => allP_map (h := bareAtom) (fun _ a => atomStep_bare s fo a) r.where_
  have e3 : ∀ fo x, allP (fun _ => setStep (bareP s) (bareSchema x) fo) (bareRule r).sets = allP (fun _ => setStep s x fo) r.sets := fun fo x => allP_map (h := bareSet) (fun _ c => setStep_bare s x fo c) r.sets
  rw [names_schema, e1]
  show (match idx (schemaNames s) r.head with | none => none | some a => _) = _
  cases idx (schemaNames s) r.head with
  | none => rfl
  | some a =>
    simp only
    cases allP (fromStep s) r.froms with
    | none => rfl
    | some fo =>
      simp only
      rw [e2]
      cases allP (fun _ => atomStep s fo) r.where_ with
      | none => rfl
      | some wo =>
        simp only
        rw [schemas_at]
        cases s.schemas[a]? with
        | none => rfl
        | some x =>
          simp only [Option.map_some]
          rw [e3]
          rfl
theorem moveStep_bare (xa xb : QSchema) (m : QMove) : moveStep (bareSchema xa) (bareSchema xb) (bareMove m) = moveStep xa xb m := by
  unfold moveStep
  rw [names_field, names_field]
  rfl
theorem convertP_bare (s : QSource) (c : QConvert) : convertP (bareP s) (bareConvert c) = convertP s c := by
  unfold convertP
  have e : ∀ xa xb, allP (fun _ => moveStep (bareSchema xa) (bareSchema xb)) (bareConvert c).moves = allP (fun _ => moveStep xa xb) c.moves := fun xa xb => allP_map (h := bareMove) (fun _ m => moveStep_bare xa xb m) c.moves
  rw [names_schema]
  show (match idx (schemaNames s) c.from_, idx (schemaNames s) c.to_ with | some a, some b => _ | _, _ => none) = _
  cases idx (schemaNames s) c.from_ with
  | none => rfl
  | some a =>
    cases idx (schemaNames s) c.to_ with
    | none => rfl
    | some b =>
      simp only
      rw [schemas_at, schemas_at]
      cases s.schemas[a]? with
      | none => rfl
      | some xa =>
        cases s.schemas[b]? with
        | none => rfl
        | some xb =>
          simp only [Option.map_some]
          rw [e]
          rfl
theorem refStep_bare (s : QSource) (m : QRef) : refStep (bareP s) (bareRef m) = refStep s m := by
  unfold refStep
  rw [names_schema]
  show (match idx (schemaNames s) m.name with | none => none | some a => _) = _
  cases idx (schemaNames s) m.name with
  | none => rfl
  | some a =>
    simp only
    rw [schemas_at]
    cases s.schemas[a]? with
    | none => rfl
    | some x =>
      simp only [Option.map_some, names_field]
      rfl
theorem purposeP_bare (s : QSource) (p : QPurpose) : purposeP (bareP s) (barePurpose p) = purposeP s p := by
  unfold purposeP
  have e : allP (fun _ => refStep (bareP s)) (barePurpose p).may = allP (fun _ => refStep s) p.may := allP_map (h := bareRef) (fun _ m => refStep_bare s m) p.may
  rw [e]
  rfl
theorem numP_bare (s : QSource) : numP (bareP s) = numP s := by
  unfold numP
  have e0 : unitsP (unitNames (bareP s)) (bareP s).units = unitsP (unitNames s) s.units := by
    rw [names_unit]
    show unitsTo _ (s.units.map bareUnit) (s.units.map bareUnit).length = _
    rw [List.length_map]
    exact unitsTo_bare _ _ _
  have e1 : allP (fun _ => schemaP (bareP s)) (bareP s).schemas = allP (fun _ => schemaP s) s.schemas := allP_map (h := bareSchema) (fun _ x => schemaP_bare s x) s.schemas
  have e2 : allP (fun _ => ruleP (bareP s)) (bareP s).rules = allP (fun _ => ruleP s) s.rules := allP_map (h := bareRule) (fun _ x => ruleP_bare s x) s.rules
  have e3 : allP (fun _ => convertP (bareP s)) (bareP s).converts = allP (fun _ => convertP s) s.converts := allP_map (h := bareConvert) (fun _ x => convertP_bare s x) s.converts
  have e4 : allP (fun _ => purposeP (bareP s)) (bareP s).purposes = allP (fun _ => purposeP s) s.purposes := allP_map (h := barePurpose) (fun _ x => purposeP_bare s x) s.purposes
  rw [e0, e1, e2, e3, e4]
  rfl
/-- The numbers that were there before do not matter. -/
theorem resolveP_bare (s : QSource) : resolveP (bareP s) = resolveP s := by
  unfold resolveP
  rw [twice_bare, numP_bare]

theorem fieldStep_is {s : QSource} {f y : QField} (h : fieldStep s f = some y) : bareField y = bareField f := by
  unfold fieldStep at h
  split at h
  · simp only [Option.map_eq_some_iff] at h
    obtain ⟨n, _, rfl⟩ := h
    rfl
  · rw [Option.some.injEq] at h
    subst h
    rfl
theorem depStep_is {x : QSchema} {d y : QDep} (h : depStep x d = some y) : bareDep y = bareDep d := by
  unfold depStep at h
  split at h
  · rw [Option.some.injEq] at h
    subst h
    rfl
  · cases h
theorem schemaP_is {s : QSource} {x y : QSchema} (h : schemaP s x = some y) : bareSchema y = bareSchema x := by
  unfold schemaP at h
  split at h
  · cases h
  · split at h
    · cases h
    · rename_i fs hfs
      split at h
      · cases h
      · rename_i ds hds
        rw [Option.some.injEq] at h
        subst h
        unfold bareSchema
        simp only
        rw [allP_bare (h := bareField) (fun _ f y e => fieldStep_is e) hfs, allP_bare (h := bareDep) (fun _ d y e => depStep_is e) hds]
theorem termP_is {s : QSource} {vars : SMap} {fo : List QFrom} {t y : QTerm} (h : termP s vars fo t = some y) : bareTerm y = bareTerm t := by
  rw [termP_same h]
  rfl
theorem fromStep_is {s : QSource} {out : List QFrom} {f y : QFrom} (h : fromStep s out f = some y) : bareFrom y = bareFrom f := by
  unfold fromStep at h
  split at h
  · cases h
  · simp only [Option.map_eq_some_iff] at h
    obtain ⟨t, ht, rfl⟩ := h
    unfold bareFrom
    simp only
    rw [termP_is ht]
theorem atomStep_is {s : QSource} {fo : List QFrom} {a y : QAtom} (h : atomStep s fo a = some y) : bareAtom y = bareAtom a := by
  unfold atomStep at h
  split at h
  · rename_i t1 t2 h1 h2
    rw [Option.some.injEq] at h
    subst h
    unfold bareAtom
    simp only
    rw [termP_is h1, termP_is h2]
  · cases h
theorem setStep_is {s : QSource} {x : QSchema} {fo : List QFrom} {c y : QSet} (h : setStep s x fo c = some y) : bareSet y = bareSet c := by
  unfold setStep at h
  split at h
  · rename_i n t h1 h2
    rw [Option.some.injEq] at h
    subst h
    unfold bareSet
    simp only
    rw [termP_is h2]
  · cases h
theorem ruleP_is {s : QSource} {r y : QRule} (h : ruleP s r = some y) : bareRule y = bareRule r := by
  unfold ruleP at h
  split at h
  · cases h
  · split at h
    · cases h
    · rename_i fo hfo
      split at h
      · cases h
      · rename_i wo hwo
        split at h
        · cases h
        · split at h
          · cases h
          · rename_i so hso
            rw [Option.some.injEq] at h
            subst h
            unfold bareRule
            simp only
            rw [allP_bare (h := bareFrom) (fun _ f y e => fromStep_is e) hfo, allP_bare (h := bareAtom) (fun _ a y e => atomStep_is e) hwo, allP_bare (h := bareSet) (fun _ c y e => setStep_is e) hso]
theorem moveStep_is {xa xb : QSchema} {m y : QMove} (h : moveStep xa xb m = some y) : bareMove y = bareMove m := by
  unfold moveStep at h
  split at h
  · rw [Option.some.injEq] at h
    subst h
    rfl
  · cases h
theorem convertP_is {s : QSource} {c y : QConvert} (h : convertP s c = some y) : bareConvert y = bareConvert c := by
  unfold convertP at h
  split at h
  · split at h
    · simp only [Option.map_eq_some_iff] at h
      obtain ⟨l, hl, rfl⟩ := h
      unfold bareConvert
      simp only
      rw [allP_bare (h := bareMove) (fun _ m y e => moveStep_is e) hl]
    · cases h
  · cases h
theorem refStep_is {s : QSource} {m y : QRef} (h : refStep s m = some y) : bareRef y = bareRef m := by
  unfold refStep at h
  split at h
  · cases h
  · split at h
    · cases h
    · split at h
      · cases h
      · rw [Option.some.injEq] at h
        subst h
        rfl
theorem purposeP_is {s : QSource} {p y : QPurpose} (h : purposeP s p = some y) : barePurpose y = barePurpose p := by
  unfold purposeP at h
  simp only [Option.map_eq_some_iff] at h
  obtain ⟨l, hl, rfl⟩ := h
  unfold barePurpose
  simp only
  rw [allP_bare (h := bareRef) (fun _ m y e => refStep_is e) hl]
theorem unitsTo_is {names : List ByteArray} {us : List QUnit} : ∀ {k : Nat} {out : List QUnit}, k ≤ us.length → unitsTo names us k = some out → out.map bareUnit = (us.take k).map bareUnit
  | 0, out, _, h => by rw [unitsTo, Option.some.injEq] at h; subst h; simp
  | k + 1, out, hk, h => by
    have hu : us[k]? = some us[k] := List.getElem?_eq_getElem hk
    cases ho : unitsTo names us k with
    | none => rw [unitsTo, ho] at h; cases h
    | some o =>
      rw [unitsTo_succ ho hu] at h
      have key : ∀ y : QUnit, out = o ++ [y] → bareUnit y = bareUnit us[k] → out.map bareUnit = (us.take (k + 1)).map bareUnit := fun y e hy => by
        subst e
        rw [List.map_append, unitsTo_is (by omega) ho, List.take_add_one, hu, List.map_append]
        simp [hy]
      unfold unitStep at h
      split at h
      · exact key _ (Option.some.inj h).symm rfl
      · split at h
        · cases h
        · split at h
          · cases h
          · exact key _ (Option.some.inj h).symm rfl
/-- Names and everything else are as they were. -/
theorem numP_is {s x : QSource} (h : numP s = some x) : bareP x = bareP s := by
  unfold numP at h
  split at h
  · cases h
  · rename_i us hus
    split at h
    · cases h
    · rename_i ss hss
      split at h
      · cases h
      · rename_i rs hrs
        split at h
        · cases h
        · rename_i cs hcs
          split at h
          · cases h
          · rename_i ps hps
            rw [Option.some.injEq] at h
            subst h
            have hu : us.map bareUnit = s.units.map bareUnit := by
              have := unitsTo_is (Nat.le_refl _) hus
              rwa [List.take_length] at this
            unfold bareP
            simp only
            rw [hu, allP_bare (h := bareSchema) (fun _ f y e => schemaP_is e) hss, allP_bare (h := bareRule) (fun _ f y e => ruleP_is e) hrs, allP_bare (h := bareConvert) (fun _ f y e => convertP_is e) hcs, allP_bare (h := barePurpose) (fun _ f y e => purposeP_is e) hps]
/-- Resolving again changes nothing. -/
theorem resolveP_again {s x : QSource} (h : numP s = some x) (ht : sourceTwice s = false) : resolveP x = (0, x) := by
  rw [← resolveP_bare x, numP_is h, resolveP_bare]
  unfold resolveP
  rw [if_neg (by rw [ht]; simp), h]

end Go.Proofs.Ytkkkephjljiplaa
