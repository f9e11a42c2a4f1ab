/- Plain: what the numbers of a resolved source mean. -/
import Derived.Test.YtkkkephjljiplaaNmBareP
namespace Go.Proofs.Ytkkkephjljiplaa
open Go.RowKit

/-- The field n of the schema a has a name. -/
def IsField (x : QSource) (a n : Int) (nm : ByteArray) : Prop := ∃ (i j : Nat) (y : QSchema) (f : QField), a = (i : Int) ∧ n = (j : Int) ∧ x.schemas[i]? = some y ∧ y.fields[j]? = some f ∧ f.name = nm
/-- The schema a has a name. -/
def IsCalled (x : QSource) (a : Int) (nm : ByteArray) : Prop := ∃ (i : Nat) (y : QSchema), a = (i : Int) ∧ x.schemas[i]? = some y ∧ y.name = nm
/-- A term is a number, or the field of one of the first variables. -/
def Means (x : QSource) (froms : List QFrom) (before : Nat) (t : QTerm) : Prop :=
  (t.name = noStr ∧ t.var = -1 ∧ t.field = 0) ∨ (t.name ≠ noStr ∧ ∃ (v : Nat) (f : QFrom), t.var = (v : Int) ∧ v < before ∧ froms[v]? = some f ∧ f.name = t.name ∧ IsField x f.schema t.field t.path)
def TypeOk (x : QSource) (t : QType) : Prop :=
  (t.kind = 1 ∧ t.of_ ≠ noStr ∧ ∃ (m : Nat) (u : QUnit), t.unit = (m : Int) ∧ x.units[m]? = some u ∧ u.name = t.of_) ∨ (¬ (t.kind = 1 ∧ t.of_ ≠ noStr) ∧ t.unit = -1)
def DepOk (x : QSource) (i : Nat) (d : QDep) : Prop := d.src.length = d.names.length ∧ IsField x (i : Int) d.dst d.name ∧ ∀ (n : Nat) (a : Int) (b : ByteArray), d.src[n]? = some a → d.names[n]? = some b → IsField x (i : Int) a b
def SchemaOk (x : QSource) (i : Nat) (y : QSchema) : Prop := (∃ m : Nat, y.issuer = (m : Int) ∧ x.issuers[m]? = some y.by_) ∧ (∀ (k : Nat) (f : QField), y.fields[k]? = some f → TypeOk x f.type) ∧ (∀ (k : Nat) (d : QDep), y.deps[k]? = some d → DepOk x i d)
def RuleOk (x : QSource) (r : QRule) : Prop :=
  IsCalled x r.schema r.head ∧ (∀ (k : Nat) (f : QFrom), r.froms[k]? = some f → IsCalled x f.schema f.kind ∧ Means x r.froms k f.of_) ∧
  (∀ (k : Nat) (a : QAtom), r.where_[k]? = some a → Means x r.froms r.froms.length a.a ∧ Means x r.froms r.froms.length a.b) ∧
  (∀ (k : Nat) (c : QSet), r.sets[k]? = some c → IsField x r.schema c.field c.path ∧ Means x r.froms r.froms.length c.term)
def ConvertOk (x : QSource) (c : QConvert) : Prop := IsCalled x c.a c.from_ ∧ IsCalled x c.b c.to_ ∧ ∀ (k : Nat) (m : QMove), c.moves[k]? = some m → IsField x c.a m.a m.from_ ∧ IsField x c.b m.b m.to_
def PurposeOk (x : QSource) (p : QPurpose) : Prop := ∀ (k : Nat) (m : QRef), p.may[k]? = some m → IsCalled x m.schema m.name ∧ IsField x m.schema m.field m.path
structure MeansOk (x : QSource) : Prop where
  schemas : ∀ (i : Nat) (y : QSchema), x.schemas[i]? = some y → SchemaOk x i y
  rules : ∀ (i : Nat) (r : QRule), x.rules[i]? = some r → RuleOk x r
  converts : ∀ (i : Nat) (c : QConvert), x.converts[i]? = some c → ConvertOk x c
  purposes : ∀ (i : Nat) (p : QPurpose), x.purposes[i]? = some p → PurposeOk x p

section
variable {α β : Type}
theorem allTo_back {f : List β → α → Option β} {l : List α} {k : Nat} {out : List β} (hk : k + 1 ≤ l.length) (h : allTo f l (k + 1) = some out) :
    ∃ (o : List β) (x : α) (y : β), allTo f l k = some o ∧ l[k]? = some x ∧ f o x = some y ∧ out = o ++ [y] := by
  have hu : l[k]? = some l[k] := List.getElem?_eq_getElem hk
  cases ho : allTo f l k with
  | none => rw [allTo, ho] at h; cases h
  | some o =>
    cases hy : f o l[k] with
    | none => rw [allTo_no ho hu hy] at h; cases h
    | some y =>
      rw [allTo_yes ho hu hy, Option.some.injEq] at h
      exact ⟨o, l[k], y, rfl, hu, hy, h.symm⟩
theorem allTo_down {f : List β → α → Option β} {l : List α} : ∀ (m k : Nat) (out : List β), k + m ≤ l.length → allTo f l (k + m) = some out → allTo f l k = some (out.take k)
  | 0, k, out, hk, h => by
    have := allTo_len hk h
    rw [List.take_of_length_le (by omega)]
    exact h
  | m + 1, k, out, hk, h => by
    obtain ⟨o, x, y, ho, _, _, rfl⟩ := allTo_back (k := k + m) hk h
    have hl := allTo_len (by omega) ho
    rw [List.take_append_of_le_length (by omega)]
    exact allTo_down m k o (by omega) ho
/-- Each element of the result comes of the element in its place. -/
theorem allP_at {f : List β → α → Option β} {l : List α} {out : List β} (h : allP f l = some out) {i : Nat} {y : β} (hi : out[i]? = some y) : ∃ x, l[i]? = some x ∧ f (out.take i) x = some y := by
  have hl := allTo_len (Nat.le_refl _) h
  have hil := (List.getElem?_eq_some_iff.1 hi).1
  have h1 := allTo_down (f := f) (l := l) (l.length - (i + 1)) (i + 1) out (by omega) (by rw [show i + 1 + (l.length - (i + 1)) = l.length by omega]; exact h)
  obtain ⟨o, x, z, ho, hx, hf, e⟩ := allTo_back (by omega) h1
  have h2 := allTo_down (f := f) (l := l) (l.length - i) i out (by omega) (by rw [show i + (l.length - i) = l.length by omega]; exact h)
  rw [ho, Option.some.injEq] at h2
  subst h2
  rw [take_snoc hi] at e
  have := List.append_cancel_left e
  injection this with e1
  subst e1
  exact ⟨x, hx, hf⟩
theorem allP_fix {f : List α → α → Option α} {l : List α} (h : allP f l = some l) {i : Nat} {x : α} (hi : l[i]? = some x) : f (l.take i) x = some x := by
  obtain ⟨x', hx, hf⟩ := allP_at h hi
  rw [hi, Option.some.injEq] at hx
  subst hx
  exact hf
end

theorem lift_some {o : Option Nat} {n : Int} (h : (do let a ← o; pure (a : Int)) = some n) : ∃ m : Nat, o = some m ∧ n = (m : Int) := by
  cases o with
  | none => cases h
  | some m => exact ⟨m, rfl, (Option.some.inj h).symm⟩
theorem idx_name {α : Type} {g : α → ByteArray} {l : List α} {nm : ByteArray} {n : Nat} (h : idx (l.map g) nm = some n) : ∃ y, l[n]? = some y ∧ g y = nm := by
  have := idx_at h
  rw [List.getElem?_map] at this
  cases hl : l[n]? with
  | none => rw [hl] at this; cases this
  | some y => rw [hl] at this; exact ⟨y, rfl, Option.some.inj this⟩
theorem isCalled_of {x : QSource} {a : Nat} {nm : ByteArray} (h : idx (schemaNames x) nm = some a) : IsCalled x (a : Int) nm := by
  obtain ⟨y, h1, h2⟩ := idx_name h
  exact ⟨a, y, rfl, h1, h2⟩
theorem isField_of {x : QSource} {a n : Nat} {y : QSchema} {nm : ByteArray} (hy : x.schemas[a]? = some y) (h : idx (fieldNames y) nm = some n) : IsField x (a : Int) (n : Int) nm := by
  obtain ⟨f, h1, h2⟩ := idx_name h
  exact ⟨a, n, y, f, rfl, rfl, hy, h1, h2⟩

theorem typeOk_of {x : QSource} {f : QField} (h : fieldStep x f = some f) : TypeOk x f.type := by
  unfold fieldStep at h
  split at h
  · rename_i hc
    simp only [Option.map_eq_some_iff] at h
    obtain ⟨n, hn, e⟩ := h
    have e1 : (n : Int) = f.type.unit := congrArg (fun z : QField => z.type.unit) e
    obtain ⟨n, hn', rfl⟩ := lift_some hn
    obtain ⟨u, h1, h2⟩ := idx_name hn'
    exact .inl ⟨hc.1, hc.2, n, u, e1.symm, h1, h2⟩
  · rename_i hc
    rw [Option.some.injEq] at h
    have e1 : (-1 : Int) = f.type.unit := congrArg (fun z : QField => z.type.unit) h
    exact .inr ⟨hc, e1.symm⟩
theorem depOk_of {x : QSource} {i : Nat} {y : QSchema} (hy : x.schemas[i]? = some y) {d : QDep} (h : depStep y d = some d) : DepOk x i d := by
  unfold depStep at h
  split at h
  · rename_i l n hl hn
    rw [Option.some.injEq] at h
    have e1 : l = d.src := congrArg (fun z : QDep => z.src) h
    have e2 : n = d.dst := congrArg (fun z : QDep => z.dst) h
    rw [e1] at hl
    rw [e2] at hn
    unfold idxI at hn
    simp only [Option.map_eq_some_iff] at hn
    obtain ⟨m, hm, e⟩ := hn
    refine ⟨allTo_len (Nat.le_refl _) hl, by rw [← e]; exact isField_of hy hm, fun k a b ha hb => ?_⟩
    obtain ⟨b', hb', hf⟩ := allP_at hl ha
    rw [hb, Option.some.injEq] at hb'
    subst hb'
    unfold idxI at hf
    simp only [Option.map_eq_some_iff] at hf
    obtain ⟨q, hq, e⟩ := hf
    rw [← e]
    exact isField_of hy hq
  · cases h
theorem schemaOk_of {x : QSource} {i : Nat} {y : QSchema} (hy : x.schemas[i]? = some y) (h : schemaP x y = some y) : SchemaOk x i y := by
  unfold schemaP at h
  split at h
  · cases h
  · rename_i a ha
    split at h
    · cases h
    · rename_i fs hfs
      split at h
      · cases h
      · rename_i ds hds
        rw [Option.some.injEq] at h
        have e1 : (a : Int) = y.issuer := congrArg (fun z : QSchema => z.issuer) h
        have e2 : fs = y.fields := congrArg (fun z : QSchema => z.fields) h
        have e3 : ds = y.deps := congrArg (fun z : QSchema => z.deps) h
        rw [e2] at hfs
        rw [e3] at hds
        exact ⟨⟨a, e1.symm, idx_at ha⟩, fun k f hf => typeOk_of (allP_fix hfs hf), fun k d hd => depOk_of hy (allP_fix hds hd)⟩
theorem means_of {x : QSource} {fo froms : List QFrom} {t : QTerm} (h : termP x (varsOf fo) fo t = some t) (hsub : ∀ (v : Nat) (f : QFrom), fo[v]? = some f → froms[v]? = some f) (hok : ∀ f ∈ fo, ∃ a : Nat, f.schema = (a : Int)) : Means x froms fo.length t := by
  unfold termP at h
  split at h
  · rename_i hz
    rw [Option.some.injEq] at h
    have e1 : (-1 : Int) = t.var := congrArg (fun z : QTerm => z.var) h
    have e2 : (0 : Int) = t.field := congrArg (fun z : QTerm => z.field) h
    exact .inl ⟨hz, e1.symm, e2.symm⟩
  · rename_i hz
    split at h
    · cases h
    · rename_i v hv
      split at h
      · cases h
      · rename_i f hf
        split at h
        · cases h
        · rename_i y hy
          simp only [Option.map_eq_some_iff] at h
          obtain ⟨n, hn, e⟩ := h
          have e1 : v = t.var := congrArg (fun z : QTerm => z.var) e
          have e2 : (n : Int) = t.field := congrArg (fun z : QTerm => z.field) e
          obtain ⟨n, hn', rfl⟩ := lift_some hn
          obtain ⟨m, hm, hlt, f', hf', hnm⟩ := varsN_get fo fo.length t.name v hv
          subst hm
          rw [Int.toNat_natCast] at hf
          rw [hf, Option.some.injEq] at hf'
          subst hf'
          obtain ⟨a, ha⟩ := hok f (List.mem_of_getElem? hf)
          rw [ha, Int.toNat_natCast] at hy
          refine .inr ⟨hz, m, f, e1.symm, hlt, hsub m f hf, hnm, ?_⟩
          rw [ha, ← e2]
          exact isField_of hy hn'
theorem ruleOk_of {x : QSource} {r : QRule} (h : ruleP x r = some r) : RuleOk x r := by
  unfold ruleP at h
  split at h
  · cases h
  · rename_i a ha
    split at h
    · cases h
    · rename_i fo hfo
      split at h
      · cases h
      · rename_i wo hwo
        split at h
        · cases h
        · rename_i xa hxa
          split at h
          · cases h
          · rename_i so hso
            rw [Option.some.injEq] at h
            have e1 : (a : Int) = r.schema := congrArg (fun z : QRule => z.schema) h
            have e2 : fo = r.froms := congrArg (fun z : QRule => z.froms) h
            have e3 : wo = r.where_ := congrArg (fun z : QRule => z.where_) h
            have e4 : so = r.sets := congrArg (fun z : QRule => z.sets) h
            subst e2
            rw [e3] at hwo
            rw [e4] at hso
            have hfr : ∀ (k : Nat) (f : QFrom), r.froms[k]? = some f → (∃ b : Nat, f.schema = (b : Int) ∧ idx (schemaNames x) f.kind = some b) ∧ termP x (varsOf (r.froms.take k)) (r.froms.take k) f.of_ = some f.of_ := fun k f hk => by
              have h1 := allP_fix hfo hk
              unfold fromStep at h1
              split at h1
              · cases h1
              · rename_i b hb
                simp only [Option.map_eq_some_iff] at h1
                obtain ⟨t, ht, e⟩ := h1
                have e5 : (b : Int) = f.schema := congrArg (fun z : QFrom => z.schema) e
                have e6 : t = f.of_ := congrArg (fun z : QFrom => z.of_) e
                rw [e6] at ht
                exact ⟨⟨b, e5.symm, hb⟩, ht⟩
            have hok : ∀ f ∈ r.froms, ∃ b : Nat, f.schema = (b : Int) := fun f hf => by
              obtain ⟨k, hk⟩ := List.getElem?_of_mem hf
              obtain ⟨⟨b, hb, _⟩, _⟩ := hfr k f hk
              exact ⟨b, hb⟩
            refine ⟨by rw [← e1]; exact isCalled_of ha, fun k f hk => ?_, fun k c hk => ?_, fun k c hk => ?_⟩
            · obtain ⟨⟨b, hb, hi⟩, ht⟩ := hfr k f hk
              have hkl := (List.getElem?_eq_some_iff.1 hk).1
              refine ⟨by rw [hb]; exact isCalled_of hi, ?_⟩
              have := means_of (froms := r.froms) ht (fun v g hg => by
                have hv := (List.getElem?_eq_some_iff.1 hg).1
                rw [List.length_take] at hv
                rw [List.getElem?_take_of_lt (by omega)] at hg
                exact hg) (fun g hg => hok g (List.mem_of_mem_take hg))
              rwa [List.length_take, Nat.min_eq_left (by omega)] at this
            · have h1 := allP_fix hwo hk
              unfold atomStep at h1
              split at h1
              · rename_i ta tb hta htb
                rw [Option.some.injEq] at h1
                have e5 : ta = c.a := congrArg (fun z : QAtom => z.a) h1
                have e6 : tb = c.b := congrArg (fun z : QAtom => z.b) h1
                rw [e5] at hta
                rw [e6] at htb
                exact ⟨means_of hta (fun _ _ e => e) hok, means_of htb (fun _ _ e => e) hok⟩
              · cases h1
            · have h1 := allP_fix hso hk
              unfold setStep at h1
              split at h1
              · rename_i n t hn ht
                rw [Option.some.injEq] at h1
                have e5 : (n : Int) = c.field := congrArg (fun z : QSet => z.field) h1
                have e6 : t = c.term := congrArg (fun z : QSet => z.term) h1
                rw [e6] at ht
                exact ⟨by rw [← e1, ← e5]; exact isField_of hxa hn, means_of ht (fun _ _ e => e) hok⟩
              · cases h1
theorem convertOk_of {x : QSource} {c : QConvert} (h : convertP x c = some c) : ConvertOk x c := by
  unfold convertP at h
  split at h
  · rename_i a b ha hb
    split at h
    · rename_i xa xb hxa hxb
      simp only [Option.map_eq_some_iff] at h
      obtain ⟨l, hl, e⟩ := h
      have e1 : (a : Int) = c.a := congrArg (fun z : QConvert => z.a) e
      have e2 : (b : Int) = c.b := congrArg (fun z : QConvert => z.b) e
      have e3 : l = c.moves := congrArg (fun z : QConvert => z.moves) e
      rw [e3] at hl
      refine ⟨by rw [← e1]; exact isCalled_of ha, by rw [← e2]; exact isCalled_of hb, fun k m hk => ?_⟩
      have h1 := allP_fix hl hk
      unfold moveStep at h1
      split at h1
      · rename_i p q hp hq
        rw [Option.some.injEq] at h1
        have e5 : (p : Int) = m.a := congrArg (fun z : QMove => z.a) h1
        have e6 : (q : Int) = m.b := congrArg (fun z : QMove => z.b) h1
        exact ⟨by rw [← e1, ← e5]; exact isField_of hxa hp, by rw [← e2, ← e6]; exact isField_of hxb hq⟩
      · cases h1
    · cases h
  · cases h
theorem purposeOk_of {x : QSource} {p : QPurpose} (h : purposeP x p = some p) : PurposeOk x p := by
  unfold purposeP at h
  simp only [Option.map_eq_some_iff] at h
  obtain ⟨l, hl, e⟩ := h
  have e3 : l = p.may := congrArg (fun z : QPurpose => z.may) e
  rw [e3] at hl
  intro k m hk
  have h1 := allP_fix hl hk
  unfold refStep at h1
  split at h1
  · cases h1
  · rename_i a ha
    split at h1
    · cases h1
    · rename_i xa hxa
      split at h1
      · cases h1
      · rename_i q hq
        rw [Option.some.injEq] at h1
        have e5 : (a : Int) = m.schema := congrArg (fun z : QRef => z.schema) h1
        have e6 : (q : Int) = m.field := congrArg (fun z : QRef => z.field) h1
        exact ⟨by rw [← e5]; exact isCalled_of ha, by rw [← e5, ← e6]; exact isField_of hxa hq⟩
theorem meansOk_fix {x : QSource} (h : numP x = some x) : MeansOk x := by
  unfold numP at h
  split at h
  · cases h
  · split at h
    · cases h
    · rename_i ss hss
      split at h
      · cases h
      · rename_i rs hrs
        split at h
        · cases h
        · rename_i cs hcs
          split at h
          · cases h
          · rename_i ps hps
            rw [Option.some.injEq] at h
            have e1 : ss = x.schemas := congrArg (fun z : QSource => z.schemas) h
            have e2 : rs = x.rules := congrArg (fun z : QSource => z.rules) h
            have e3 : cs = x.converts := congrArg (fun z : QSource => z.converts) h
            have e4 : ps = x.purposes := congrArg (fun z : QSource => z.purposes) h
            rw [e1] at hss
            rw [e2] at hrs
            rw [e3] at hcs
            rw [e4] at hps
            exact ⟨fun i y hy => schemaOk_of hy (allP_fix hss hy), fun i r hr => ruleOk_of (allP_fix hrs hr), fun i c hc => convertOk_of (allP_fix hcs hc), fun i p hp => purposeOk_of (allP_fix hps hp)⟩
theorem meansOk {s x : QSource} (h : numP s = some x) : MeansOk x := by
  apply meansOk_fix
  rw [← numP_bare x, numP_is h, numP_bare]
  exact h

end Go.Proofs.Ytkkkephjljiplaa
