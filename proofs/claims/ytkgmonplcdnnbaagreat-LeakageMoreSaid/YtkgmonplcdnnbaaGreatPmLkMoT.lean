/- A further field, plain: what the walk of LeakageMore needs behind its calls. No program. -/
import Derived.Test.YtkgmonplcdnnbaaGreatPmLkMoS
namespace Go.Proofs.YtkgmonplcdnnbaaGreat
open Go.RowKit Go.Shelf
theorem belowL_of : ∀ {a b : List Int}, (∀ (k : Nat) (x y : Int), a[k]? = some x → b[k]? = some y → x ≤ y) → belowL a b = true
 | [], _, _ => by cases ‹List Int› <;> rfl
 | _ :: _, [], _ => rfl
 |
  x :: a, y :: b, h => by
  rw [belowL, decide_eq_true (h 0 x y rfl rfl), belowL_of (fun k u v hu hv => h (k + 1) u v (by simpa using hu) (by simpa using hv))]
  rfl
theorem InsAt.full {F : List Int} {field : Int} {k : Nat} {M : List Int} (h : InsAt F field k true M) (hk : k = F.length) : ∀ z, z ∈ M ↔ z = field ∨ z ∈ F := fun z => by rw [h.2.2 rfl z, hk, List.take_length]
theorem wrap_small {x : Int} (h0 : -9223372036854775808 ≤ x) (h1 : x ≤ 9223372036854775807) : wrap64 x = x := by unfold wrap64; omega
theorem addW_nil (fs : List QField) (X : List Int) (g : QField → Int) : addW fs X g [] = 0 := rfl
theorem ins_all {l : List Int} {x : Int} (h : ∀ z ∈ l, isI64 z) (hx : isI64 x) : ∀ z ∈ l ++ [x], isI64 z := fun z hz => by
 rcases List.mem_append.1 hz with h' | h'
 · exact h z h'
 · rw [List.mem_singleton.1 h']; exact hx
theorem qWeight_at {w : World} {A : Option Addr} {n cap : Nat} {l : List QField} (h : SlR 11 qFieldR w (.slice A n cap) l) {j : Nat} (hj : j < n) {k : Nat} (hk : k < 4) :
 ∃ b off x, A = some ⟨b, off, none⟩ ∧ b < w.heap.size ∧ l[j]? = some x ∧ w.cell? ⟨b, off + j * 11 + 7 + k, none⟩ = some (.int .i64 (gK k x)) := by
 obtain ⟨b, off, x, A1, n1, c1, e, hb, hl, _, _, _, _, _, _, _, h7, h8, h9, h10, _⟩ := qField_at h hj
 refine ⟨b, off, x, e, hb, hl, ?_⟩
 match k, hk with
 | 0, _ => exact h7
 | 1, _ => exact h8
 | 2, _ => exact h9
 | 3, _ => exact h10
structure MoreEnd (ss : List QSchema) (sc field : Int) (X Y lv lw : List Int) (x : QSchema) : Prop where
 at_ : ss[sc.toNat]? = some x
 pos : 0 ≤ sc
 lt : sc < ss.length
 len : Y.length ≤ 1000
 mem : field ∈ Y
 rng : ∀ y ∈ Y, 0 ≤ y ∧ y < (x.fields.length : Int)
 small : ∀ k, ∀ y ∈ x.fields, 0 ≤ gK k y ∧ gK k y ≤ 9
 lenv : lv.length = 4
 lenw : lw.length = 4
 below : belowL lv lw = true
 sum : ∀ k, k < 4 → ∃ a b, lv[k]? = some a ∧ lw[k]? = some b ∧ (0 ≤ a ∧ a ≤ 9001) ∧ (0 ≤ b ∧ b ≤ 9001) ∧ b - a = addW x.fields X (gK k) Y
theorem more_end {ss : List QSchema} (hm : MoreOk ss) (hW : Weighed ss) {c d : QClaims} {field : Int} (hs : d.schema = c.schema) (ec : ofE 0 ss [c] = 0) (ed : ofE 0 ss [d] = 0) (hi : c.fields.length = c.values.length → ∀ x, x ∈ d.fields ↔ x = field ∨ x ∈ c.fields) :
 ∃ x, MoreEnd ss c.schema field (wholeL 0 ss c.schema c.fields c.values.length) (wholeL 0 ss d.schema d.fields d.values.length) (ofL 0 ss [c]) (ofL 0 ss [d]) x := by
 have hfc := (wholeE_parts (by rw [← ofE_sing]; exact ec)).2
 have hfd := (wholeE_parts (by rw [← ofE_sing]; exact ed)).2
 obtain ⟨x, hx, h0, h1, h2, h3, h4, h5⟩ := hm c d field hs hfc hfd (hi (fitsP_yes hfc).2.2)
 have hg : ∀ k, ∀ y ∈ x.fields, 0 ≤ gK k y ∧ gK k y ≤ 9 := fun k y hy => gK_bound hW k (List.mem_of_getElem? hx) hy
 have hsum : ∀ k, k < 4 → ∃ a b, (ofL 0 ss [c])[k]? = some a ∧ (ofL 0 ss [d])[k]? = some b ∧ (0 ≤ a ∧ a ≤ 9001) ∧ (0 ≤ b ∧ b ≤ 9001) ∧ b - a = addW x.fields (wholeL 0 ss c.schema c.fields c.values.length) (gK k) (wholeL 0 ss d.schema d.fields d.values.length) := fun k hk => by
  refine ⟨_, _, ofL_at ec hk, ofL_at ed hk, lkAt_bound hW (gK k) (bK k) (bK_bound k) (fun x hx y hy => gK_bound hW k hx hy) c, lkAt_bound hW (gK k) (bK k) (bK_bound k) (fun x hx y hy => gK_bound hW k hx hy) d, ?_⟩
  rw [h5 (gK k) (bK k)]
  omega
 refine ⟨x, hx, h0, h1, h2, h3, h4, hg, ofL_yes ec, ofL_yes ed, belowL_of fun k a b ha hb => ?_, hsum⟩
 rcases Nat.lt_or_ge k 4 with hk | hk
 ·
  obtain ⟨a', b', ha', hb', _, _, e⟩ := hsum k hk
  rw [ha] at ha'; rw [hb] at hb'
  obtain rfl := Option.some.inj ha'
  obtain rfl := Option.some.inj hb'
  have := (addW_nonneg (X := wholeL 0 ss c.schema c.fields c.values.length) (Y := wholeL 0 ss d.schema d.fields d.values.length) (hg k)).1
  omega
 ·
  rw [List.getElem?_eq_none (by rw [ofL_yes ec]; exact hk)] at ha
  cases ha
end Go.Proofs.YtkgmonplcdnnbaaGreat
