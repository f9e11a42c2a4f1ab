/- Opening the laws' arguments: lists of numbers read as plain lists (of DepOpen); and the row's last step. -/
import Derived.Test.YtkgmonplcdnnbaaGreatPm31
import Derived.Test.YtkgmonplcdnnbaaGreatPm37
import Derived.Test.YtkgmonplcdnnbaaGreatRows
import Derived.ProofKit
import Derived.Deep.Slices
import Derived.Deep.Fields
import Derived.OpenShut
namespace Go.Proofs.YtkgmonplcdnnbaaGreat
open Go.RowKit Go.Shelf
def InsAt (F : List Int) (field : Int) (i : Nat) (d : Bool) (M : List Int) : Prop :=
 M.length = i + (if d then 1 else 0) ∧ (d = false → M = F.take i) ∧ (d = true → ∀ x, x ∈ M ↔ x = field ∨ x ∈ F.take i)
theorem InsAt.zero (F : List Int) (field : Int) : InsAt F field 0 false [] := ⟨rfl, fun _ => by simp, fun h => by cases h⟩
theorem InsAt.push {F : List Int} {field : Int} {i : Nat} {d : Bool} {M : List Int} {f : Int} (h : InsAt F field i d M) (hf : F[i]? = some f) : InsAt F field (i + 1) d (M ++ [f]) := by
 refine ⟨by rw [List.length_append, h.1]; simp; omega, fun hd => by rw [take_snoc hf, h.2.1 hd], fun hd x => ?_⟩
 rw [take_snoc hf, List.mem_append, List.mem_append, h.2.2 hd x, or_assoc]
theorem InsAt.put {F : List Int} {field : Int} {i : Nat} {M : List Int} (h : InsAt F field i false M) : InsAt F field i true (M ++ [field]) := by
 refine ⟨by rw [List.length_append, h.1]; simp, fun hd => (by cases hd), fun _ x => ?_⟩
 rw [List.mem_append, h.2.1 rfl, List.mem_singleton, or_comm]
theorem InsAt.len {F : List Int} {field : Int} {i : Nat} {d : Bool} {M : List Int} (h : InsAt F field i d M) : M.length ≤ i + 1 := by
 rw [h.1]; split <;> omega
theorem whole_small {pv : QConvert → Bool} {s : QSource} {l : List Int} (hck : checkP pv s l = 0) {sc : Int} {F : List Int} {nv : Nat} (hf : fitsP s.schemas sc F nv = true) : (wholeL 0 s.schemas sc F nv).length ≤ 1000 ∧ ∀ y ∈ wholeL 0 s.schemas sc F nv, 0 ≤ y ∧ y ≤ 1000 := by
 obtain ⟨x, hx, h0, h1, h2, hok, _⟩ := fit_closOk hck hf
 have hb := (ck_weighed hck x (List.mem_of_getElem? hx)).1
 rw [wholeL_yes (wholeE_of (ck := 0) rfl hf) hx, closL_yes hok]
 refine ⟨Nat.le_trans (listX_len _ _) hb, fun y hy => ?_⟩
 obtain ⟨a, b, _⟩ := mem_listX.1 hy
 exact ⟨a, by omega⟩
def MoreOk (ss : List QSchema) : Prop := ∀ (c d : QClaims) (field : Int), d.schema = c.schema → fitsP ss c.schema c.fields c.values.length = true → fitsP ss d.schema d.fields d.values.length = true → (∀ x, x ∈ d.fields ↔ x = field ∨ x ∈ c.fields) →
 ∃ x, ss[c.schema.toNat]? = some x ∧ 0 ≤ c.schema ∧ c.schema < ss.length ∧ (wholeL 0 ss d.schema d.fields d.values.length).length ≤ 1000 ∧ field ∈ wholeL 0 ss d.schema d.fields d.values.length ∧
  (∀ y ∈ wholeL 0 ss d.schema d.fields d.values.length, 0 ≤ y ∧ y < (x.fields.length : Int)) ∧
  ∀ g base, lkAt ss g base d = lkAt ss g base c + addW x.fields (wholeL 0 ss c.schema c.fields c.values.length) g (wholeL 0 ss d.schema d.fields d.values.length)
theorem more_ok {pv : QConvert → Bool} {s : QSource} {l : List Int} (hck : checkP pv s l = 0) : MoreOk s.schemas := by
 intro c d field hs hfc hfd hm
 obtain ⟨x, hx, h0, h1, h2, hok, _⟩ := fit_closOk hck hfc
 obtain ⟨x', hx', _, _, _, hok', _⟩ := fit_closOk hck hfd
 rw [hs, hx] at hx'
 obtain rfl := Option.some.inj hx'
 have hsub : ∀ f ∈ c.fields, f ∈ d.fields := fun f hf => (hm f).2 (.inr hf)
 have hmo : ∀ f ∈ closL x.fields.length (x.deps.map depOf) c.fields, f ∈ closL x.fields.length (x.deps.map depOf) d.fields := fun f hf => clos_mono hok hok' hsub hf
 have hX := wholeL_yes (wholeE_of (ck := 0) rfl hfc) hx
 have hY := wholeL_yes (wholeE_of (ck := 0) rfl hfd) (by rw [hs]; exact hx)
 refine ⟨x, hx, h0, h1, (whole_small hck hfd).1, ?_, fun y hy => ?_, fun g base => ?_⟩
 · rw [hY]; exact clos_mem hok' ((hm field).2 (.inl rfl))
 ·
  rw [hY, closL_yes hok'] at hy
  obtain ⟨a, b, _⟩ := mem_listX.1 hy
  exact ⟨a, b⟩
 ·
  rw [hX, hY]
  simp only [lkAt, hs, hx]
  rw [addW_eq (clos_sorted hok) (clos_sorted hok') hmo g]
  omega
def gK (k : Nat) : QField → Int := fun x => [x.w0, x.w1, x.w2, x.w3].getD k 0
def bK (k : Nat) : Int := if k = 0 then 1 else 0
theorem ofL_at {ck : Int} {ss : List QSchema} {c : QClaims} (h : ofE ck ss [c] = 0) {k : Nat} (hk : k < 4) : (ofL ck ss [c])[k]? = some (lkAt ss (gK k) (bK k) c) := by
 rw [ofL_sing h]
 match k, hk with
 | 0, _ => rfl
 | 1, _ => rfl
 | 2, _ => rfl
 | 3, _ => rfl
theorem gK_bound {ss : List QSchema} (hw : Weighed ss) (k : Nat) {x : QSchema} (hx : x ∈ ss) {y : QField} (hy : y ∈ x.fields) : 0 ≤ gK k y ∧ gK k y ≤ 9 := by
 obtain ⟨h0, h1, h2, h3⟩ := (hw x hx).2 y hy
 unfold gK
 match k with
 | 0 => exact h0
 | 1 => exact h1
 | 2 => exact h2
 | 3 => exact h3
 | _ + 4 => simp
theorem bK_bound (k : Nat) : 0 ≤ bK k ∧ bK k ≤ 1 := by unfold bK; split <;> omega
theorem slR_formN {α : Type} {sz : Nat} {R : World → List Value → α → Prop} {w : World} {v : Value} {l : List α} (h : SlR sz R w v l) : ∃ A n c, v = .slice A n c ∧ n = l.length := by
 obtain ⟨A, c, e⟩ := h.form
 exact ⟨A, _, c, e, rfl⟩
theorem ofL_yes {ck : Int} {ss : List QSchema} {a : List QClaims} (h : ofE ck ss a = 0) : (ofL ck ss a).length = 4 := by rw [ofL_len, if_pos h]
theorem one_row (FA VA : Option Addr) (nf cf nv cv : Nat) (c : QClaims) (W : World) (hF : SlR 1 intR W (.slice FA nf cf) c.fields) (hV : SlR 1 intR W (.slice VA nv cv) c.values) :
 SlR 3 qClaimsR (W.alloc (.cells #[.int .i64 c.schema, .slice FA nf cf, .slice VA nv cv] 42)) (.slice (some ⟨W.heap.size, 0, none⟩) 1 1) [c] :=
 slR_lit (cs := [.int .i64 c.schema, .slice FA nf cf, .slice VA nv cv]) (Blk.new _ _ _) rfl ⟨FA, nf, cf, VA, nv, cv, rfl, hF.mono intR_mono ((Below.refl _ _).alloc (Nat.le_refl _) _), hV.mono intR_mono ((Below.refl _ _).alloc (Nat.le_refl _) _)⟩
theorem few_one (FA VA : Option Addr) (nf cf nv cv : Nat) (c : QClaims) (W : World) (hF : SlR 1 intR W (.slice FA nf cf) c.fields) (hV : SlR 1 intR W (.slice VA nv cv) c.values) :
 Calls Tryz.prog 11 #[.slice (some ⟨W.heap.size, 0, none⟩) 1 1] (W.alloc (.cells #[.int .i64 c.schema, .slice FA nf cf, .slice VA nv cv] 42)) fun e w' => e = .returned (.bool (fewP [c])) ∧ Below W.heap.size W w' := by
 refine (refFew_any _ 1 1 [c] _ (one_row FA VA nf cf nv cv c W hF hV)).mono ?_
 rintro e w' ⟨rfl, hb⟩
 exact ⟨rfl, ((Below.refl _ _).alloc (Nat.le_refl _) _).trans (hb.mono (by simp))⟩
theorem Known.of_one {T T6 : Value} {ck : Int} {ss : List QSchema} {w : World} (hk : Known T T6 ck ss w) (FA VA : Option Addr) (nf cf nv cv : Nat) (c : QClaims) (W : World) (hW : Below w.heap.size w W) (hF : SlR 1 intR W (.slice FA nf cf) c.fields) (hV : SlR 1 intR W (.slice VA nv cv) c.values) :
 Calls Tryz.prog 12 #[T, .slice (some ⟨W.heap.size, 0, none⟩) 1 1] (W.alloc (.cells #[.int .i64 c.schema, .slice FA nf cf, .slice VA nv cv] 42)) fun e w' => ∃ v, e = .returned (.tuple #[v, .int .i64 (wholeE ck ss c.schema c.fields nv)]) ∧ SlR 1 iR w' v (ofL ck ss [c]) ∧ Below W.heap.size W w' := by
 refine (hk.of_ _ 1 1 [c] _ (hW.trans (((Below.refl _ _).alloc (Nat.le_refl _) _).mono hW.size)) ⟨one_row FA VA nf cf nv cv c W hF hV, by simp⟩).mono ?_
 rintro e w' ⟨v, rfl, hv, hb⟩
 exact ⟨v, by rw [ofE_sing, hV.len], hv, ((Below.refl _ _).alloc (Nat.le_refl _) _).trans (hb.mono (by simp))⟩
theorem Tryz.infoIntW : (Tryz.prog.info? 3).map (fun i => (i.zero, i.size, i.bytes)) = some (some (.int .i64 0), 1, 8) := by kernel_rfl
theorem Blk.three {w : World} {g : Nat} {t : TypeId} {a b c : Value} (h : Blk w g t #[a, b, c]) : w.cell? ⟨g, 0, none⟩ = some a ∧ w.cell? ⟨g, 1, none⟩ = some b ∧ w.cell? ⟨g, 2, none⟩ = some c := ⟨h.cell 0, h.cell 1, h.cell 2⟩
theorem ck_isI64 {nv : Nat} {w : World} {A : Option Addr} {c : Nat} {l : List Int} (h : SlR 1 intR w (.slice A nv c) l) : nv ≤ 9223372036854775807 := by have := h.le; omega
open Go.ChangeShapes Go.WideShapes Go.ChangeAt Go.Deep
section
variable {H : Type} {enc : TypeId × Value → H} {P : Program} {w : World} {base : Nat} {hd : Bool}
theorem addr_plus (b off k : Nat) : (Addr.mk b off none).add k = ⟨b, off + k, none⟩ := by
 unfold Addr.add
 split
 · subst_vars; rfl
 · rfl
theorem trodAll_stays (hl : laidOutB P = true) {W W' : World} {sp : Nat → Bool} (hb : Below W.heap.size W W') : ∀ {ts : List TypeId} {vs : List Value} {ds : List (DataW H)} {ps : List MemPlace},
 ts.all (fun t => P.readableRec t && decide (t < P.types.size)) = true → DataW.TrodAll enc P W 0 (fun _ => true) true ts vs ds ps → (∀ x ∈ ps, x.block < W.heap.size) → (∀ x ∈ ps, sp x.block = true) →
 DataW.TrodAll enc P W' 0 sp true ts vs ds ps
 |
  [], _, _, _, _, h, _, _ => by
  obtain ⟨rfl, rfl, rfl⟩ := trodAll_nil h
  exact trodAll_mk0
 |
  t :: ts, _, _, _, ht, h, hlt, hsp => by
  obtain ⟨v, vs, d, ds, p, q, rfl, rfl, rfl, h1, h2⟩ := trodAll_cons h
  simp only [List.all_cons, Bool.and_eq_true, decide_eq_true_eq] at ht
  exact trodAll_cons_mk (WideElems.Trod_stays hl ht.1.1 ht.1.2 h1 (fun x hx => hb.same (hlt x (List.mem_append_left _ hx))) (fun x hx => hsp x (List.mem_append_left _ hx)))
   (trodAll_stays hl hb ht.2 h2 (fun x hx => hlt x (List.mem_append_right _ hx)) (fun x hx => hsp x (List.mem_append_right _ hx)))
theorem law_post (hl : laidOutB P = true) {f : Func} {s : ChangeSpec} {tb : TypeId} {apart fresh handsOn : Bool} {W W' : World} {args : Array Value} {ds gs : List (DataW H)} {before : List MemPlace}
 (hW : DataW.Whole enc P f.params.toList s.vars apart W args.toList ds gs before) (hsv : s.vars = []) (hr : f.resultTypes = #[tb]) (htb : P.underlying tb = some .bool)
 (hts : f.params.toList.all (fun t => P.readableRec t && decide (t < P.types.size)) = true)
 (hres : (s.fn H (ds ++ gs)).results = [.lit (.bool true)]) (hargs : (s.fn H (ds ++ gs)).args = ds) (hvars : (s.fn H (ds ++ gs)).vars = [])
 (hb : Below W.heap.size W W') : s.post enc P f apart fresh handsOn false W args (.bool true) W' := by
 have hlt : ∀ x ∈ before, x.block < W.heap.size := fun x hx => hW.lt x hx
 have hW' := hW
 obtain ⟨p, q, hA, hV, rfl, hfz, hnd⟩ := hW
 rw [hsv] at hV
 obtain ⟨rfl, rfl⟩ := trodVars_none hV
 refine ⟨ds, [], p ++ [], [], p, [], hW', ?_, ?_, ?_, World.keptBut_mono (fun x hx => ⟨hx, ?_⟩) (hb.frame (· ∈ p ++ [])), fun h => ?_⟩
 ·
  rw [hres, hr]
  exact trodAll_mk1 (shut_bool htb true)
 ·
  rw [hargs]
  exact trodAll_stays hl hb hts hA (fun x hx => hlt x (List.mem_append_left _ hx)) (fun x hx => by simpa using hlt x (List.mem_append_left _ hx))
 ·
  rw [hvars, hsv]
  exact rfl
 · exact Or.inr (Or.inl (by simpa using hx))
 · cases h
end
end Go.Proofs.YtkgmonplcdnnbaaGreat
