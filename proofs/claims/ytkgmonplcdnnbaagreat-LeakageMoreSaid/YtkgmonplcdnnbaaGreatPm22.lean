/- Contract of numberPurpose; what the numbering functions have in common. -/
import Derived.Test.YtkgmonplcdnnbaaGreatPm18
import Derived.Test.YtkgmonplcdnnbaaGreatPm20
import Derived.Test.YtkgmonplcdnnbaaGreatPm21
import Derived.OneCell
import Derived.Deep.RegionWith
import Derived.RegionDies
namespace Go.Proofs.YtkgmonplcdnnbaaGreat
open Go.RowKit
def allTo {α β : Type} (f : List β → α → Option β) (l : List α) : Nat → Option (List β)
 | 0 => some []
 |
  k + 1 => match allTo f l k, l[k]? with
  | some out, some x => (f out x).map (fun y => out ++ [y])
  | some out, none => some out
  | none, _ => none
def allP {α β : Type} (f : List β → α → Option β) (l : List α) : Option (List β) := allTo f l l.length
section
variable {α β : Type} {f : List β → α → Option β} {l : List α}
theorem allTo_yes {k : Nat} {out : List β} {x : α} {y : β} (h : allTo f l k = some out) (hx : l[k]? = some x) (hy : f out x = some y) : allTo f l (k + 1) = some (out ++ [y]) := by
 rw [allTo, h, hx]; simp only [hy, Option.map_some]
theorem allTo_no {k : Nat} {out : List β} {x : α} (h : allTo f l k = some out) (hx : l[k]? = some x) (hy : f out x = none) : allTo f l (k + 1) = none := by
 rw [allTo, h, hx]; simp only [hy, Option.map_none]
theorem allTo_none {k : Nat} (h : allTo f l k = none) : ∀ m, allTo f l (k + m) = none
 | 0 => h
 | m + 1 => by rw [← Nat.add_assoc, allTo, allTo_none h m]
theorem allP_none {k : Nat} (hk : k ≤ l.length) (h : allTo f l k = none) : allP f l = none := by
 have := allTo_none h (l.length - k)
 rwa [show k + (l.length - k) = l.length by omega] at this
theorem allTo_len : ∀ {k : Nat} {out : List β}, k ≤ l.length → allTo f l k = some out → out.length = k
 | 0, out, _, h => by rw [allTo, Option.some.injEq] at h; subst h; rfl
 |
  k + 1, out, hk, h => by
  have hu : l[k]? = some l[k] := List.getElem?_eq_getElem hk
  cases ho : allTo f l k with
  | none => rw [allTo, ho] at h; cases h
  |
   some o =>
   cases hy : f o l[k] with
   | none => rw [allTo_no ho hu hy] at h; cases h
   |
    some y =>
    rw [allTo_yes ho hu hy, Option.some.injEq] at h
    subst h
    simp [allTo_len (by omega) ho]
end
def RetElem {α : Type} (T : TypeId) (sz : Nat) (R : World → List Value → α → Prop) (base G n cap i : Nat) (cs : List Value) (lo M : Nat) (res : Option α) (w : World) (e : Ending) (w' : World) : Prop :=
 w.grownBy w' (some G) ∧ match res with
  | none => e = .panicked nothingP
  | some x => e = .returned (.tuple #[]) ∧ ∃ cs', w'.ownsRow base T sz (.slice (some ⟨G, 0, none⟩) n cap) n cs' ∧ (∀ j, j ≠ i → chunk cs' sz j = chunk cs sz j) ∧ R (mask lo M w') (chunk cs' sz i) x
section
variable {α : Type} {T : TypeId} {sz : Nat} {R : World → List Value → α → Prop} {base G n cap i : Nat} {cs : List Value} {lo M : Nat} {w w' : World}
theorem retElem_no {res : Option α} (h : res = none) (hg : w.grownBy w' (some G)) : RetElem T sz R base G n cap i cs lo M res w (.panicked nothingP) w' := by
 subst h; exact ⟨hg, rfl⟩
theorem retElem_yes {res : Option α} {x : α} (h : res = some x) (hg : w.grownBy w' (some G)) {cs' : List Value} (ho : w'.ownsRow base T sz (.slice (some ⟨G, 0, none⟩) n cap) n cs') (hc : ∀ j, j ≠ i → chunk cs' sz j = chunk cs sz j) (hx : R (mask lo M w') (chunk cs' sz i) x) :
 RetElem T sz R base G n cap i cs lo M res w (.returned (.tuple #[])) w' := by
 subst h; exact ⟨hg, rfl, cs', ho, hc, hx⟩
end
theorem grown_far {a w : World} {row : Option Nat} (h : a.grownBy w row) {p : Addr} (hp : a.heap.size ≤ p.block) (v : Value) : a.grownBy (w.setCell p v) row :=
 ⟨h.os, h.tape, h.output, by simpa [World.setCell] using h.size, fun k hk hne => (Below.heap_setCell w p v k (by omega)).trans (h.block k hk hne)⟩
theorem grown_near {a w : World} {G : Nat} (h : a.grownBy w (some G)) (o : Nat) (v : Value) : a.grownBy (w.setCell ⟨G, o, none⟩ v) (some G) :=
 ⟨h.os, h.tape, h.output, by simpa [World.setCell] using h.size, fun k hk hne => (Below.heap_setCell w _ v k (fun e => hne (by rw [e]))).trans (h.block k hk hne)⟩
theorem grown_of_below {w w' : World} (h : Below w.heap.size w w') (row : Option Nat) : w.grownBy w' row := ⟨h.os, h.tape, h.output, h.size, fun k hk _ => h.block k hk⟩
theorem own_far {w : World} {base : Nat} {e : TypeId} {sz : Nat} {v : Value} {n : Nat} {cs : List Value} (h : w.ownsRow base e sz v n cs) {p : Addr} (hp : p.block < base) (u : Value) : (w.setCell p u).ownsRow base e sz v n cs :=
 ownsRow_setCell_other h (a := p) (fun e => by have := h.lt _ e; omega) u
theorem own_ne {w : World} {base : Nat} {e : TypeId} {sz g n cap : Nat} {cs : List Value} (h : w.ownsRow base e sz (.slice (some ⟨g, 0, none⟩) n cap) n cs) {p : Addr} (hp : p.block ≠ g) (u : Value) : (w.setCell p u).ownsRow base e sz (.slice (some ⟨g, 0, none⟩) n cap) n cs :=
 ownsRow_setCell_other h (a := p) (fun e => by simp [Value.ownBlock] at e; exact hp e.symm) u
theorem own_below0 {w w' : World} {base : Nat} {e : TypeId} {size : Nat} {v : Value} {n : Nat} {xs : List Value} (h : w.ownsRow base e size v n xs) (hb : Below w.heap.size w w') : w'.ownsRow base e size v n xs :=
 h.kept (row := none) ⟨hb.os, hb.tape, hb.output, hb.size, fun k hk _ => hb.block k hk⟩ (by cases v.ownBlock <;> simp)
theorem own_row {w : World} {base : Nat} {e : TypeId} {sz : Nat} {v : Value} {n : Nat} {cs : List Value} (h : w.ownsRow base e sz v n cs) : (v = .slice none 0 0 ∧ n = 0) ∨ ∃ g cap, v = .slice (some ⟨g, 0, none⟩) n cap ∧ base ≤ g ∧ g < w.heap.size ∧ n ≤ 9223372036854775807 := by
 rcases h.2 with ⟨rfl, h0⟩ | ⟨g, cap, cur, rfl, h2, h3, h4, h5, _⟩
 · exact .inl ⟨rfl, h0⟩
 ·
  unfold maxLen at h5
  exact .inr ⟨g, cap, rfl, h2, (Array.getElem?_eq_some_iff.1 h3).1, by omega⟩
def refStep (s : QSource) (m : QRef) : Option QRef :=
 match idx (schemaNames s) m.name with
 | none => none
 |
  some a => match s.schemas[a]? with
  | none => none
  |
   some x => match idx (fieldNames x) m.path with
   | none => none
   | some f => some { m with schema := (a : Int), field := (f : Int) }
def purposeP (s : QSource) (p : QPurpose) : Option QPurpose := (allP (fun _ => refStep s) p.may).map (fun l => { p with may := l })
theorem idx_lt {l : List ByteArray} {x : ByteArray} {n : Nat} (h : idx l x = some n) : n < l.length := by
 unfold idx at h
 rw [List.findIdx?_eq_some_iff_findIdx_eq] at h
 exact h.1
theorem ref_put {w : World} {cs : List Value} {l : List QRef} {k : Nat} {u : QRef} (h : CellsR 4 qRefR w cs l) (hk : l[k]? = some u) (a : Int) : CellsR 4 qRefR w (cs.set (k * 4 + 2) (.int .i64 a)) (l.set k { u with schema := a }) :=
 h.put (by omega) (List.getElem?_eq_some_iff.1 hk).1 (by
  have : chunk cs 4 k = _ := h.chunk hk
  rw [this]; rfl)
theorem ref_put3 {w : World} {cs : List Value} {l : List QRef} {k : Nat} {u : QRef} (h : CellsR 4 qRefR w cs l) (hk : l[k]? = some u) (a : Int) : CellsR 4 qRefR w (cs.set (k * 4 + 3) (.int .i64 a)) (l.set k { u with field := a }) :=
 h.put (by omega) (List.getElem?_eq_some_iff.1 hk).1 (by
  have : chunk cs 4 k = _ := h.chunk hk
  rw [this]; rfl)
set_option maxHeartbeats 2000000 in
set_option maxRecDepth 100000 in
theorem numberPurpose_any (R lo M base G n cap i : Nat) (cs : List Value) (s : QSource) (p : QPurpose) (w : World) (hres : ResR (mask lo M w) R s) (hlo : lo ≤ G) (hGM : G < M) (hMw : M ≤ w.heap.size)
 (ho : w.ownsRow base 89 3 (.slice (some ⟨G, 0, none⟩) n cap) n cs) (hi : i < n) (hp : qPurposeR (mask lo M w) (chunk cs 3 i) p) :
 Calls Tryz.prog 126 #[.pointer (some ⟨R, 0, none⟩), .pointer (some ⟨G, i * 3, none⟩)] w (RetElem 89 3 qPurposeR base G n cap i cs lo M (purposeP s p) w) := by
 obtain ⟨A1, n1, c1, hch, hmay⟩ := hp
 have p0 := own_cell ho hi (by omega) hch (j := 0) rfl
 have p1 := own_cell ho hi (by omega) hch (j := 1) rfl
 have hGw : G < w.heap.size := by omega
 have HRES := Lib.hid hres
 have HO := Lib.hid ho
 have HCH := Lib.hid hch
 have HMAY := Lib.hid (hmay.unm qRefR_unm)
 have HBD := Lib.hid hmay.2
 clear hres ho hch hmay
 go_enter Tryz.func126, Tryz.ntmps126
 go_wp2_with fail
 refine (cloneRef_any A1 n1 c1 p.may _ HMAY.out).mono ?_
 rintro e w1 ⟨v, cs1, rfl, hcs1, ho1, hb1⟩
 obtain ⟨vA, vn, vc, rfl⟩ : ∃ A m c, v = .slice A m c := by
  rcases own_row ho1 with ⟨rfl, _⟩ | ⟨g, cap, rfl, _⟩
  · exact ⟨_, _, _, rfl⟩
  · exact ⟨_, _, _, rfl⟩
 have q1 : w1.cell? ⟨G, i * 3 + 1, none⟩ = some (.slice A1 n1 c1) := ((bcell hb1).1 _ _ hGw).trans p1
 have hf1 : w1.frozen? ⟨G, i * 3 + 1, none⟩ = false := ((bcell hb1).2 _ _ hGw).trans (HO.out.frozenAt _)
 have hG1 : G < w1.heap.size := Nat.lt_of_lt_of_le hGw hb1.size
 have HO1 := Lib.hid ho1
 have HC1 := Lib.hid hcs1
 have HB1 := Lib.hid hb1
 clear ho1 hcs1 hb1 p0 p1
 go_wp2_with fail
 have ho2 : (w1.setCell ⟨G, i * 3 + 1, none⟩ (.slice vA vn vc)).ownsRow base 89 3 (.slice (some ⟨G, 0, none⟩) n cap) n (cs.set (i * 3 + 1) (.slice vA vn vc)) := ((own_below0 HO.out HB1.out).stored (i * 3 + 1) (.slice vA vn vc)).1
 have hi2 : (w1.setCell ⟨G, i * 3 + 1, none⟩ (.slice vA vn vc)).ownsRow w.heap.size 160 4 (.slice vA vn vc) p.may.length cs1 := own_far HO1.out (by simpa using hGw) _
 have hg2 : w.grownBy (w1.setCell ⟨G, i * 3 + 1, none⟩ (.slice vA vn vc)) (some G) := grown_near (grown_of_below HB1.out _) _ _
 generalize w1.setCell ⟨G, i * 3 + 1, none⟩ (.slice vA vn vc) = w2 at ho2 hi2 hg2 ⊢
 have hvn : vn = p.may.length := by
  rcases own_row hi2 with ⟨h, h0⟩ | ⟨g, cap, h, _⟩
  · injection h with _ h; omega
  · injection h
 have HO2 := Lib.hid ho2
 have HI2 := Lib.hid hi2
 have HG2 := Lib.hid hg2
 have HVN := Lib.hid hvn
 clear ho2 hi2 hg2 hvn q1 hf1 hG1 HO1 HB1
 go_loopg [19] vn (fun q j wr => ∃ (k : Nat) (out : List QRef) (cr : List Value), k ≤ vn ∧ q = vn - k ∧ j = .int .i64 k ∧ allTo (fun _ => refStep s) p.may k = some out ∧ w.grownBy wr (some G) ∧ wr.ownsRow base 89 3 (.slice (some ⟨G, 0, none⟩) n cap) n (cs.set (i * 3 + 1) (.slice vA vn vc)) ∧
  wr.ownsRow w.heap.size 160 4 (.slice vA vn vc) p.may.length cr ∧ CellsR 4 qRefR w cr (out ++ p.may.drop k))
 case atStart => exact ⟨0, [], cs1, Nat.zero_le _, rfl, rfl, rfl, HG2.out, HO2.out, HI2.out, HC1.out⟩
 case round =>
  clear HO2 HI2 HG2 HC1
  obtain ⟨k, out, cr, hk, hq, rfl, hto, hgr, hog, hoh, hcr⟩ := hrel
  have HQ := Lib.hid hq
  have HTO := Lib.hid hto
  clear hq hto
  by_cases hlt : k < vn
  ·
   rcases own_row hoh with ⟨h, h0⟩ | ⟨H, hcap, h, hH, hHw, hn2⟩
   · exfalso; injection h with _ h; omega
   injection h with h1 h2 h3
   subst h1 h3
   clear h2
   have hvn2 : vn ≤ 9223372036854775807 := by have := HVN.out; omega
   obtain ⟨m, hm⟩ : ∃ m, p.may[k]? = some m := ⟨p.may[k]'(by have := HVN.out; omega), List.getElem?_eq_getElem _⟩
   have hlen := allTo_len (by have := HVN.out; omega) HTO.out
   have hat : (out ++ p.may.drop k)[k]? = some m := by
    rw [List.getElem?_append_right (by omega), List.getElem?_drop, hlen]
    simpa using hm
   have hch : chunk cr 4 k = [.string m.name, .string m.path, .int .i64 m.schema, .int .i64 m.field] := hcr.chunk hat
   have hoh' : wr.ownsRow w.heap.size 160 4 (.slice (some ⟨H, 0, none⟩) vn vc) vn cr := by have := HVN.out; rw [this] at hoh ⊢; exact hoh
   have e0 := own_cell hoh' hlt (by omega) hch (j := 0) rfl
   simp only [Nat.add_zero] at e0
   have e1 := own_cell hoh' hlt (by omega) hch (j := 1) rfl
   have e2 := own_cell hoh' hlt (by omega) hch (j := 2) rfl
   have e3 := own_cell hoh' hlt (by omega) hch (j := 3) rfl
   have f2 := hoh'.frozenAt (k * 4 + 2)
   have hchG : chunk (cs.set (i * 3 + 1) (.slice (some ⟨H, 0, none⟩) vn vc)) 3 i = [.string p.name, .slice (some ⟨H, 0, none⟩) vn vc, .int .i64 p.most] := by rw [chunk_set _ (by omega), HCH.out]; rfl
   have g1 := own_cell hog hi (by omega) hchG (j := 1) rfl
   obtain ⟨b1, b2, b3, fA, fn, fc, hbR, hm1, hm2, hm3, hfs⟩ := (HRES.out.below (mask_below hgr hlo hGM)).unm
   have r2 := hbR.cell 2
   have r3 := hbR.cell 3
   have lR := hbR.lt
   simp only [List.getElem?_toArray, List.getElem?_cons_zero, List.getElem?_cons_succ] at r2 r3
   have hget := col_get (schemaNames s) m.name
   have HGR := Lib.hid hgr
   have HOG := Lib.hid hog
   have HOH := Lib.hid hoh'
   have HCR := Lib.hid hcr
   have HM := Lib.hid hm
   have HLEN := Lib.hid hlen
   have HAT := Lib.hid hat
   have HM3 := Lib.hid (hm3.same (w' := wr.drew) rfl)
   have HFS := Lib.hid hfs
   clear hgr hog hoh hoh' hcr hm hlen hat hch hchG hbR hm1 hm2 hm3 hfs
   have hkn : (k : Int) < (vn : Int) := by omega
   have hk0 : (0 : Int) ≤ (k : Int) := by omega
   cases hix : idx (schemaNames s) m.name with
   |
    none =>
    rw [hix] at hget
    have HIX := Lib.hid hix
    have HGET := Lib.hid hget
    clear hix hget
    go_wp2_with fail
    have HNO : Hid (RetElem 89 3 qPurposeR base G n cap i cs lo M (purposeP s p) w (.panicked nothingP) wr.drew) := by
     refine retElem_no ?_ (grown_drew HGR.out)
     unfold purposeP
     rw [allP_none (k := k + 1) (by have := HVN.out; omega) (allTo_no HTO.out HM.out (by unfold refStep; rw [HIX.out]))]
     rfl
    go_region_dies
    all_goals
     refine (find_no b3 _ _ _ HM3.out HGET.out).mono ?_
     rintro e w' ⟨rfl, rfl⟩
     exact ⟨rfl, HNO.out⟩
   |
    some a =>
    rw [hix] at hget
    have HIX := Lib.hid hix
    have HF := Lib.hid ((find_yes b3 _ _ (a : Int) wr.drew HM3.out hget).mono (R' := fun e w' => e = .returned (.int .i64 a) ∧ w' = wr.drew) (fun _ _ h => ⟨h.1, h.2.symm⟩))
    have hal := idx_lt hix
    clear hix hget
    go_wp2_with fail
    refine wp_region_still_tail 12 (by kernel_rfl) (by kernel_rfl) ?_
    simp only [List.take_succ_cons, List.take_zero, List.drop_succ_cons, List.drop_zero]
    repeat still_step
    still_call HF.out
    repeat still_step
    refine wpStill_nil ?_
    change wpList _ _ _ _ _ wr.drew
    go_upto_region 6 with fail
    have hoq := (HOH.out.stored (k * 4 + 2) (.int .i64 a)).1.drew
    have hgq : w.grownBy (wr.setCell ⟨H, k * 4 + 2, none⟩ (.int .i64 a)).drew (some G) := grown_drew (grown_far HGR.out (by simpa using hH) _)
    have hogq := (own_ne HOG.out (p := ⟨H, k * 4 + 2, none⟩) (by simp; omega) (.int .i64 a)).drew
    have hcq := ref_put HCR.out HAT.out (a : Int)
    generalize (wr.setCell ⟨H, k * 4 + 2, none⟩ (.int .i64 a)).drew = wq at hoq hgq hogq ⊢
    generalize cr.set (k * 4 + 2) (.int .i64 a) = cq at hoq hcq
    have hkl : k < (out ++ p.may.drop k).length := (List.getElem?_eq_some_iff.1 HAT.out).1
    have hatk : ((out ++ p.may.drop k).set k { m with schema := (a : Int) })[k]? = some { m with schema := (a : Int) } := List.getElem?_set_self hkl
    have hck : chunk cq 4 k = [.string m.name, .string m.path, .int .i64 a, .int .i64 m.field] := hcq.chunk hatk
    have d1 := own_cell hoq hlt (by omega) hck (j := 1) rfl
    have d2 := own_cell hoq hlt (by omega) hck (j := 2) rfl
    have d3 := own_cell hoq hlt (by omega) hck (j := 3) rfl
    have fd3 := hoq.frozenAt (k * 4 + 3)
    obtain ⟨b1', b2', b3', fA', fn', fc', hbR', _, _, _, hfs'⟩ := (HRES.out.below (mask_below hgq hlo hGM)).unm
    have s3 := hbR'.cell 3
    have lR' := hbR'.lt
    simp only [List.getElem?_toArray, List.getElem?_cons_zero, List.getElem?_cons_succ] at s3
    have hfn : fn' = s.schemas.length := by have := hfs'.len; simpa using this
    have hal' : a < fn' := by rw [hfn]; simpa [schemaNames] using hal
    obtain ⟨fb, foff, fm, fg, rfl, hfb, hfm, hfc, hfmap⟩ := map_at hfs' hal'
    obtain ⟨x, hx⟩ : ∃ x, s.schemas[a]? = some x := ⟨s.schemas[a]'(by omega), List.getElem?_eq_getElem _⟩
    have hfx : fm = fieldMap x := by rw [List.getElem?_map, hx, Option.map_some, Option.some.injEq] at hfm; exact hfm.symm
    subst hfx
    have hget := col_get (fieldNames x) m.path
    have HOQ := Lib.hid hoq
    have HGQ := Lib.hid hgq
    have HOGQ := Lib.hid hogq
    have HCQ := Lib.hid hcq
    have HATK := Lib.hid hatk
    have HFM := Lib.hid (hfmap.same (w' := wq.drew) rfl)
    have HX := Lib.hid hx
    clear hoq hgq hogq hcq hkl hatk hck hbR' hfs' hfm hfmap hx e0 e1 e2 e3 f2 g1 r2 r3 lR hfn hal HF
    have ha0 : (0 : Int) ≤ (a : Int) := by omega
    have han : (a : Int) < (fn' : Int) := by omega
    cases hix : idx (fieldNames x) m.path with
    |
     none =>
     rw [hix] at hget
     have HIX2 := Lib.hid hix
     have HGET := Lib.hid hget
     clear hix hget
     have HNO : Hid (RetElem 89 3 qPurposeR base G n cap i cs lo M (purposeP s p) w (.panicked nothingP) wq.drew) := by
      refine retElem_no ?_ (grown_drew HGQ.out)
      unfold purposeP
      rw [allP_none (k := k + 1) (by have := HVN.out; omega) (allTo_no HTO.out HM.out (by unfold refStep; rw [HIX.out]; simp only [HX.out]; rw [HIX2.out]))]
      rfl
     go_region_dies
     all_goals
      refine (find_no fg _ _ _ HFM.out HGET.out).mono ?_
      rintro e w' ⟨rfl, rfl⟩
      exact ⟨rfl, HNO.out⟩
    |
     some f =>
     rw [hix] at hget
     have HIX2 := Lib.hid hix
     have HF := Lib.hid ((find_yes fg _ _ (f : Int) wq.drew HFM.out hget).mono (R' := fun e w' => e = .returned (.int .i64 f) ∧ w' = wq.drew) (fun _ _ h => ⟨h.1, h.2.symm⟩))
     clear hix hget
     refine wp_region_still_tail 18 (by kernel_rfl) (by kernel_rfl) ?_
     simp only [List.take_succ_cons, List.take_zero, List.drop_succ_cons, List.drop_zero]
     repeat still_step
     still_call HF.out
     repeat still_step
     refine wpStill_nil ?_
     change wpList _ _ _ _ _ wq.drew
     go_wp2_with fail
     go_roundg (vn - (k + 1))
     case measure => have := HQ.out; omega
     case rel =>
      have ho3 := (HOQ.out.drew.stored (k * 4 + 3) (.int .i64 f)).1
      have hc3 := ref_put3 HCQ.out HATK.out (f : Int)
      rw [List.set_set] at hc3
      refine ⟨k + 1, out ++ [{ m with schema := (a : Int), field := (f : Int) }], cq.set (k * 4 + 3) (.int .i64 f), by omega, rfl, by go_num, ?_, grown_far (grown_drew HGQ.out) (by simpa using hH) _, own_ne HOGQ.out.drew (by simp; omega) _, ?_, ?_⟩
      · exact allTo_yes HTO.out HM.out (by unfold refStep; rw [HIX.out]; simp only [HX.out]; rw [HIX2.out])
      · have := HVN.out; rw [this] at ho3 ⊢; exact ho3
      · rw [← set_drop HLEN.out HM.out]; exact hc3
  ·
   have hke : k = p.may.length := by have := HVN.out; omega
   go_wp2_with fail
   go_end0
   have hP : purposeP s p = some { p with may := out } := by
    unfold purposeP allP
    rw [← hke, HTO.out]; rfl
   have hsl : SlR 4 qRefR (mask lo M wr) (.slice vA vn vc) out := by
    rw [hke, List.drop_length, List.append_nil] at hcr
    exact slR_of_row (mask_own hoh hMw) ⟨hcr.1, hcr.2⟩ (by rw [allTo_len (by omega) HTO.out, hke])
   refine retElem_yes hP hgr hog (fun j hj => chunk_other _ (by omega) hj) ?_
   refine ⟨vA, vn, vc, ?_, hsl, ?_⟩
   · rw [chunk_set _ (by omega), HCH.out]; rfl
   ·
    have := HBD.out
    rw [allTo_len (by omega) HTO.out, hke]; exact this
end Go.Proofs.YtkgmonplcdnnbaaGreat
