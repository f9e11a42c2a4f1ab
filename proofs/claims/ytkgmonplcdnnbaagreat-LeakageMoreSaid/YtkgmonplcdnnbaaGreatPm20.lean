/- The bases and scales of units: plain, and the contract of numberUnits. -/
import Derived.Test.YtkgmonplcdnnbaaGreatPm18
import Derived.Test.YtkgmonplcdnnbaaGreatPm19
import Derived.StillTailTactics
import Derived.Deep.DeepCutAuto
namespace Go.Proofs.YtkgmonplcdnnbaaGreat
open Go.RowKit
def noStr : ByteArray := ⟨#[]⟩
def scaleOf (u b : QUnit) : Int := if 2 ≤ u.factor ∧ u.factor ≤ 1000 ∧ u.factor * b.scale ≤ 1099511627776 then u.factor * b.scale else 0
def unitStep (names : List ByteArray) (out : List QUnit) (u : QUnit) : Option (List QUnit) :=
 if u.of_ = noStr then some (out ++ [{ u with base := (out.length : Int), scale := 1 }])
 else match idx names u.of_ with
  | none => none
  |
   some n => match out[n]? with
   | none => none
   | some b => some (out ++ [{ u with base := b.base, scale := scaleOf u b }])
def unitsTo (names : List ByteArray) (us : List QUnit) : Nat → Option (List QUnit)
 | 0 => some []
 |
  k + 1 => match unitsTo names us k, us[k]? with
  | some out, some u => unitStep names out u
  | some out, none => some out
  | none, _ => none
def unitsP (names : List ByteArray) (us : List QUnit) : Option (List QUnit) := unitsTo names us us.length
theorem unitsTo_succ {names : List ByteArray} {us : List QUnit} {k : Nat} {out : List QUnit} {u : QUnit} (h : unitsTo names us k = some out) (hu : us[k]? = some u) : unitsTo names us (k + 1) = unitStep names out u := by
 rw [unitsTo, h, hu]
theorem unitsTo_none {names : List ByteArray} {us : List QUnit} {k : Nat} (h : unitsTo names us k = none) : ∀ m, unitsTo names us (k + m) = none
 | 0 => h
 | m + 1 => by rw [← Nat.add_assoc, unitsTo, unitsTo_none h m]
theorem unitsP_none {names : List ByteArray} {us : List QUnit} {k : Nat} (hk : k ≤ us.length) (h : unitsTo names us k = none) : unitsP names us = none := by
 have := unitsTo_none h (us.length - k)
 rwa [show k + (us.length - k) = us.length by omega] at this
theorem unitStep_len {names : List ByteArray} {out out' : List QUnit} {u : QUnit} (h : unitStep names out u = some out') : ∃ x, out' = out ++ [x] := by
 unfold unitStep at h
 split at h
 · exact ⟨_, (Option.some.inj h).symm⟩
 ·
  split at h
  · cases h
  ·
   split at h
   · cases h
   · exact ⟨_, (Option.some.inj h).symm⟩
theorem unitsTo_len {names : List ByteArray} {us : List QUnit} : ∀ {k : Nat} {out : List QUnit}, k ≤ us.length → unitsTo names us k = some out → out.length = k
 | 0, out, _, h => by rw [unitsTo, Option.some.injEq] at h; subst h; rfl
 |
  k + 1, out, hk, h => by
  have hu : us[k]? = some us[k] := List.getElem?_eq_getElem hk
  cases ho : unitsTo names us k with
  | none => rw [unitsTo, ho] at h; cases h
  |
   some o =>
   rw [unitsTo_succ ho hu] at h
   obtain ⟨x, rfl⟩ := unitStep_len h
   simp [unitsTo_len (by omega) ho]
def ScB (out : List QUnit) : Prop := ∀ x ∈ out, 0 ≤ x.scale ∧ x.scale ≤ 1099511627776
theorem unitStep_sc {names : List ByteArray} {out out' : List QUnit} {u : QUnit} (hs : ScB out) (h : unitStep names out u = some out') : ScB out' := by
 unfold unitStep at h
 split at h
 ·
  rw [Option.some.injEq] at h
  subst h
  intro x hx
  rcases List.mem_append.1 hx with hx | hx
  · exact hs x hx
  · rw [List.mem_singleton.1 hx]; simp
 ·
  split at h
  · cases h
  ·
   split at h
   · cases h
   ·
    rename_i b hb
    rw [Option.some.injEq] at h
    subst h
    intro x hx
    rcases List.mem_append.1 hx with hx | hx
    · exact hs x hx
    ·
     rw [List.mem_singleton.1 hx]
     have hbs := hs b (List.mem_of_getElem? hb)
     simp only [scaleOf]
     split
     ·
      rename_i hc
      refine ⟨Int.mul_nonneg (by omega) hbs.1, hc.2.2⟩
     · simp
theorem unitsTo_sc {names : List ByteArray} {us : List QUnit} : ∀ {k : Nat} {out : List QUnit}, unitsTo names us k = some out → ScB out
 | 0, out, h => by rw [unitsTo, Option.some.injEq] at h; subst h; intro x hx; cases hx
 |
  k + 1, out, h => by
  cases ho : unitsTo names us k with
  | none => rw [unitsTo, ho] at h; cases h
  |
   some o =>
   cases hu : us[k]? with
   |
    none =>
    rw [unitsTo, ho, hu] at h
    rw [← Option.some.inj h]
    exact unitsTo_sc ho
   |
    some u =>
    rw [unitsTo_succ ho hu] at h
    exact unitStep_sc (unitsTo_sc ho) h
def RetUnits (names : List ByteArray) (us : List QUnit) (base : Nat) (v : Value) (n : Nat) (w : World) (e : Ending) (w' : World) : Prop :=
 w.grownBy w' v.ownBlock ∧ match unitsP names us with
  | none => e = .panicked nothingP
  | some out => e = .returned (.tuple #[]) ∧ ∃ cs, w'.ownsRow base 116 5 v n cs ∧ CellsR 5 qUnitR w cs out
theorem retUnits_no {names : List ByteArray} {us : List QUnit} {base : Nat} {v : Value} {n : Nat} {w w' : World} (h : unitsP names us = none) (hg : w.grownBy w' v.ownBlock) : RetUnits names us base v n w (.panicked nothingP) w' := by
 refine ⟨hg, ?_⟩
 rw [h]
theorem retUnits_yes {names : List ByteArray} {us out : List QUnit} {base : Nat} {v : Value} {n : Nat} {w w' : World} {cs : List Value} (h : unitsP names us = some out) (hg : w.grownBy w' v.ownBlock) (ho : w'.ownsRow base 116 5 v n cs) (hc : CellsR 5 qUnitR w cs out) : RetUnits names us base v n w (.returned (.tuple #[])) w' := by
 refine ⟨hg, ?_⟩
 rw [h]
 exact ⟨rfl, cs, ho, hc⟩
theorem own_cells {w : World} {base : Nat} {e : TypeId} {sz g n cap : Nat} {cs : List Value} (h : w.ownsRow base e sz (.slice (some ⟨g, 0, none⟩) n cap) n cs) : ∃ cs t f, w.heap[g]? = some (Obj.cells cs t f) := by
 rcases h.2 with ⟨h, _⟩ | ⟨g', cap', cur, h, _, hh, _⟩
 · cases h
 ·
  injection h with h1
  injection h1 with h1
  injection h1 with h1
  subst h1
  exact ⟨_, _, _, hh⟩
theorem grown_trans {a b c : World} {row : Option Nat} (h : a.grownBy b row) (h' : b.grownBy c row) : a.grownBy c row :=
 ⟨h'.os.trans h.os, h'.tape.trans h.tape, h'.output.trans h.output, Nat.le_trans h.size h'.size, fun k hk hne => (h'.block k (Nat.lt_of_lt_of_le hk h.size) hne).trans (h.block k hk hne)⟩
theorem noStr_list : noStr.toList = [] := by rw [ByteArray.toList_eq]; rfl
theorem noStr_ne {s : ByteArray} (h : s ≠ noStr) : s.toList.isEmpty = false := by
 cases hs : s.toList with
 | nil => exact absurd ((str_eq s noStr).1 (by rw [hs, noStr_list]; rfl)) h
 | cons a r => rfl
theorem unit_put {w : World} {cs : List Value} {l : List QUnit} {k : Nat} {u : QUnit} (h : CellsR 5 qUnitR w cs l) (hk : l[k]? = some u) (b s : Int) : CellsR 5 qUnitR w ((cs.set (k * 5 + 3) (.int .i64 b)).set (k * 5 + 4) (.int .i64 s)) (l.set k { u with base := b, scale := s }) := by
 have hkl := (List.getElem?_eq_some_iff.1 hk).1
 have h1 : CellsR 5 qUnitR w (cs.set (k * 5 + 3) (.int .i64 b)) (l.set k { u with base := b }) := h.put (by omega) hkl (by
  have : chunk cs 5 k = _ := h.chunk hk
  rw [this]; rfl)
 have h2 := h1.put (i := k) (j := 4) (x' := { u with base := b, scale := s }) (u := .int .i64 s) (by omega) (by simpa using hkl) (by
  have : chunk _ 5 k = _ := h1.chunk (i := k) (by rw [List.getElem?_set_self hkl])
  rw [this]; rfl)
 rwa [List.set_set] at h2
set_option maxHeartbeats 2000000 in
set_option maxRecDepth 100000 in
theorem numberUnits_own (R b2 base g n cap : Nat) (us : List QUnit) (cs : List Value) (names : List ByteArray) (w : World) (hR : w.cell? ⟨R, 1, none⟩ = some (.map (some b2))) (hRl : R < w.heap.size) (hm : MapAt strW i64W w b2 (col names).1) (hgR : g ≠ R)
 (ho : w.ownsRow base 116 5 (.slice (some ⟨g, 0, none⟩) n cap) n cs) (hc : CellsR 5 qUnitR w cs us) (hn : n = us.length) :
 Calls Tryz.prog 122 #[.pointer (some ⟨R, 0, none⟩), .slice (some ⟨g, 0, none⟩) n cap] w (RetUnits names us base (.slice (some ⟨g, 0, none⟩) n cap) n w) := by
 have hn2 : n ≤ 9223372036854775807 := by
  rcases ho.2 with ⟨h, _⟩ | ⟨g', cap', cur, h, _, _, h1, h2, _⟩
  · cases h
  · unfold maxLen at h2; omega
 have HR := Lib.hid hR
 have HM := Lib.hid hm
 have HO := Lib.hid ho
 have HC := Lib.hid hc
 have HN := Lib.hid hn
 have HK0 := Lib.hid (own_cells ho)
 clear hR hm ho hc hn
 go_enter Tryz.func122, Tryz.ntmps122
 go_wp2_with fail
 go_loopg [9] n (fun q i wr => ∃ (k : Nat) (out : List QUnit) (cs' : List Value), k ≤ n ∧ q = n - k ∧ i = .int .i64 k ∧ unitsTo names us k = some out ∧ w.grownBy wr (some g) ∧ wr.ownsRow base 116 5 (.slice (some ⟨g, 0, none⟩) n cap) n cs' ∧ CellsR 5 qUnitR w cs' (out ++ us.drop k))
 case atStart => exact ⟨0, [], cs, Nat.zero_le _, rfl, rfl, rfl, World.grownBy.refl _ _, HO.out, HC.out⟩
 case round =>
  clear HO HC
  obtain ⟨k, out, cs', hk, hq, rfl, hto, hgr, ho, hc⟩ := hrel
  have HQ := Lib.hid hq
  have HTO := Lib.hid hto
  have HGR := Lib.hid hgr
  have HO := Lib.hid ho
  have HC := Lib.hid hc
  clear hq hto hgr ho hc
  by_cases hlt : k < n
  ·
   obtain ⟨u, hu⟩ : ∃ u, us[k]? = some u := ⟨us[k]'(by have := HN.out; omega), List.getElem?_eq_getElem _⟩
   have hlen := unitsTo_len (by have := HN.out; omega) HTO.out
   have hat : (out ++ us.drop k)[k]? = some u := by
    rw [List.getElem?_append_right (by omega), List.getElem?_drop, hlen]
    simpa using hu
   have hch : chunk cs' 5 k = [.string u.name, .string u.of_, .int .i64 u.factor, .int .i64 u.base, .int .i64 u.scale] := HC.out.chunk hat
   have c1 := own_cell HO.out hlt (by omega) hch (j := 1) rfl
   have c2 := own_cell HO.out hlt (by omega) hch (j := 2) rfl
   have c3 := own_cell HO.out hlt (by omega) hch (j := 3) rfl
   have c4 := own_cell HO.out hlt (by omega) hch (j := 4) rfl
   have f3 := HO.out.frozenAt (k * 5 + 3)
   have f4 := HO.out.frozenAt (k * 5 + 4)
   have HU := Lib.hid hu
   have HCH := Lib.hid hch
   have HLEN := Lib.hid hlen
   have HAT := Lib.hid hat
   clear hu hch hlen hat
   by_cases hof : u.of_ = noStr
   ·
    have t1 : u.of_.toList.isEmpty = true := by rw [hof, noStr_list]; rfl
    have t2 : u.of_.toList = [] := by rw [hof, noStr_list]
    have HOF := Lib.hid hof
    clear hof
    go_wp2_with fail
    go_roundg (n - (k + 1))
    case measure => have := HQ.out; omega
    case rel =>
     have ho1 := HO.out.stored (k * 5 + 3) (.int .i64 k)
     have ho2 := ho1.1.stored (k * 5 + 4) (.int .i64 1)
     refine ⟨k + 1, out ++ [{ u with base := (k : Int), scale := 1 }], _, by omega, rfl, by go_num, ?_, grown_trans HGR.out (grown_trans ho1.2 ho2.2), ho2.1, ?_⟩
     · rw [unitsTo_succ HTO.out HU.out, unitStep, if_pos HOF.out, HLEN.out]
     ·
      rw [← set_drop HLEN.out HU.out]
      exact unit_put HC.out HAT.out _ _
   ·
    have t1 : u.of_.toList.isEmpty = false := noStr_ne hof
    have t2 : ¬ u.of_.toList = [] := by intro e; rw [e] at t1; cases t1
    have HOF := Lib.hid hof
    clear hof
    have hRg : some R ≠ some g := by simp; exact fun e => hgR e.symm
    have hR2 : wr.cell? ⟨R, 1, none⟩ = some (.map (some b2)) := HGR.out.cell HR.out (by simpa using hRg)
    have hRl2 : R < wr.heap.size := Nat.lt_of_lt_of_le hRl HGR.out.size
    have hmw : MapAt strW i64W wr.drew b2 (col names).1 := (HM.out.keeps (KeepsMaps.grown HGR.out (fun x e => by cases e; exact HK0.out))).same rfl
    have HMW := Lib.hid hmw
    have hget := col_get names u.of_
    clear hmw
    go_wp2_with fail
    go_still_tail 8, (by kernel_rfl)
    change wpList _ _ _ _ _ wr.drew
    go_wp2_with fail
    cases hix : idx names u.of_ with
    |
     none =>
     rw [hix] at hget
     refine (find_no b2 _ _ wr.drew HMW.out hget).mono ?_
     rintro e w' ⟨rfl, rfl⟩
     have HIX := Lib.hid hix
     clear hix hget
     go_wp2
     refine ⟨rfl, retUnits_no (unitsP_none (k := k + 1) (by have := HN.out; omega) ?_) (grown_drew HGR.out)⟩
     rw [unitsTo_succ HTO.out HU.out, unitStep, if_neg HOF.out, HIX.out]
    |
     some m =>
     rw [hix] at hget
     refine (find_yes b2 _ _ (m : Int) wr.drew HMW.out hget).mono ?_
     rintro e w' ⟨rfl, rfl⟩
     have HIX := Lib.hid hix
     clear hix hget
     by_cases hmk : m < k
     ·
      obtain ⟨b, hb⟩ : ∃ b, out[m]? = some b := ⟨out[m]'(by have := HLEN.out; omega), List.getElem?_eq_getElem _⟩
      have hatm : (out ++ us.drop k)[m]? = some b := by rw [List.getElem?_append_left (by have := HLEN.out; omega)]; exact hb
      have hchm : chunk cs' 5 m = [.string b.name, .string b.of_, .int .i64 b.factor, .int .i64 b.base, .int .i64 b.scale] := HC.out.chunk hatm
      have d3 := own_cell HO.out (show m < n by omega) (by omega) hchm (j := 3) rfl
      have hsc := unitsTo_sc HTO.out b (List.mem_of_getElem? hb)
      have HB := Lib.hid hb
      have HCHM := Lib.hid hchm
      clear hb hatm hchm
      have hmn : (m : Int) < (n : Int) := by omega
      have hm0 : (0 : Int) ≤ (m : Int) := by omega
      have tk : decide (k ≤ m) = false := by simp; omega
      go_upto_region 10 with fail
      clear tk
      have ho1 := HO.out.stored (k * 5 + 3) (.int .i64 b.base)
      have ho2 := ho1.1.stored (k * 5 + 4) (.int .i64 0)
      have hoq := ho2.1.drew
      have hgq : w.grownBy ((wr.setCell ⟨g, k * 5 + 3, none⟩ (.int .i64 b.base)).setCell ⟨g, k * 5 + 4, none⟩ (.int .i64 0)).drew (some g) := grown_drew (grown_trans HGR.out (grown_trans ho1.2 ho2.2))
      have hcq : CellsR 5 qUnitR w _ ((out ++ us.drop k).set k { u with base := b.base, scale := 0 }) := unit_put HC.out HAT.out b.base 0
      generalize ((wr.setCell ⟨g, k * 5 + 3, none⟩ (.int .i64 b.base)).setCell ⟨g, k * 5 + 4, none⟩ (.int .i64 0)).drew = wq at hoq hgq ⊢
      generalize (cs'.set (k * 5 + 3) (.int .i64 b.base)).set (k * 5 + 4) (.int .i64 0) = cq at hoq hcq
      have hkl : k < (out ++ us.drop k).length := (List.getElem?_eq_some_iff.1 HAT.out).1
      have hatk : ((out ++ us.drop k).set k { u with base := b.base, scale := 0 })[k]? = some { u with base := b.base, scale := 0 } := List.getElem?_set_self hkl
      have hatm : ((out ++ us.drop k).set k { u with base := b.base, scale := 0 })[m]? = some b := by
       rw [List.getElem?_set_ne (by omega), List.getElem?_append_left (by have := HLEN.out; omega)]
       exact HB.out
      have hck : chunk cq 5 k = [.string u.name, .string u.of_, .int .i64 u.factor, .int .i64 b.base, .int .i64 0] := hcq.chunk hatk
      have hcm : chunk cq 5 m = [.string b.name, .string b.of_, .int .i64 b.factor, .int .i64 b.base, .int .i64 b.scale] := hcq.chunk hatm
      have e2 := own_cell hoq hlt (by omega) hck (j := 2) rfl
      have e4 := own_cell hoq hlt (by omega) hck (j := 4) rfl
      have g4 := own_cell hoq (show m < n by omega) (by omega) hcm (j := 4) rfl
      have fe4 := hoq.frozenAt (k * 5 + 4)
      have HOQ := Lib.hid hoq
      have HGQ := Lib.hid hgq
      have HCQ := Lib.hid hcq
      have HATK := Lib.hid hatk
      clear c1 c2 c3 c4 f3 f4 d3 ho1 ho2 hoq hgq hcq hck hcm hatk hatm hR2 hkl
      have hstep : ∀ z, scaleOf u b = z → unitsTo names us (k + 1) = some (out ++ [{ u with base := b.base, scale := z }]) := by
       intro z hz
       rw [unitsTo_succ HTO.out HU.out, unitStep, if_neg HOF.out, HIX.out]
       simp only [HB.out]
       rw [hz]
      have HST := Lib.hid hstep
      clear hstep
      by_cases h2 : ¬ 2 ≤ u.factor
      ·
       have t2 : decide ((2 : Int) ≤ u.factor) = false := by simpa using h2
       have HZ : Hid (scaleOf u b = 0) := by show _ = _; unfold scaleOf; rw [if_neg (fun h => h2 h.1)]
       clear h2
       go_quiet (fail)
       go_wp2_with fail
       go_roundg (n - (k + 1))
       case measure => have := HQ.out; omega
       case rel => exact ⟨k + 1, _, _, by omega, rfl, by go_num, HST.out 0 HZ.out, grown_drewN HGQ.out _, HOQ.out.kept (row := none) (grown_drewN (World.grownBy.refl _ _) _) (by simp [Value.ownBlock]), by rw [← set_drop HLEN.out HU.out]; exact HCQ.out⟩
      have h2' : 2 ≤ u.factor := Decidable.not_not.1 h2
      clear h2
      by_cases h3 : ¬ u.factor ≤ 1000
      ·
       have t2 : decide (u.factor ≤ (1000 : Int)) = false := by simpa using h3
       have HZ : Hid (scaleOf u b = 0) := by show _ = _; unfold scaleOf; rw [if_neg (fun h => h3 h.2.1)]
       clear h3
       go_quiet (fail)
       go_wp2_with fail
       go_roundg (n - (k + 1))
       case measure => have := HQ.out; omega
       case rel => exact ⟨k + 1, _, _, by omega, rfl, by go_num, HST.out 0 HZ.out, grown_drewN HGQ.out _, HOQ.out.kept (row := none) (grown_drewN (World.grownBy.refl _ _) _) (by simp [Value.ownBlock]), by rw [← set_drop HLEN.out HU.out]; exact HCQ.out⟩
      have h3' : u.factor ≤ 1000 := Decidable.not_not.1 h3
      clear h3
      obtain ⟨P, hP⟩ : ∃ P, u.factor * b.scale = P := ⟨_, rfl⟩
      have hP0 : 0 ≤ P := by rw [← hP]; exact Int.mul_nonneg (by omega) hsc.1
      have hP1 : P ≤ 1099511627776000 := by
       rw [← hP]
       have := Int.mul_le_mul h3' hsc.2 hsc.1 (by omega)
       omega
      have hw : IntKind.i64.wrap (u.factor * b.scale) = P := by rw [hP]; exact IntWalk.i64_in _ (by omega)
      have HP := Lib.hid hP
      clear hP
      by_cases h4 : P ≤ 1099511627776
      ·
       have t2 : decide (P ≤ (1099511627776 : Int)) = true := by simpa using h4
       have HZ : Hid (scaleOf u b = P) := by show _ = _; unfold scaleOf; rw [if_pos ⟨h2', h3', by rw [HP.out]; exact h4⟩]; exact HP.out
       go_quiet (fail)
       go_wp2_with fail
       have hox : (wq.drewN nq).ownsRow base 116 5 (.slice (some ⟨g, 0, none⟩) n cap) n cq := HOQ.out.kept (row := none) (grown_drewN (World.grownBy.refl _ _) _) (by simp [Value.ownBlock])
       have hgx := grown_drewN HGQ.out nq
       have e2' : (wq.drewN nq).cell? ⟨g, k * 5 + 2, none⟩ = _ := e2
       have e4' : (wq.drewN nq).cell? ⟨g, k * 5 + 4, none⟩ = _ := e4
       have g4' : (wq.drewN nq).cell? ⟨g, m * 5 + 4, none⟩ = _ := g4
       have fe4' : (wq.drewN nq).frozen? ⟨g, k * 5 + 4, none⟩ = false := fe4
       generalize wq.drewN nq = wx at hox hgx e2' e4' g4' fe4' ⊢
       have HOX := Lib.hid hox
       have HGX := Lib.hid hgx
       clear e2 e4 g4 fe4 hox hgx
       go_still_tail 13, (by kernel_rfl)
       change wpList _ _ _ _ _ wx.drew
       go_wp2_with fail
       go_roundg (n - (k + 1))
       case measure => have := HQ.out; omega
       case rel =>
        have ho3 := HOX.out.drew.stored (k * 5 + 4) (.int .i64 P)
        refine ⟨k + 1, _, _, by omega, rfl, by go_num, HST.out P HZ.out, grown_trans (grown_drew HGX.out) ho3.2, ho3.1, ?_⟩
        rw [← set_drop HLEN.out HU.out]
        have hkl := (List.getElem?_eq_some_iff.1 HATK.out).1
        have := HCQ.out.put (i := k) (j := 4) (x' := { u with base := b.base, scale := P }) (u := .int .i64 P) (by omega) hkl (by
         have : chunk cq 5 k = _ := HCQ.out.chunk HATK.out
         rw [this]; rfl)
        rwa [List.set_set] at this
      ·
       have t2 : decide (P ≤ (1099511627776 : Int)) = false := by simpa using h4
       have HZ : Hid (scaleOf u b = 0) := by show _ = _; unfold scaleOf; rw [if_neg (fun h => h4 (by rw [← HP.out]; exact h.2.2))]
       clear h4
       go_quiet (fail)
       go_wp2_with fail
       go_roundg (n - (k + 1))
       case measure => have := HQ.out; omega
       case rel => exact ⟨k + 1, _, _, by omega, rfl, by go_num, HST.out 0 HZ.out, grown_drewN HGQ.out _, HOQ.out.kept (row := none) (grown_drewN (World.grownBy.refl _ _) _) (by simp [Value.ownBlock]), by rw [← set_drop HLEN.out HU.out]; exact HCQ.out⟩
     ·
      go_wp2_with fail
      refine ⟨rfl, retUnits_no (unitsP_none (k := k + 1) (by have := HN.out; omega) ?_) (grown_drew HGR.out)⟩
      rw [unitsTo_succ HTO.out HU.out, unitStep, if_neg HOF.out, HIX.out]
      simp only
      rw [List.getElem?_eq_none (by have := HLEN.out; omega)]
  ·
   have hke : k = us.length := by have := HN.out; omega
   go_wp2_with fail
   go_end0
   refine retUnits_yes (out := out) ?_ HGR.out HO.out ?_
   · unfold unitsP; rw [← hke]; exact HTO.out
   ·
    have := HC.out
    rw [hke, List.drop_length, List.append_nil] at this
    exact this
theorem numberUnits_any (R b2 base n : Nat) (v : Value) (us : List QUnit) (cs : List Value) (names : List ByteArray) (w : World) (hR : w.cell? ⟨R, 1, none⟩ = some (.map (some b2))) (hRl : R < w.heap.size) (hm : MapAt strW i64W w b2 (col names).1) (hbR : R < base)
 (ho : w.ownsRow base 116 5 v n cs) (hc : CellsR 5 qUnitR w cs us) (hn : n = us.length) :
 Calls Tryz.prog 122 #[.pointer (some ⟨R, 0, none⟩), v] w (RetUnits names us base v n w) := by
 rcases ho.2 with ⟨rfl, h0⟩ | ⟨g, cap, cur, rfl, hbg, _⟩
 ·
  subst h0
  have hu : us = [] := List.eq_nil_of_length_eq_zero hn.symm
  subst hu
  have HO := Lib.hid ho
  have HC := Lib.hid hc
  clear ho hc hR hm hn
  go_enter Tryz.func122, Tryz.ntmps122
  go_wp2_with fail
  refine wp_loop_rounds 1 ?_
  rw [rounds_succ]
  go_wp2_with fail
  go_end0
  exact retUnits_yes (out := []) rfl (World.grownBy.refl _ _) HO.out HC.out
 · exact numberUnits_own R b2 base g n cap us cs names w hR hRl hm (by omega) ho hc hn
end Go.Proofs.YtkgmonplcdnnbaaGreat
