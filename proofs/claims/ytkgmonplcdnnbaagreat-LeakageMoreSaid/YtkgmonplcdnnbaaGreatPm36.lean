/- Contracts of leakage.Below and leakage.Compare, of the reference's Below, Compare and SameInts. Written by genlk.py. -/
import Derived.Test.YtkgmonplcdnnbaaGreatPm31
import Derived.Test.YtkgmonplcdnnbaaGreatPm34
import Derived.Test.YtkgmonplcdnnbaaGreatPm35
import Derived.Test.YtkgmonplcdnnbaaGreatPm29
import Derived.BigQuiet
import Derived.Test.YtkgmonplcdnnbaaGreatProg
import Derived.Test.YtkgmonplcdnnbaaGreatPm05
import Derived.Test.YtkgmonplcdnnbaaGreatPm01
import Derived.Test.YtkgmonplcdnnbaaGreatPm02
import Derived.Deep.QuietTactic
namespace Go.Proofs.YtkgmonplcdnnbaaGreat
open Go.RowKit
theorem unit_of {n2 : Nat} {iss : Nat} {ss : List QSchema} (h : ss.all (schemaOK iss n2) = true) : ∀ x ∈ ss, ∀ f ∈ x.fields, unitIn n2 f.type := by
 intro x hx f hf
 have h1 := List.all_eq_true.1 h x hx
 simp only [schemaOK, Bool.and_eq_true] at h1
 have h2 := List.all_eq_true.1 h1.2 f hf
 simp only [fieldOK, Bool.and_eq_true] at h2
 intro hk
 have h3 := h2.1
 rw [typeOK, if_pos hk] at h3
 simp only [Bool.and_eq_true, decide_eq_true_eq] at h3
 exact ⟨h3.1.1.2, h3.1.2⟩
theorem subs_any (A1 A2 A3 A4 A5 A6 : Option Addr) (n1 c1 n2 c2 n3 c3 n4 c4 n5 c5 n6 c6 : Nat) (s : QSource) (w : World) (h2 : SlB 5 56 qUnitR w (.slice A2 n2 c2) s.units) (h3 : SlB 6 96 qSchemaR w (.slice A3 n3 c3) s.schemas) : Subs A1 A2 A3 A4 A5 A6 n1 c1 n2 c2 n3 c3 n4 c4 n5 c5 n6 c6 s (twoWayP n2 s.schemas) w := by
 have hn2 : n2 ≤ 9223372036854775807 := by have := h2.1.le; omega
 have hl2 := h2.1.len
 refine ⟨fun hs W g hW hk => ?_, fun W hW => ?_, fun W hW => ?_⟩
 ·
  intro W' cs x hW' hx hR
  obtain ⟨F1, m1, d1, F2, m2, d2, F3, m3, d3, rfl, f1, f2, f3⟩ := hR
  have hw := hW.trans (hW'.mono hW.size)
  have := check1_any A1 A2 A3 A4 A5 A6 n1 c1 n2 c2 n3 c3 n4 c4 n5 c5 n6 c6 g F1 F2 F3 m1 d1 m2 d2 m3 d3 x.head x.schema x.froms x.where_ x.sets s.units s.schemas W' (hk.below hW' hk.lt) (h2.1.mono qUnitR_mono hw) (h3.1.mono qSchemaR_mono hw) f1.1 f2.1 f3 (by rw [hl2]; exact unit_of hs)
  exact this
 ·
  intro W' cs x hW' hx hR
  obtain ⟨F1, m1, d1, rfl, f1⟩ := hR
  have hw := hW.trans (hW'.mono hW.size)
  have := purposeOK_any A1 A2 A3 A4 A5 A6 n1 c1 n2 c2 n3 c3 n4 c4 n5 c5 n6 c6 x.name x.may x.most F1 m1 d1 s.schemas w W' hw h3.1 f1.1
  exact this
 ·
  intro W' cs x hW' hx hR
  obtain ⟨F1, m1, d1, rfl, f1⟩ := hR
  have hw := hW.trans (hW'.mono hW.size)
  have := twoWay_any A1 A2 A3 A4 A5 A6 n1 c1 n2 c2 n3 c3 n4 c4 n5 c5 n6 c6 x.from_ x.to_ x.a x.b x.moves F1 m1 d1 s.schemas W' W' (Below.refl _ _) hn2 (h3.1.mono qSchemaR_mono hw) f1.1
  exact this
open Go.Shelf
def fewC (c : QClaims) : Bool := decide (c.fields.length ≤ 20) && decide (c.values.length ≤ 20)
def fewP (l : List QClaims) : Bool := l.all fewC && decide (l.length ≤ 10)
theorem fewP_no {l : List QClaims} {k : Nat} {x : QClaims} (hx : l[k]? = some x) (h : fewC x = false) : fewP l = false := by rw [fewP, all_at hx h]; rfl
set_option maxHeartbeats 4000000 in
set_option maxRecDepth 100000 in
theorem refFew_any (A : Option Addr) (n c : Nat) (l : List QClaims) (w : World) (hl : SlR 3 qClaimsR w (.slice A n c) l) :
 Calls Tryz.prog 11 #[.slice A n c] w fun e w' => e = .returned (.bool (fewP l)) ∧ Below w.heap.size w w' := by
 have hn2 : n ≤ 9223372036854775807 := by have := hl.le; omega
 have HN := Lib.hid hl.len
 have HL := Lib.hid hl
 clear hl
 go_enter Tryz.func11, Tryz.ntmps11
 go_wp2_with fail
 go_loopg [3] n (fun q i wr => ∃ k : Nat, k ≤ n ∧ q = n - k ∧ i = .int .i64 k ∧ (l.take k).all fewC = true ∧ Below w.heap.size w wr)
 case atStart => exact ⟨0, Nat.zero_le _, rfl, rfl, rfl, Below.refl _ _⟩
 case round =>
  obtain ⟨k, hk, hq, rfl, hv, hb⟩ := hrel
  have HQ := Lib.hid hq
  have HB := Lib.hid hb
  have HV := Lib.hid hv
  clear hq hb hv
  by_cases hlt : k < n
  ·
   obtain ⟨b, off, x, B1, m1, d1, B2, m2, d2, rfl, hbl, hx, e0, e1, e2, g1, g2⟩ := qClaims_at (HL.out.mono qClaimsR_mono HB.out) hlt
   have HX := Lib.hid hx
   have HM1 := Lib.hid g1.len
   have HM2 := Lib.hid g2.len
   have hkn : (k : Int) < (n : Int) := by omega
   have hk0 : (0 : Int) ≤ (k : Int) := by omega
   clear hx g1 g2
   by_cases h1 : (20 : Int) < (m1 : Int)
   ·
    have HF : Hid (fewP l = false) := Lib.hid (fewP_no HX.out (by
     rw [fewC, ← HM1.out]; have : decide (m1 ≤ 20) = false := by simp; omega
     rw [this]; rfl))
    go_wp2_with fail
    go_ret
    exact ⟨ret_bool HF.out.symm, HB.out⟩
   by_cases h2 : (20 : Int) < (m2 : Int)
   ·
    have HF : Hid (fewP l = false) := Lib.hid (fewP_no HX.out (by
     rw [fewC, ← HM2.out]; have : decide (m2 ≤ 20) = false := by simp; omega
     rw [this, Bool.and_false]))
    go_wp2_with fail
    go_ret
    exact ⟨ret_bool HF.out.symm, HB.out⟩
   have HF : Hid (fewC x = true) := Lib.hid (by rw [fewC, ← HM1.out, ← HM2.out, decide_eq_true (by omega), decide_eq_true (by omega)]; rfl)
   go_wp2_with fail
   go_roundg (n - (k + 1))
   case measure => have := HQ.out; omega
   case rel => exact ⟨k + 1, by omega, rfl, by go_num, all_take HX.out HF.out HV.out, HB.out⟩
  ·
   have HT : Hid (l.all fewC = true) := by
    have := HV.out
    rw [List.take_of_length_le (by have := HN.out; omega)] at this
    exact this
   go_wp2_with fail
   go_ret
   refine ⟨ret_bool ?_, HB.out⟩
   rw [fewP, HT.out, ← HN.out, Bool.true_and]
   first | rfl | (congr 1; exact propext (by omega)) | (simp; omega)
set_option maxHeartbeats 4000000 in
theorem has23_any (A : Option Addr) (n c : Nat) (f : Int) (l : List Int) (w : World) (hl : SlR 1 iR w (.slice A n c) l) :
 Calls Tryz.prog 21 #[.slice A n c, .int .i64 f] w fun e w' => e = .returned (.bool (l.contains f)) ∧ Below w.heap.size w w' := by
 have hn2 : n ≤ 9223372036854775807 := by have := hl.le; omega
 have HN := Lib.hid hl.len
 have HL := Lib.hid hl
 clear hl
 go_enter Tryz.func21, Tryz.ntmps21
 go_wp2_with fail
 go_loopg [5] n (fun q i wr => ∃ k : Nat, k ≤ n ∧ q = n - k ∧ i = .int .i64 k ∧ f ∉ l.take k ∧ Below w.heap.size w wr)
 case atStart => exact ⟨0, Nat.zero_le _, rfl, rfl, by simp, Below.refl _ _⟩
 case round =>
  obtain ⟨k, hk, hq, rfl, hv, hb⟩ := hrel
  have HQ := Lib.hid hq
  have HB := Lib.hid hb
  have HV := Lib.hid hv
  clear hq hb hv
  by_cases hlt : k < n
  ·
   obtain ⟨b, off, x, rfl, hbl, hx, hc⟩ := i_at (HL.out.mono iR_mono HB.out) hlt
   have HX := Lib.hid hx
   have hkn : (k : Int) < (n : Int) := by omega
   have hk0 : (0 : Int) ≤ (k : Int) := by omega
   clear hx
   by_cases he : x = f
   ·
    have heb : (x == f) = true := by simpa using he
    have HR : Hid (l.contains f = true) := Lib.hid (by rw [List.contains_iff_mem, ← he]; exact List.mem_of_getElem? HX.out)
    clear he
    go_wp2_with fail
    go_ret
    exact ⟨ret_bool HR.out.symm, HB.out⟩
   ·
    have heb : (x == f) = false := by simpa using he
    have HE := Lib.hid he
    clear he
    go_wp2_with fail
    go_roundg (n - (k + 1))
    case measure => have := HQ.out; omega
    case rel => exact ⟨k + 1, by omega, rfl, by go_num, by rw [take_snoc HX.out, List.mem_append]; rintro (h | h); exact HV.out h; simp at h; exact HE.out h.symm, HB.out⟩
  ·
   have HT : Hid (l.contains f = false) := by
    have := HV.out
    rw [List.take_of_length_le (by have := HN.out; omega)] at this
    exact Lib.hid (by simpa [List.contains_iff_mem] using this)
   go_wp2_with fail
   go_ret
   exact ⟨ret_bool HT.out.symm, HB.out⟩
def Bools (e : Ending) : Prop := ∃ b, e = .returned (.bool b)
set_option maxHeartbeats 8000000 in
set_option maxRecDepth 100000 in
theorem refFew16_any (A1 A2 A3 A4 A5 A6 : Option Addr) (n1 c1 n2 c2 n3 c3 n4 c4 n5 c5 n6 c6 : Nat) (s : QSource) (w : World)
 (h3 : SlR 6 qSchemaR w (.slice A3 n3 c3) s.schemas) (h4 : SlR 5 qRuleR w (.slice A4 n4 c4) s.rules) (h5 : SlR 5 qConvertR w (.slice A5 n5 c5) s.converts) (h6 : SlR 3 qPurposeR w (.slice A6 n6 c6) s.purposes) :
 Calls Tryz.prog 24 #[.agg #[.slice A1 n1 c1, .slice A2 n2 c2, .slice A3 n3 c3, .slice A4 n4 c4, .slice A5 n5 c5, .slice A6 n6 c6]] w fun e w' => Bools e ∧ Below w.heap.size w w' := by
 have m3 : n3 ≤ 9223372036854775807 := by have := h3.le; omega
 have m4 : n4 ≤ 9223372036854775807 := by have := h4.le; omega
 have m5 : n5 ≤ 9223372036854775807 := by have := h5.le; omega
 have m6 : n6 ≤ 9223372036854775807 := by have := h6.le; omega
 have H3 := Lib.hid h3
 have H4 := Lib.hid h4
 have H5 := Lib.hid h5
 have H6 := Lib.hid h6
 clear h3 h4 h5 h6
 go_enter Tryz.func24, Tryz.ntmps24
 go_upto_region 1 with fail
 have hk : Blk (w.alloc (.cells #[.slice A1 n1 c1, .slice A2 n2 c2, .slice A3 n3 c3, .slice A4 n4 c4, .slice A5 n5 c5, .slice A6 n6 c6] 29)) w.heap.size 29 #[.slice A1 n1 c1, .slice A2 n2 c2, .slice A3 n3 c3, .slice A4 n4 c4, .slice A5 n5 c5, .slice A6 n6 c6] := Blk.new _ _ _
 have hb : Below w.heap.size w (w.alloc (.cells #[.slice A1 n1 c1, .slice A2 n2 c2, .slice A3 n3 c3, .slice A4 n4 c4, .slice A5 n5 c5, .slice A6 n6 c6] 29)) := (Below.refl _ _).alloc (Nat.le_refl _) _
 obtain ⟨g, hg⟩ : ∃ g, g = w.heap.size := ⟨_, rfl⟩
 rw [← hg] at hk ⊢
 generalize w.alloc (.cells #[.slice A1 n1 c1, .slice A2 n2 c2, .slice A3 n3 c3, .slice A4 n4 c4, .slice A5 n5 c5, .slice A6 n6 c6] 29) = wb at hk hb ⊢
 have lg := hk.lt
 have HK := Lib.hid hk
 have HB := Lib.hid hb
 have HKC : Hid (∀ W, Below wb.heap.size wb W → g < W.heap.size ∧ W.cell? ⟨g, 0, none⟩ = some (.slice A1 n1 c1) ∧ W.cell? ⟨g, 1, none⟩ = some (.slice A2 n2 c2) ∧ W.cell? ⟨g, 2, none⟩ = some (.slice A3 n3 c3) ∧ W.cell? ⟨g, 3, none⟩ = some (.slice A4 n4 c4) ∧ W.cell? ⟨g, 4, none⟩ = some (.slice A5 n5 c5) ∧ W.cell? ⟨g, 5, none⟩ = some (.slice A6 n6 c6)) := Lib.hid (fun W hW => by
  have h := HK.out.below hW lg
  exact ⟨h.lt, h.cell 0, h.cell 1, h.cell 2, h.cell 3, h.cell 4, h.cell 5⟩)
 clear hk hb hg lg HK
 go_wp2_with fail
 have HB3 : Hid (Below wb.heap.size wb wb) := Lib.hid (Below.refl _ _)
 go_loopg [3] n3 (fun q i wr => ∃ k : Nat, k ≤ n3 ∧ q = n3 - k ∧ i = .int .i64 k ∧ Below wb.heap.size wb wr)
 case atStart => exact ⟨0, Nat.zero_le _, rfl, rfl, HB3.out⟩
 case round =>
  clear HB3
  obtain ⟨k, hk, hq, rfl, hb⟩ := hrel
  have HQ := Lib.hid hq
  have HBR := Lib.hid hb
  obtain ⟨lg, k0, k1, k2, k3, k4, k5⟩ := HKC.out wr hb
  clear hq hb
  by_cases hlt : k < n3
  ·
   obtain ⟨b, off, x, B1, m1, d1, B2, m2, d2, rfl, hbl, hx, e0, e1, e2, e3, e4, e5, g1, g2⟩ := qSchema_at (H3.out.mono qSchemaR_mono (HB.out.trans (HBR.out.mono HB.out.size))) hlt
   have hkn : (k : Int) < (n3 : Int) := by omega
   have hk0 : (0 : Int) ≤ (k : Int) := by omega
   clear hx g1 g2 e0 e1 e2 e3 k0 k1 k3 k4 k5
   go_wp2_with fail
   all_goals first
    | (go_ret; exact ⟨⟨_, rfl⟩, HB.out.trans (HBR.out.mono HB.out.size)⟩)
    | (
     go_roundg (n3 - (k + 1))
     case measure => have := HQ.out; omega
     case rel => exact ⟨k + 1, by omega, rfl, by go_num, HBR.out⟩)
  ·
   obtain ⟨wy, rfl⟩ : ∃ x, x = wr := ⟨_, rfl⟩
   have HB4 := HBR
   clear HQ HBR
   go_wp2_with fail
   clear k0 k1 k2 k3 k4 k5
   go_loopg [4] n4 (fun q i wr => ∃ k : Nat, k ≤ n4 ∧ q = n4 - k ∧ i = .int .i64 k ∧ Below wb.heap.size wb wr)
   case atStart => exact ⟨0, Nat.zero_le _, rfl, rfl, HB4.out⟩
   case round =>
    clear HB4
    obtain ⟨k, hk, hq, rfl, hb⟩ := hrel
    have HQ := Lib.hid hq
    have HBR := Lib.hid hb
    obtain ⟨lg, k0, k1, k2, k3, k4, k5⟩ := HKC.out wr hb
    clear hq hb
    by_cases hlt : k < n4
    ·
     obtain ⟨b, off, x, B1, m1, d1, B2, m2, d2, B3, m3, d3, rfl, hbl, hx, e0, e1, e2, e3, e4, g1, g2, g3⟩ := qRule_at (H4.out.mono qRuleR_mono (HB.out.trans (HBR.out.mono HB.out.size))) hlt
     have hkn : (k : Int) < (n4 : Int) := by omega
     have hk0 : (0 : Int) ≤ (k : Int) := by omega
     clear hx g1 g2 g3 e0 e1 k0 k1 k2 k4 k5
     go_wp2_with fail
     all_goals first
      | (go_ret; exact ⟨⟨_, rfl⟩, HB.out.trans (HBR.out.mono HB.out.size)⟩)
      | (
       go_roundg (n4 - (k + 1))
       case measure => have := HQ.out; omega
       case rel => exact ⟨k + 1, by omega, rfl, by go_num, HBR.out⟩)
    ·
     obtain ⟨wy, rfl⟩ : ∃ x, x = wr := ⟨_, rfl⟩
     have HB5 := HBR
     clear HQ HBR
     go_wp2_with fail
     clear k0 k1 k2 k3 k4 k5
     go_loopg [5] n5 (fun q i wr => ∃ k : Nat, k ≤ n5 ∧ q = n5 - k ∧ i = .int .i64 k ∧ Below wb.heap.size wb wr)
     case atStart => exact ⟨0, Nat.zero_le _, rfl, rfl, HB5.out⟩
     case round =>
      clear HB5
      obtain ⟨k, hk, hq, rfl, hb⟩ := hrel
      have HQ := Lib.hid hq
      have HBR := Lib.hid hb
      obtain ⟨lg, k0, k1, k2, k3, k4, k5⟩ := HKC.out wr hb
      clear hq hb
      by_cases hlt : k < n5
      ·
       obtain ⟨b, off, x, B1, m1, d1, rfl, hbl, hx, e0, e1, e2, e3, e4, g1⟩ := qConvert_at (H5.out.mono qConvertR_mono (HB.out.trans (HBR.out.mono HB.out.size))) hlt
       have hkn : (k : Int) < (n5 : Int) := by omega
       have hk0 : (0 : Int) ≤ (k : Int) := by omega
       clear hx g1 e0 e1 e2 e3 k0 k1 k2 k3 k5
       go_wp2_with fail
       all_goals first
        | (go_ret; exact ⟨⟨_, rfl⟩, HB.out.trans (HBR.out.mono HB.out.size)⟩)
        | (
         go_roundg (n5 - (k + 1))
         case measure => have := HQ.out; omega
         case rel => exact ⟨k + 1, by omega, rfl, by go_num, HBR.out⟩)
      ·
       obtain ⟨wy, rfl⟩ : ∃ x, x = wr := ⟨_, rfl⟩
       have HB6 := HBR
       clear HQ HBR
       go_wp2_with fail
       clear k0 k1 k2 k3 k4 k5
       go_loopg [6] n6 (fun q i wr => ∃ k : Nat, k ≤ n6 ∧ q = n6 - k ∧ i = .int .i64 k ∧ Below wb.heap.size wb wr)
       case atStart => exact ⟨0, Nat.zero_le _, rfl, rfl, HB6.out⟩
       case round =>
        clear HB6
        obtain ⟨k, hk, hq, rfl, hb⟩ := hrel
        have HQ := Lib.hid hq
        have HBR := Lib.hid hb
        obtain ⟨lg, k0, k1, k2, k3, k4, k5⟩ := HKC.out wr hb
        clear hq hb
        by_cases hlt : k < n6
        ·
         obtain ⟨b, off, x, B1, m1, d1, rfl, hbl, hx, e0, e1, e2, g1⟩ := qPurpose_at (H6.out.mono qPurposeR_mono (HB.out.trans (HBR.out.mono HB.out.size))) hlt
         have hkn : (k : Int) < (n6 : Int) := by omega
         have hk0 : (0 : Int) ≤ (k : Int) := by omega
         clear hx g1 e0 e2 k0 k1 k2 k3 k4
         go_wp2_with fail
         all_goals first
          | (go_ret; exact ⟨⟨_, rfl⟩, HB.out.trans (HBR.out.mono HB.out.size)⟩)
          | (
           go_roundg (n6 - (k + 1))
           case measure => have := HQ.out; omega
           case rel => exact ⟨k + 1, by omega, rfl, by go_num, HBR.out⟩)
        ·
         obtain ⟨wy, rfl⟩ : ∃ x, x = wr := ⟨_, rfl⟩
         have HB7 := HBR
         clear HQ HBR
         go_wp2_with fail
         all_goals (go_ret; exact ⟨⟨_, rfl⟩, HB.out.trans (HB7.out.mono HB.out.size)⟩)
set_option maxHeartbeats 4000000 in
set_option maxRecDepth 100000 in
theorem fewTables_any (A1 A2 A3 A4 A5 A6 A7 : Option Addr) (n1 c1 n2 c2 n3 c3 n4 c4 n5 c5 n6 c6 n7 c7 : Nat) (s : QSource) (w : World)
 (h3 : SlR 6 qSchemaR w (.slice A3 n3 c3) s.schemas) (h4 : SlR 5 qRuleR w (.slice A4 n4 c4) s.rules) (h5 : SlR 5 qConvertR w (.slice A5 n5 c5) s.converts) (h6 : SlR 3 qPurposeR w (.slice A6 n6 c6) s.purposes) :
 Calls Tryz.prog 10 #[.agg #[.slice A1 n1 c1, .slice A2 n2 c2, .slice A3 n3 c3, .slice A4 n4 c4, .slice A5 n5 c5, .slice A6 n6 c6, .slice A7 n7 c7]] w fun e w' => Bools e ∧ Below w.heap.size w w' := by
 have hb0 : Below w.heap.size w (w.alloc (.cells #[.slice A1 n1 c1, .slice A2 n2 c2, .slice A3 n3 c3, .slice A4 n4 c4, .slice A5 n5 c5, .slice A6 n6 c6, .slice A7 n7 c7] 32)) := (Below.refl _ _).alloc (Nat.le_refl _) _
 have HC : Hid (Calls Tryz.prog 24 #[.agg #[.slice A1 n1 c1, .slice A2 n2 c2, .slice A3 n3 c3, .slice A4 n4 c4, .slice A5 n5 c5, .slice A6 n6 c6]] (w.alloc (.cells #[.slice A1 n1 c1, .slice A2 n2 c2, .slice A3 n3 c3, .slice A4 n4 c4, .slice A5 n5 c5, .slice A6 n6 c6, .slice A7 n7 c7] 32)) fun e w' => Bools e ∧ Below (w.alloc (.cells #[.slice A1 n1 c1, .slice A2 n2 c2, .slice A3 n3 c3, .slice A4 n4 c4, .slice A5 n5 c5, .slice A6 n6 c6, .slice A7 n7 c7] 32)).heap.size (w.alloc (.cells #[.slice A1 n1 c1, .slice A2 n2 c2, .slice A3 n3 c3, .slice A4 n4 c4, .slice A5 n5 c5, .slice A6 n6 c6, .slice A7 n7 c7] 32)) w') :=
  Lib.hid (refFew16_any A1 A2 A3 A4 A5 A6 n1 c1 n2 c2 n3 c3 n4 c4 n5 c5 n6 c6 s _ (h3.mono qSchemaR_mono hb0) (h4.mono qRuleR_mono hb0) (h5.mono qConvertR_mono hb0) (h6.mono qPurposeR_mono hb0))
 have HB0 := Lib.hid hb0
 clear hb0 h3 h4 h5 h6
 go_enter Tryz.func10, Tryz.ntmps10
 go_wp2_with (go_at_call 24; refine HC.out.mono ?_; clear HC)
 rintro e w1 ⟨⟨v, rfl⟩, hb1⟩
 have kb := (Blk.new w 32 #[.slice A1 n1 c1, .slice A2 n2 c2, .slice A3 n3 c3, .slice A4 n4 c4, .slice A5 n5 c5, .slice A6 n6 c6, .slice A7 n7 c7]).below hb1 (by simp)
 have q6 := kb.cell 6
 have lq := kb.lt
 simp only [List.getElem?_toArray, List.getElem?_cons_zero, List.getElem?_cons_succ] at q6
 have HB1 : Hid (Below w.heap.size w w1) := Lib.hid (HB0.out.trans (hb1.mono HB0.out.size))
 clear hb1 kb
 cases v <;> (go_wp2_with fail; all_goals (go_ret; exact ⟨⟨_, rfl⟩, HB1.out⟩))
attribute [local go_sem] Oper.semAt_some
theorem slR_blk {α : Type} {sz : Nat} {R : World → List Value → α → Prop} {w : World} {l : List α} {g : Nat} {t : TypeId} {cs : List Value} (h : Blk w g t cs.toArray) (hc : CellsR sz R w cs l) (hm : l.length ≤ maxLen) : SlR sz R w (.slice (some ⟨g, 0, none⟩) l.length l.length) l := by
 refine ⟨some ⟨g, 0, none⟩, l.length, rfl, Nat.le_refl _, hm, fun i x hi => ⟨g, 0, (cs.drop (i * sz)).take sz, rfl, h.lt, ?_, ?_, hc.2 i x hi⟩⟩
 ·
  have hil := (List.getElem?_eq_some_iff.1 hi).1
  have hle : i * sz + sz ≤ cs.length := by rw [hc.1, ← Nat.succ_mul]; exact Nat.mul_le_mul_right _ hil
  rw [List.length_take, List.length_drop]; omega
 ·
  intro j u hu
  rcases Nat.lt_or_ge j sz with hj | hj
  ·
   rw [List.getElem?_take_of_lt hj, List.getElem?_drop] at hu
   rw [Nat.zero_add, h.cell]
   simpa using hu
  ·
   rw [List.getElem?_eq_none (by rw [List.length_take]; omega)] at hu
   cases hu
def fSelf : QField := ⟨⟨#[115, 101, 108, 102]⟩, ⟨3, 0, 4095, ⟨#[]⟩, -1, []⟩, 9, 9, 9, 9⟩
def fA0 : QField := ⟨⟨#[97]⟩, ⟨1, 0, 9, ⟨#[]⟩, -1, []⟩, 1, 2, 0, 0⟩
def fB0 : QField := ⟨⟨#[98]⟩, ⟨1, 0, 9, ⟨#[]⟩, -1, []⟩, 3, 0, 5, 0⟩
def dep0 : QDep := ⟨[⟨#[97]⟩], ⟨#[98]⟩, [1], 2⟩
def sch0 : QSchema := ⟨⟨#[115]⟩, ⟨#[120]⟩, 0, 1, [fSelf, fA0, fB0], [dep0]⟩
def T0 : QSource := { issuers := [⟨#[120]⟩], units := [], schemas := [sch0], rules := [], converts := [], purposes := [] }
def Tab0 (T : Value) (w : World) : Prop := ∃ A1 A3 A7, T = .agg #[.slice A1 1 1, .slice none 0 0, .slice A3 1 1, .slice none 0 0, .slice none 0 0, .slice none 0 0, .slice A7 1 1] ∧ SlB 1 16 strR w (.slice A1 1 1) T0.issuers ∧ SlB 6 96 qSchemaR w (.slice A3 1 1) T0.schemas ∧ SlR 1 iR w (.slice A7 1 1) [0]
theorem CellsR.single {α : Type} {R : World → List Value → α → Prop} {w : World} {cs : List Value} {x : α} {sz : Nat} (hl : cs.length = sz) (h : R w cs x) : CellsR sz R w cs [x] := by
 refine ⟨by simp [hl], fun i y hi => ?_⟩
 rcases i with _ | i
 ·
  simp only [List.getElem?_cons_zero, Option.some.injEq] at hi
  subst hi
  simpa [← hl] using h
 · simp at hi
set_option maxHeartbeats 8000000 in
set_option maxRecDepth 100000 in
theorem tables_any (w : World) : Calls Tryz.prog 22 #[] w fun e w' => ∃ v, e = .returned v ∧ Tab0 v w' ∧ Below w.heap.size w w' := by
 go_enter Tryz.func22, Tryz.ntmps22
 go_wp2_with fail
 obtain ⟨w9, hw9⟩ : ∃ q, q = (((((((((w.alloc (.cells #[.slice (some ⟨w.heap.size + 1 + 1 + 1, 0, none⟩) 1 1, .slice none 0 0, .slice (some ⟨w.heap.size + 1 + 1 + 1 + 1 + 1 + 1 + 1, 0, none⟩) 1 1, .slice none 0 0, .slice none 0 0, .slice none 0 0, .slice (some ⟨w.heap.size + 1 + 1 + 1 + 1 + 1 + 1 + 1 + 1, 0, none⟩) 1 1] 32)).alloc (.cells #[.int .i64 1, .int .i64 0, .int .i64 9, .string ⟨#[]⟩, .int .i64 (-1), .slice none 0 0] 55)).alloc (.cells #[.string ⟨#[115, 101, 108, 102]⟩, .int .i64 3, .int .i64 0, .int .i64 4095, .string ⟨#[]⟩, .int .i64 (-1), .slice none 0 0, .int .i64 9, .int .i64 9, .int .i64 9, .int .i64 9, .string ⟨#[97]⟩, .int .i64 1, .int .i64 0, .int .i64 9, .string ⟨#[]⟩, .int .i64 (-1), .slice none 0 0, .int .i64 1, .int .i64 2, .int .i64 0, .int .i64 0, .string ⟨#[98]⟩, .int .i64 1, .int .i64 0, .int .i64 9, .string ⟨#[]⟩, .int .i64 (-1), .slice none 0 0, .int .i64 3, .int .i64 0, .int .i64 5, .int .i64 0] 58)).alloc (.cells #[.string ⟨#[120]⟩] 9)).alloc (.cells #[.string ⟨#[97]⟩] 9)).alloc (.cells #[.int .i64 1] 3)).alloc (.cells #[.slice (some ⟨w.heap.size + 1 + 1 + 1 + 1, 0, none⟩) 1 1, .string ⟨#[98]⟩, .slice (some ⟨w.heap.size + 1 + 1 + 1 + 1 + 1, 0, none⟩) 1 1, .int .i64 2] 75)).alloc (.cells #[.string ⟨#[115]⟩, .string ⟨#[120]⟩, .int .i64 0, .int .i64 1, .slice (some ⟨w.heap.size + 1 + 1, 0, none⟩) 3 3, .slice (some ⟨w.heap.size + 1 + 1 + 1 + 1 + 1 + 1, 0, none⟩) 1 1] 52)).alloc (.cells #[.int .i64 0] 3)) := ⟨_, rfl⟩
 rw [← hw9]
 have hb : Below w.heap.size w w9 := by
  rw [hw9]
  exact (((((((((Below.refl _ _).alloc (Nat.le_refl _) _).alloc (by simp) _).alloc (by simp; omega) _).alloc (by simp; omega) _).alloc (by simp; omega) _).alloc (by simp; omega) _).alloc (by simp; omega) _).alloc (by simp; omega) _).alloc (by simp; omega) _
 have b0 : Blk w9 w.heap.size 32 #[.slice (some ⟨w.heap.size + 1 + 1 + 1, 0, none⟩) 1 1, .slice none 0 0, .slice (some ⟨w.heap.size + 1 + 1 + 1 + 1 + 1 + 1 + 1, 0, none⟩) 1 1, .slice none 0 0, .slice none 0 0, .slice none 0 0, .slice (some ⟨w.heap.size + 1 + 1 + 1 + 1 + 1 + 1 + 1 + 1, 0, none⟩) 1 1] := by
  rw [hw9]; exact ((((((((Blk.new _ _ _).alloc _).alloc _).alloc _).alloc _).alloc _).alloc _).alloc _).alloc _
 have b2 : Blk w9 (w.heap.size + 1 + 1) 58 [.string ⟨#[115, 101, 108, 102]⟩, .int .i64 3, .int .i64 0, .int .i64 4095, .string ⟨#[]⟩, .int .i64 (-1), .slice none 0 0, .int .i64 9, .int .i64 9, .int .i64 9, .int .i64 9, .string ⟨#[97]⟩, .int .i64 1, .int .i64 0, .int .i64 9, .string ⟨#[]⟩, .int .i64 (-1), .slice none 0 0, .int .i64 1, .int .i64 2, .int .i64 0, .int .i64 0, .string ⟨#[98]⟩, .int .i64 1, .int .i64 0, .int .i64 9, .string ⟨#[]⟩, .int .i64 (-1), .slice none 0 0, .int .i64 3, .int .i64 0, .int .i64 5, .int .i64 0].toArray := by
  rw [hw9]; exact ((((((blkNew (by simp)).alloc _).alloc _).alloc _).alloc _).alloc _).alloc _
 have b3 : Blk w9 (w.heap.size + 1 + 1 + 1) 9 [Value.string ⟨#[120]⟩].toArray := by
  rw [hw9]; exact (((((blkNew (by simp)).alloc _).alloc _).alloc _).alloc _).alloc _
 have b4 : Blk w9 (w.heap.size + 1 + 1 + 1 + 1) 9 [Value.string ⟨#[97]⟩].toArray := by
  rw [hw9]; exact ((((blkNew (by simp)).alloc _).alloc _).alloc _).alloc _
 have b5 : Blk w9 (w.heap.size + 1 + 1 + 1 + 1 + 1) 3 [Value.int .i64 1].toArray := by
  rw [hw9]; exact (((blkNew (by simp)).alloc _).alloc _).alloc _
 have b6 : Blk w9 (w.heap.size + 1 + 1 + 1 + 1 + 1 + 1) 75 [Value.slice (some ⟨w.heap.size + 1 + 1 + 1 + 1, 0, none⟩) 1 1, .string ⟨#[98]⟩, .slice (some ⟨w.heap.size + 1 + 1 + 1 + 1 + 1, 0, none⟩) 1 1, .int .i64 2].toArray := by
  rw [hw9]; exact ((blkNew (by simp)).alloc _).alloc _
 have b7 : Blk w9 (w.heap.size + 1 + 1 + 1 + 1 + 1 + 1 + 1) 52 [Value.string ⟨#[115]⟩, .string ⟨#[120]⟩, .int .i64 0, .int .i64 1, .slice (some ⟨w.heap.size + 1 + 1, 0, none⟩) 3 3, .slice (some ⟨w.heap.size + 1 + 1 + 1 + 1 + 1 + 1, 0, none⟩) 1 1].toArray := by
  rw [hw9]; exact (blkNew (by simp)).alloc _
 have b8 : Blk w9 (w.heap.size + 1 + 1 + 1 + 1 + 1 + 1 + 1 + 1) 3 [Value.int .i64 0].toArray := by
  rw [hw9]; exact blkNew (by simp)
 clear hw9
 have s3 : SlB 1 16 strR w9 (.slice (some ⟨w.heap.size + 1 + 1 + 1, 0, none⟩) 1 1) [⟨#[120]⟩] := ⟨slR_blk (l := [(⟨#[120]⟩ : ByteArray)]) b3 (CellsR.single rfl rfl) (by simp [maxLen]), by simp⟩
 have s4 : SlB 1 16 strR w9 (.slice (some ⟨w.heap.size + 1 + 1 + 1 + 1, 0, none⟩) 1 1) [⟨#[97]⟩] := ⟨slR_blk (l := [(⟨#[97]⟩ : ByteArray)]) b4 (CellsR.single rfl rfl) (by simp [maxLen]), by simp⟩
 have s5 : SlB 1 8 iR w9 (.slice (some ⟨w.heap.size + 1 + 1 + 1 + 1 + 1, 0, none⟩) 1 1) [1] := ⟨slR_blk (l := [(1 : Int)]) b5 (CellsR.single rfl rfl) (by simp [maxLen]), by simp⟩
 have s8 : SlR 1 iR w9 (.slice (some ⟨w.heap.size + 1 + 1 + 1 + 1 + 1 + 1 + 1 + 1, 0, none⟩) 1 1) [0] := slR_blk (l := [(0 : Int)]) b8 (CellsR.single rfl rfl) (by simp [maxLen])
 have sn : SlB 1 16 strR w9 (.slice none 0 0) [] := ⟨SlR.nil _ _ (Nat.zero_le _), by simp⟩
 have s6 : SlB 4 72 qDepR w9 (.slice (some ⟨w.heap.size + 1 + 1 + 1 + 1 + 1 + 1, 0, none⟩) 1 1) [dep0] := ⟨slR_blk (l := [dep0]) b6 (CellsR.single rfl ⟨_, _, _, _, _, _, rfl, s4, s5⟩) (by simp [maxLen]), by simp⟩
 have s2 : SlB 11 120 qFieldR w9 (.slice (some ⟨w.heap.size + 1 + 1, 0, none⟩) 3 3) [fSelf, fA0, fB0] := ⟨slR_blk (l := [fSelf, fA0, fB0]) b2 (by
  refine ⟨rfl, fun i x hi => ?_⟩
  rcases i with _ | _ | _ | i
  · simp only [List.getElem?_cons_zero, Option.some.injEq] at hi; subst hi; exact ⟨none, 0, 0, rfl, sn⟩
  · simp only [Nat.zero_add, List.getElem?_cons_zero, List.getElem?_cons_succ, Option.some.injEq] at hi; subst hi; exact ⟨none, 0, 0, rfl, sn⟩
  · simp only [Nat.zero_add, List.getElem?_cons_zero, List.getElem?_cons_succ, Option.some.injEq] at hi; subst hi; exact ⟨none, 0, 0, rfl, sn⟩
  · simp at hi) (by simp [maxLen]), by simp⟩
 have s7 : SlB 6 96 qSchemaR w9 (.slice (some ⟨w.heap.size + 1 + 1 + 1 + 1 + 1 + 1 + 1, 0, none⟩) 1 1) [sch0] := ⟨slR_blk (l := [sch0]) b7 (CellsR.single rfl ⟨_, _, _, _, _, _, rfl, s2, s6⟩) (by simp [maxLen]), by simp⟩
 have k0 := b0.cell 0
 have k1 := b0.cell 1
 have k2 := b0.cell 2
 have k3 := b0.cell 3
 have k4 := b0.cell 4
 have k5 := b0.cell 5
 have k6 := b0.cell 6
 simp only [List.getElem?_toArray, List.getElem?_cons_zero, List.getElem?_cons_succ] at k0 k1 k2 k3 k4 k5 k6
 refine bodyPost_ret (v := .agg #[.slice (some ⟨w.heap.size + 1 + 1 + 1, 0, none⟩) 1 1, .slice none 0 0, .slice (some ⟨w.heap.size + 1 + 1 + 1 + 1 + 1 + 1 + 1, 0, none⟩) 1 1, .slice none 0 0, .slice none 0 0, .slice none 0 0, .slice (some ⟨w.heap.size + 1 + 1 + 1 + 1 + 1 + 1 + 1 + 1, 0, none⟩) 1 1]) (by simp [results, Tryz.results22, go_sem, k0, k1, k2, k3, k4, k5, k6]) rfl ?_
 exact ⟨_, rfl, ⟨_, _, _, rfl, s3, s7, s8⟩, hb⟩
def pv0 : QConvert → Bool := fun _ => true
def E0 : QSource := { issuers := [], units := [], schemas := [], rules := [], converts := [], purposes := [] }
theorem ck_T0 : checkP pv0 T0 [0] = 0 := by kernel_rfl
theorem ck_E0 : checkP pv0 E0 [0] = 160 := by kernel_rfl
theorem ofE_nil : ofE 0 T0.schemas [] = 0 := by kernel_rfl
theorem ofE_one : ofE 0 T0.schemas [⟨0, [], []⟩] = 0 := by kernel_rfl
theorem ofE_a : ofE 0 T0.schemas [⟨0, [1], [4]⟩] = 0 := by kernel_rfl
theorem ofE_b : ofE 0 T0.schemas [⟨0, [2], [4]⟩, ⟨0, [], []⟩] = 0 := by kernel_rfl
theorem passN_succ' (ds : List Dep) : ∀ (n x : Nat), passN ds (n + 1) x = passN ds n (pass ds x)
 | 0, _ => rfl
 | n + 1, x => by rw [passN, passN_succ' ds n x, passN]
theorem passN_fix {ds : List Dep} {y : Nat} (h : pass ds y = y) : ∀ n : Nat, passN ds n y = y
 | 0 => rfl
 | n + 1 => by rw [passN, passN_fix h n, h]
theorem clos_two {ds : List Dep} {x y : Nat} (h : pass ds x = y) (h' : pass ds y = y) : clos ds x = y := by
 rw [clos, show 4096 = 4095 + 1 from rfl, passN_succ', h, passN_fix h']
theorem cls (F : List Int) {y : Nat} (h0 : closOk 3 [depOf dep0] F = true) (h : pass [depOf dep0] (bitsL F 0) = y) (h' : pass [depOf dep0] y = y) : closL sch0.fields.length (sch0.deps.map depOf) F = listX 3 y := by
 show closL 3 [depOf dep0] F = _
 rw [closL, if_pos h0, clos_two h h']
theorem cl_a' : closL sch0.fields.length (sch0.deps.map depOf) [1] = [1, 2] := (cls [1] (y := 6) (by kernel_rfl) (by kernel_rfl) (by kernel_rfl)).trans (by kernel_rfl)
theorem cl_b' : closL sch0.fields.length (sch0.deps.map depOf) [2] = [2] := (cls [2] (y := 4) (by kernel_rfl) (by kernel_rfl) (by kernel_rfl)).trans (by kernel_rfl)
theorem cl_c' : closL sch0.fields.length (sch0.deps.map depOf) [] = [] := (cls [] (y := 0) (by kernel_rfl) (by kernel_rfl) (by kernel_rfl)).trans (by kernel_rfl)
theorem cl_a : pickF sch0.fields (closL sch0.fields.length (sch0.deps.map depOf) [1]) = [fA0, fB0] := by rw [cl_a']; kernel_rfl
theorem cl_b : pickF sch0.fields (closL sch0.fields.length (sch0.deps.map depOf) [2]) = [fB0] := by rw [cl_b']; kernel_rfl
theorem cl_c : pickF sch0.fields (closL sch0.fields.length (sch0.deps.map depOf) []) = [] := by rw [cl_c']; kernel_rfl
theorem lk_at (g : QField → Int) (base : Int) (F V : List Int) : lkAt T0.schemas g base ⟨0, F, V⟩ = base + sumI g (pickF sch0.fields (closL sch0.fields.length (sch0.deps.map depOf) F)) := rfl
theorem of_nil : ofL 0 T0.schemas [] = [0, 0, 0, 0] := by rw [ofL, ofE_nil, if_pos rfl]; simp [t0, t1, t2, t3, tot]
theorem of_one : ofL 0 T0.schemas [⟨0, [], []⟩] = [1, 0, 0, 0] := by rw [ofL, ofE_one, if_pos rfl]; simp [t0, t1, t2, t3, tot, lk_at, cl_c, sumI]
theorem of_a : ofL 0 T0.schemas [⟨0, [1], [4]⟩] = [5, 2, 5, 0] := by rw [ofL, ofE_a, if_pos rfl]; simp [t0, t1, t2, t3, tot, lk_at, cl_a, sumI, fA0, fB0]
theorem of_b : ofL 0 T0.schemas [⟨0, [2], [4]⟩, ⟨0, [], []⟩] = [5, 0, 5, 0] := by rw [ofL, ofE_b, if_pos rfl]; simp [t0, t1, t2, t3, tot, lk_at, cl_b, cl_c, sumI, fB0]
theorem whE_a : wholeE 0 T0.schemas 0 [1] 1 = 0 := by kernel_rfl
theorem wh_a : wholeL 0 T0.schemas 0 [1] 1 = [1, 2] := by
 rw [wholeL, whE_a, if_pos rfl]
 exact cl_a'
theorem wh_b : wholeE 0 T0.schemas 1 [] 0 = 230 ∧ wholeL 0 T0.schemas 1 [] 0 = [] := ⟨by kernel_rfl, by kernel_rfl⟩
theorem weighed0 : Weighed T0.schemas := by unfold Weighed; decide
theorem deps0 : ∀ x ∈ T0.schemas, ∀ d ∈ x.deps, depI64 d := by decide
theorem depsE : ∀ x ∈ E0.schemas, ∀ d ∈ x.deps, depI64 d := by decide
theorem Tab0.below {T : Value} {w w' : World} (h : Tab0 T w) (hb : Below w.heap.size w w') : Tab0 T w' := by
 obtain ⟨A1, A3, A7, h0, h1, h3, h7⟩ := h
 exact ⟨A1, A3, A7, h0, h1.mono strR_mono hb, h3.mono qSchemaR_mono hb, h7.mono iR_mono hb⟩
theorem slB_nil {α : Type} {sz bytes : Nat} {R : World → List Value → α → Prop} (w : World) : SlB sz bytes R w (.slice none 0 0) [] := ⟨SlR.nil _ _ (Nat.zero_le _), by simp⟩
theorem check0 {T : Value} {w : World} (h : Tab0 T w) : CheckSays T 0 w := by
 intro W hW
 obtain ⟨A1, A3, A7, rfl, h1, h3, h7⟩ := h.below hW
 have := schemasCheck_any A1 none A3 none none none 1 1 0 0 1 1 0 0 0 0 0 0 A7 1 1 T0 [0] pv0 W h1 (slB_nil W) h3 (slB_nil W) (slB_nil W) (slB_nil W) h7 ⟨fun _ _ _ _ _ => Says.nil, fun _ _ => Says.nil, fun _ _ => Says.nil⟩ deps0
 rw [ck_T0] at this
 exact this
theorem checkE {A7 : Option Addr} {w : World} (h7 : SlR 1 iR w (.slice A7 1 1) [0]) : CheckSays (.agg #[.slice none 0 0, .slice none 0 0, .slice none 0 0, .slice none 0 0, .slice none 0 0, .slice none 0 0, .slice A7 1 1]) 160 w := by
 intro W hW
 have := schemasCheck_any none none none none none none 0 0 0 0 0 0 0 0 0 0 0 0 A7 1 1 E0 [0] pv0 W (slB_nil W) (slB_nil W) (slB_nil W) (slB_nil W) (slB_nil W) (slB_nil W) (h7.mono iR_mono hW) ⟨fun _ _ _ _ _ => Says.nil, fun _ _ => Says.nil, fun _ _ => Says.nil⟩ depsE
 rw [ck_E0] at this
 exact this
theorem of0 {T : Value} {w W : World} (h : Tab0 T w) (hb : Below w.heap.size w W) {A : Option Addr} {n c : Nat} {cs : List QClaims} (hcs : SlB 3 56 qClaimsR W (.slice A n c) cs) :
 Calls Tryz.prog 12 #[T, .slice A n c] W fun e w' => ∃ v, e = .returned (.tuple #[v, .int .i64 (ofE 0 T0.schemas cs)]) ∧ SlR 1 iR w' v (ofL 0 T0.schemas cs) ∧ Below W.heap.size W w' := by
 have hW := h.below hb
 have hK := check0 hW
 obtain ⟨A1, A3, A7, rfl, h1, h3, h7⟩ := hW
 exact Of_any A1 none A3 none none none 1 1 0 0 1 1 0 0 0 0 0 0 A7 A 1 1 n c T0.schemas cs 0 W hK h3 hcs deps0 (fun _ => weighed0)
theorem ofX {A7 : Option Addr} {w : World} (h7 : SlR 1 iR w (.slice A7 1 1) [0]) :
 Calls Tryz.prog 12 #[.agg #[.slice none 0 0, .slice none 0 0, .slice none 0 0, .slice none 0 0, .slice none 0 0, .slice none 0 0, .slice A7 1 1], .slice none 0 0] w fun e w' => ∃ v, e = .returned (.tuple #[v, .int .i64 160]) ∧ Below w.heap.size w w' := by
 refine (Of_any none none none none none none 0 0 0 0 0 0 0 0 0 0 0 0 A7 none 1 1 0 0 E0.schemas [] 160 w (checkE h7) (slB_nil w) (slB_nil w) depsE (fun h => by cases h)).mono ?_
 rintro e w' ⟨v, rfl, _, hb⟩
 exact ⟨v, rfl, hb⟩
theorem wh0 {T : Value} {w W : World} (h : Tab0 T w) (hb : Below w.heap.size w W) (sc : Int) {FA VA : Option Addr} {nf cf nv cv : Nat} {F : List Int} (hF : SlR 1 intR W (.slice FA nf cf) F) (hnv : nv ≤ 9223372036854775807) :
 Calls Tryz.prog 14 #[T, .agg #[.int .i64 sc, .slice FA nf cf, .slice VA nv cv]] W fun e w' => ∃ v, e = .returned (.tuple #[v, .int .i64 (wholeE 0 T0.schemas sc F nv)]) ∧ SlR 1 iR w' v (wholeL 0 T0.schemas sc F nv) ∧ Below W.heap.size W w' := by
 have hW := h.below hb
 have hK := check0 hW
 obtain ⟨A1, A3, A7, rfl, h1, h3, h7⟩ := hW
 refine (Whole_any A1 none A3 none none none 1 1 0 0 1 1 0 0 0 0 0 0 A7 FA VA 1 1 nf cf nv cv T0.schemas sc 0 F W hK h3 hF hnv deps0).mono ?_
 rintro e w' ⟨v, rfl, hv, hb2⟩
 exact ⟨v, rfl, slI_of_own hv, hb2⟩
theorem int1 {W : World} {g : Nat} {x : Int} (h : Blk W g 3 #[.int .i64 x]) (hx : isI64 x) : SlR 1 intR W (.slice (some ⟨g, 0, none⟩) 1 1) [x] :=
 slR_blk (l := [x]) (cs := [.int .i64 x]) h (CellsR.single rfl ⟨rfl, hx⟩) (by simp [maxLen])
theorem ints_nil (W : World) : SlR 1 intR W (.slice none 0 0) [] := SlR.nil _ _ (Nat.zero_le _)
def lenE (a b : List Int) : Int := if a.length = b.length then 0 else 230
def belowR (a b : List Int) : Bool := decide (a.length = b.length) && belowL a b
def compR (a b : List Int) : Int := if a.length = b.length then compL a b else 0
theorem belowR_no {a b : List Int} (h : ¬ a.length = b.length) : belowR a b = false := by simp [belowR, h]
theorem compR_no {a b : List Int} (h : ¬ a.length = b.length) : compR a b = 0 := by simp [compR, h]
theorem lenE_no {a b : List Int} (h : ¬ a.length = b.length) : lenE a b = 230 := by simp [lenE, h]
theorem belowR_yes {a b : List Int} (h : a.length = b.length) : belowR a b = belowL a b := by simp [belowR, h]
theorem compR_yes {a b : List Int} (h : a.length = b.length) : compR a b = compL a b := by simp [compR, h]
theorem lenE_yes {a b : List Int} (h : a.length = b.length) : lenE a b = 0 := by simp [lenE, h]
theorem isNaN_any (x : Int) (w : World) : Calls Tryz.prog 43 #[.int .i64 x] w fun e w' => e = .returned (.bool false) ∧ w = w' := by
 go_enter Tryz.func43, Tryz.ntmps43
 go_wp2_with fail
 go_ret
 exact ⟨by simp, rfl⟩
def cmpI (x y : Int) : Int := if x < y then -1 else if y < x then 1 else 0
theorem cmpCompare_any (x y : Int) (w : World) : Calls Tryz.prog 32 #[.int .i64 x, .int .i64 y] w fun e w' => e = .returned (.int .i64 (cmpI x y)) ∧ w' = w := by
 go_enter Tryz.func32, Tryz.ntmps32
 go_wp2_with (go_at_call 43; refine (isNaN_any _ _).mono ?_; rintro e w' ⟨rfl, rfl⟩)
 all_goals
  go_ret
  refine ⟨?_, rfl⟩
  unfold cmpI
  first
   | (rw [if_pos (by assumption)]; rfl)
   | (rw [if_neg (by omega), if_pos (by omega)]; rfl)
   | (rw [if_neg (by omega), if_neg (by omega)]; rfl)
set_option maxHeartbeats 1000000 in
theorem leakBelow_any (A B : Option Addr) (n c m d : Nat) (l r : List Int) (w : World) (hl : SlR 1 iR w (.slice A n c) l) (hr : SlR 1 iR w (.slice B m d) r) :
 Calls Tryz.prog 17 #[.slice A n c, .slice B m d] w fun e w' => e = .returned (.tuple #[.bool (belowR l r), .int .i64 (lenE l r)]) ∧ Below w.heap.size w w' := by
 have hn2 : n ≤ 9223372036854775807 := by have := hl.le; omega
 have hln := hl.len
 have hrn := hr.len
 have HL := Lib.hid hl
 have HR := Lib.hid hr
 clear hl hr
 by_cases e : n = m
 ·
  subst e
  have el : l.length = r.length := by omega
  rw [belowR_yes el, lenE_yes el]
  have HN := Lib.hid hln
  have HE := Lib.hid el
  clear hln hrn el
  obtain ⟨v, hv⟩ : ∃ v, belowL l r = v := ⟨_, rfl⟩
  rw [hv]
  have HV : Hid (belowL (l.drop 0) (r.drop 0) = v) := Lib.hid hv
  clear hv
  go_enter Tryz.func17, Tryz.ntmps17
  go_wp2_with fail
  go_loopg [14] n (fun q i wr => ∃ k : Nat, k ≤ n ∧ q = n - k ∧ i = .int .i64 k ∧ belowL (l.drop k) (r.drop k) = v ∧ Below w.heap.size w wr)
  case atStart => exact ⟨0, Nat.zero_le _, rfl, rfl, HV.out, Below.refl _ _⟩
  case round =>
   obtain ⟨k, hk, hq, rfl, hv, hb⟩ := hrel
   have HQ := Lib.hid hq
   have HB := Lib.hid hb
   have HV2 := Lib.hid hv
   clear hq hb hv HV
   by_cases hlt : k < n
   ·
    obtain ⟨a, ao, x, rfl, hal, hx, hxc⟩ := i_at (HL.out.mono iR_mono HB.out) hlt
    obtain ⟨b, bo, y, rfl, hbl, hy, hyc⟩ := i_at (HR.out.mono iR_mono HB.out) hlt
    have HX := Lib.hid hx
    have HY := Lib.hid hy
    have hkn : (k : Int) < (n : Int) := by omega
    have hk0 : (0 : Int) ≤ (k : Int) := by omega
    clear hx hy
    by_cases exy : x ≤ y
    ·
     have e1 : decide (y < x) = false := by simp; omega
     go_wp2_with fail
     go_quiet (fail)
     go_wp2_with fail
     go_roundg (n - (k + 1))
     case measure => have := HQ.out; omega
     case rel => exact ⟨k + 1, by omega, rfl, by go_num, belowL_go HX.out HY.out HV2.out exy, below_drewN HB.out _⟩
    ·
     have exy2 : y < x := by omega
     obtain rfl := belowL_stop HX.out HY.out HV2.out exy2
     go_wp2_with fail
     go_quiet (fail)
     go_wp2_with fail
     go_ret2
     exact ⟨rfl, below_drewN HB.out _⟩
   ·
    obtain rfl := belowL_end HV2.out (by have := HN.out; omega)
    go_wp2_with fail
    go_ret2
    exact ⟨rfl, HB.out⟩
 ·
  have el : ¬ l.length = r.length := by omega
  rw [belowR_no el, lenE_no el]
  go_enter Tryz.func17, Tryz.ntmps17
  go_wp2_with fail
  go_ret2
  exact ⟨rfl, Below.refl _ _⟩
set_option maxHeartbeats 1000000 in
theorem leakCompare_any (A B : Option Addr) (n c m d : Nat) (l r : List Int) (w : World) (hl : SlR 1 iR w (.slice A n c) l) (hr : SlR 1 iR w (.slice B m d) r) :
 Calls Tryz.prog 19 #[.slice A n c, .slice B m d] w fun e w' => e = .returned (.tuple #[.int .i64 (compR l r), .int .i64 (lenE l r)]) ∧ Below w.heap.size w w' := by
 have hn2 : n ≤ 9223372036854775807 := by have := hl.le; omega
 have hln := hl.len
 have hrn := hr.len
 have HL := Lib.hid hl
 have HR := Lib.hid hr
 clear hl hr
 by_cases e : n = m
 ·
  subst e
  have el : l.length = r.length := by omega
  rw [compR_yes el, lenE_yes el]
  have HN := Lib.hid hln
  have HE := Lib.hid el
  clear hln hrn el
  obtain ⟨v, hv⟩ : ∃ v, compL l r = v := ⟨_, rfl⟩
  rw [hv]
  have HV : Hid (compL (l.drop 0) (r.drop 0) = v) := Lib.hid hv
  clear hv
  go_enter Tryz.func19, Tryz.ntmps19
  go_wp2_with fail
  go_loopg [14] n (fun q i wr => ∃ k : Nat, k ≤ n ∧ q = n - k ∧ i = .int .i64 k ∧ compL (l.drop k) (r.drop k) = v ∧ Below w.heap.size w wr)
  case atStart => exact ⟨0, Nat.zero_le _, rfl, rfl, HV.out, Below.refl _ _⟩
  case round =>
   obtain ⟨k, hk, hq, rfl, hv, hb⟩ := hrel
   have HQ := Lib.hid hq
   have HB := Lib.hid hb
   have HV2 := Lib.hid hv
   clear hq hb hv HV
   by_cases hlt : k < n
   ·
    obtain ⟨a, ao, x, rfl, hal, hx, hxc⟩ := i_at (HL.out.mono iR_mono HB.out) hlt
    obtain ⟨b, bo, y, rfl, hbl, hy, hyc⟩ := i_at (HR.out.mono iR_mono HB.out) hlt
    have HX := Lib.hid hx
    have HY := Lib.hid hy
    have hkn : (k : Int) < (n : Int) := by omega
    have hk0 : (0 : Int) ≤ (k : Int) := by omega
    clear hx hy
    rcases Int.lt_trichotomy x y with exy | exy | exy
    ·
     have e1 : ¬ x = y := by omega
     obtain rfl := compL_less HX.out HY.out HV2.out exy
     go_wp2_with fail
     go_quiet (fail)
     go_wp2_with fail
     go_quiet ((go_at_call 32; exact (cmpCompare_any _ _ _).mono (fun _ _ h => ⟨h.1, _, h.2⟩)))
     go_wp2_with fail
     have ec : cmpI x y = -1 := by unfold cmpI; rw [if_pos exy]
     go_ret2
     exact ⟨by rw [ec]; rfl, by first | exact below_drewN HB.out _ | exact below_drewN (below_drewN HB.out _) _⟩
    ·
     subst exy
     go_wp2_with fail
     go_quiet (fail)
     go_wp2_with fail
     go_roundg (n - (k + 1))
     case measure => have := HQ.out; omega
     case rel => exact ⟨k + 1, by omega, rfl, by go_num, compL_go HX.out HY.out HV2.out rfl, below_drewN HB.out _⟩
    ·
     have e1 : ¬ x = y := by omega
     have e2 : ¬ x < y := by omega
     obtain rfl := compL_more HX.out HY.out HV2.out exy
     go_wp2_with fail
     go_quiet (fail)
     go_wp2_with fail
     go_quiet ((go_at_call 32; exact (cmpCompare_any _ _ _).mono (fun _ _ h => ⟨h.1, _, h.2⟩)))
     go_wp2_with fail
     have ec : cmpI x y = 1 := by unfold cmpI; rw [if_neg (by omega), if_pos exy]
     go_ret2
     exact ⟨by rw [ec]; rfl, by first | exact below_drewN HB.out _ | exact below_drewN (below_drewN HB.out _) _⟩
   ·
    obtain rfl := compL_end HV2.out (by have := HN.out; omega)
    go_wp2_with fail
    go_ret2
    exact ⟨rfl, HB.out⟩
 ·
  have el : ¬ l.length = r.length := by omega
  rw [compR_no el, lenE_no el]
  go_enter Tryz.func19, Tryz.ntmps19
  go_wp2_with fail
  go_ret2
  exact ⟨rfl, Below.refl _ _⟩
set_option maxHeartbeats 1000000 in
theorem sameInts23_any (A B : Option Addr) (n c m d : Nat) (l r : List Int) (w : World) (hl : SlR 1 iR w (.slice A n c) l) (hr : SlR 1 iR w (.slice B m d) r) :
 Calls Tryz.prog 16 #[.slice A n c, .slice B m d] w fun e w' => e = .returned (.bool (sameL l r)) ∧ Below w.heap.size w w' := by
 have hn2 : n ≤ 9223372036854775807 := by have := hl.le; omega
 have hln := hl.len
 have hrn := hr.len
 have HL := Lib.hid hl
 have HR := Lib.hid hr
 clear hl hr
 by_cases e : n = m
 ·
  subst e
  have el : l.length = r.length := by omega
  skip
  have HN := Lib.hid hln
  have HE := Lib.hid el
  clear hln hrn el
  obtain ⟨v, hv⟩ : ∃ v, sameL l r = v := ⟨_, rfl⟩
  rw [hv]
  have HV : Hid (sameL (l.drop 0) (r.drop 0) = v) := Lib.hid hv
  clear hv
  go_enter Tryz.func16, Tryz.ntmps16
  go_wp2_with fail
  go_loopg [5] n (fun q i wr => ∃ k : Nat, k ≤ n ∧ q = n - k ∧ i = .int .i64 k ∧ sameL (l.drop k) (r.drop k) = v ∧ Below w.heap.size w wr)
  case atStart => exact ⟨0, Nat.zero_le _, rfl, rfl, HV.out, Below.refl _ _⟩
  case round =>
   obtain ⟨k, hk, hq, rfl, hv, hb⟩ := hrel
   have HQ := Lib.hid hq
   have HB := Lib.hid hb
   have HV2 := Lib.hid hv
   clear hq hb hv HV
   by_cases hlt : k < n
   ·
    obtain ⟨a, ao, x, rfl, hal, hx, hxc⟩ := i_at (HL.out.mono iR_mono HB.out) hlt
    obtain ⟨b, bo, y, rfl, hbl, hy, hyc⟩ := i_at (HR.out.mono iR_mono HB.out) hlt
    have HX := Lib.hid hx
    have HY := Lib.hid hy
    have hkn : (k : Int) < (n : Int) := by omega
    have hk0 : (0 : Int) ≤ (k : Int) := by omega
    clear hx hy
    by_cases exy : x = y
    ·
     subst exy
     go_wp2_with fail
     go_quiet (fail)
     go_wp2_with fail
     go_roundg (n - (k + 1))
     case measure => have := HQ.out; omega
     case rel => exact ⟨k + 1, by omega, rfl, by go_num, sameL_go HX.out HY.out HV2.out rfl, below_drewN HB.out _⟩
    ·
     obtain rfl := sameL_stop HX.out HY.out HV2.out exy
     go_wp2_with fail
     go_quiet (fail)
     go_wp2_with fail
     go_ret
     exact ⟨rfl, below_drewN HB.out _⟩
   ·
    obtain rfl := sameL_end HV2.out HE.out (by have := HN.out; omega)
    go_wp2_with fail
    go_ret
    exact ⟨rfl, HB.out⟩
 ·
  have el : ¬ l.length = r.length := by omega
  rw [sameL_len el]
  go_enter Tryz.func16, Tryz.ntmps16
  go_wp2_with fail
  go_ret
  exact ⟨rfl, Below.refl _ _⟩
end Go.Proofs.YtkgmonplcdnnbaaGreat
