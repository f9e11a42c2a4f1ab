/- Package leakage: fits. Written by genty.py. -/
import Derived.Test.YtkgmonplcdnnbaaGreatPm01
import Derived.Test.YtkgmonplcdnnbaaGreatPm07
import Derived.Test.YtkgmonplcdnnbaaGreatPm16
import Derived.Test.YtkgmonplcdnnbaaGreatPm18
import Derived.Test.YtkgmonplcdnnbaaGreatPm28
import Derived.Test.YtkgmonplcdnnbaaGreatPm02
namespace Go.Proofs.YtkgmonplcdnnbaaGreat
open Go.RowKit
theorem SlR.mapR {α β : Type} {sz : Nat} {R : World → List Value → α → Prop} {R' : World → List Value → β → Prop} {w : World} {v : Value} {l : List α} (f : α → β) (h : SlR sz R w v l)
 (hR : ∀ cs x, x ∈ l → R w cs x → R' w cs (f x)) : SlR sz R' w v (l.map f) := by
 obtain ⟨A, cap, e, h1, h2, h3⟩ := h
 refine ⟨A, cap, by simpa using e, by simpa using h1, h2, fun i y hi => ?_⟩
 rw [List.getElem?_map] at hi
 cases hx : l[i]? with
 | none => rw [hx] at hi; cases hi
 |
  some x =>
  rw [hx] at hi
  cases hi
  obtain ⟨b, off, cs, e1, e2, e3, e4, e5⟩ := h3 i x hx
  exact ⟨b, off, cs, e1, e2, e3, e4, hR cs x (List.mem_of_getElem? hx) e5⟩
def isI64 (x : Int) : Prop := -9223372036854775808 ≤ x ∧ x ≤ 9223372036854775807
instance (x : Int) : Decidable (isI64 x) := by unfold isI64; infer_instance
theorem ints_of_i {w : World} {v : Value} {l : List Int} (h : SlR 1 iR w v l) (hl : ∀ x ∈ l, isI64 x) : SlR 1 intR w v l := by
 have := h.mapR (R' := intR) (fun x => x) (fun cs x hx hr => ⟨hr, (hl x hx).1, (hl x hx).2⟩)
 simpa using this
theorem i_of_ints {w : World} {v : Value} {l : List Int} (h : SlR 1 intR w v l) : SlR 1 iR w v l := by
 have := h.mapR (R' := iR) (fun x => x) (fun cs x _ hr => hr.1)
 simpa using this
def depOf (d : QDep) : Dep := ⟨d.src, d.dst⟩
def depI64 (d : QDep) : Prop := (∀ x ∈ d.src, isI64 x) ∧ isI64 d.dst
instance (d : QDep) : Decidable (depI64 d) := by unfold depI64; infer_instance
theorem deps_of_q {w : World} {v : Value} {l : List QDep} (h : SlR 4 qDepR w v l) (hl : ∀ d ∈ l, depI64 d) : SlR 4 depR w v (l.map depOf) := by
 refine h.mapR depOf (fun cs x hx hr => ?_)
 obtain ⟨A1, n1, c1, A2, n2, c2, rfl, _, h2⟩ := hr
 exact ⟨A1, n1, c1, x.name, A2, n2, c2, rfl, ints_of_i h2.1 (hl x hx).1, (hl x hx).2.1, (hl x hx).2.2⟩
structure Subs (A1 A2 A3 A4 A5 A6 : Option Addr) (n1 c1 n2 c2 n3 c3 n4 c4 n5 c5 n6 c6 : Nat) (s : QSource) (pv : QConvert → Bool) (w : World) : Prop where
 rules : s.schemas.all (schemaOK s.issuers.length s.units.length) = true → ∀ (W : World) (g : Nat), Below w.heap.size w W → Blk W g 110 #[.slice A1 n1 c1, .slice A2 n2 c2, .slice A3 n3 c3, .slice A4 n4 c4, .slice A5 n5 c5, .slice A6 n6 c6] → Says 67 #[] #[.pointer (some ⟨g, 0, none⟩)] qRuleR (ruleOK s.units s.schemas) s.rules W
 purps : ∀ (W : World), Below w.heap.size w W → Says 75 #[(.agg #[.slice A1 n1 c1, .slice A2 n2 c2, .slice A3 n3 c3, .slice A4 n4 c4, .slice A5 n5 c5, .slice A6 n6 c6])] #[] qPurposeR (purposeOK s.schemas) s.purposes W
 vers : ∀ (W : World), Below w.heap.size w W → Says 78 #[(.agg #[.slice A1 n1 c1, .slice A2 n2 c2, .slice A3 n3 c3, .slice A4 n4 c4, .slice A5 n5 c5, .slice A6 n6 c6])] #[] qConvertR pv s.converts W
theorem Subs.below {A1 A2 A3 A4 A5 A6 : Option Addr} {n1 c1 n2 c2 n3 c3 n4 c4 n5 c5 n6 c6 : Nat} {s : QSource} {pv : QConvert → Bool} {w w' : World} (h : Subs A1 A2 A3 A4 A5 A6 n1 c1 n2 c2 n3 c3 n4 c4 n5 c5 n6 c6 s pv w) (hb : Below w.heap.size w w') : Subs A1 A2 A3 A4 A5 A6 n1 c1 n2 c2 n3 c3 n4 c4 n5 c5 n6 c6 s pv w' :=
 ⟨fun k W g hW => h.rules k W g (hb.trans (hW.mono hb.size)), fun W hW => h.purps W (hb.trans (hW.mono hb.size)), fun W hW => h.vers W (hb.trans (hW.mono hb.size))⟩
def resolvedP (s : QSource) : Int := if (resolveP s).1 = 0 then (if (resolveP s).2 = s then 0 else 160) else (resolveP s).1
def determinedP (s : QSource) : Int := if s.schemas.all (fun x => checkB x.fields.length (x.deps.map depOf)) then 0 else 130
def orderedP (s : QSource) : Int :=
 if rulesCheckP s = 0 then (if decide (s.schemas.length ≤ (orderL s.rules s.schemas.length).length) && (diffGo [] (orderL s.rules s.schemas.length) && decide ((orderL s.rules s.schemas.length).length = s.schemas.length)) then 0 else 141) else rulesCheckP s
def versionsP (pv : QConvert → Bool) (s : QSource) : Int := if s.converts.all pv then 0 else 150
set_option maxHeartbeats 4000000 in
set_option maxRecDepth 100000 in
theorem resolved_any (A1 A2 A3 A4 A5 A6 : Option Addr) (n1 c1 n2 c2 n3 c3 n4 c4 n5 c5 n6 c6 : Nat) (s : QSource) (w : World) (h1 : SlB 1 16 strR w (.slice A1 n1 c1) s.issuers) (h2 : SlB 5 56 qUnitR w (.slice A2 n2 c2) s.units) (h3 : SlB 6 96 qSchemaR w (.slice A3 n3 c3) s.schemas) (h4 : SlB 5 96 qRuleR w (.slice A4 n4 c4) s.rules) (h5 : SlB 5 72 qConvertR w (.slice A5 n5 c5) s.converts) (h6 : SlB 3 48 qPurposeR w (.slice A6 n6 c6) s.purposes) :
 Calls Tryz.prog 44 #[(.agg #[.slice A1 n1 c1, .slice A2 n2 c2, .slice A3 n3 c3, .slice A4 n4 c4, .slice A5 n5 c5, .slice A6 n6 c6])] w fun e w' => e = .returned (.int .i64 (resolvedP s)) ∧ Below w.heap.size w w' := by
 have hb0 : Below w.heap.size w (w.alloc (.cells #[.slice A1 n1 c1, .slice A2 n2 c2, .slice A3 n3 c3, .slice A4 n4 c4, .slice A5 n5 c5, .slice A6 n6 c6] 29)) := ((Below.refl _ _).alloc (Nat.le_refl _) _)
 have HC : Hid (Calls Tryz.prog 65 #[(.agg #[.slice A1 n1 c1, .slice A2 n2 c2, .slice A3 n3 c3, .slice A4 n4 c4, .slice A5 n5 c5, .slice A6 n6 c6])] (w.alloc (.cells #[.slice A1 n1 c1, .slice A2 n2 c2, .slice A3 n3 c3, .slice A4 n4 c4, .slice A5 n5 c5, .slice A6 n6 c6] 29)) (RetResolve s (w.alloc (.cells #[.slice A1 n1 c1, .slice A2 n2 c2, .slice A3 n3 c3, .slice A4 n4 c4, .slice A5 n5 c5, .slice A6 n6 c6] 29)))) := Lib.hid (resolve_any A1 A2 A3 A4 A5 A6 n1 c1 n2 c2 n3 c3 n4 c4 n5 c5 n6 c6 s _ (h1.mono strR_mono hb0) (h2.mono qUnitR_mono hb0) (h3.mono qSchemaR_mono hb0) (h4.mono qRuleR_mono hb0) (h5.mono qConvertR_mono hb0) (h6.mono qPurposeR_mono hb0))
 have HB0 := Lib.hid hb0
 clear hb0
 have H1 := Lib.hid h1
 have H2 := Lib.hid h2
 have H3 := Lib.hid h3
 have H4 := Lib.hid h4
 have H5 := Lib.hid h5
 have H6 := Lib.hid h6
 clear h1 h2 h3 h4 h5 h6
 obtain ⟨t, ht⟩ : ∃ t, (resolveP s).1 = t := ⟨_, rfl⟩
 obtain ⟨x, hx⟩ : ∃ x, (resolveP s).2 = x := ⟨_, rfl⟩
 have HT := Lib.hid ht
 have HX := Lib.hid hx
 clear ht hx
 go_enter Tryz.func44, Tryz.ntmps44
 go_wp2_with (go_at_call 65; refine HC.out.mono ?_)
 rintro e w1 ⟨cs, rfl, hsrc, hb1⟩
 rw [HX.out] at hsrc
 rw [HT.out]
 obtain ⟨B1, m1, d1, B2, m2, d2, B3, m3, d3, B4, m4, d4, B5, m5, d5, B6, m6, d6, rfl, k1, k2, k3, k4, k5, k6⟩ := hsrc
 have HB1 : Hid (Below w.heap.size w w1) := Lib.hid (HB0.out.trans (hb1.mono HB0.out.size))
 have kb := (Blk.new w 29 #[.slice A1 n1 c1, .slice A2 n2 c2, .slice A3 n3 c3, .slice A4 n4 c4, .slice A5 n5 c5, .slice A6 n6 c6]).below hb1 (by simp)
 have q0 := kb.cell 0
 have q1 := kb.cell 1
 have q2 := kb.cell 2
 have q3 := kb.cell 3
 have q4 := kb.cell 4
 have q5 := kb.cell 5
 have lq := kb.lt
 simp only [List.getElem?_toArray, List.getElem?_cons_zero, List.getElem?_cons_succ] at q0 q1 q2 q3 q4 q5
 have K1 := Lib.hid k1
 have K2 := Lib.hid k2
 have K3 := Lib.hid k3
 have K4 := Lib.hid k4
 have K5 := Lib.hid k5
 have K6 := Lib.hid k6
 clear hb1 kb HC k1 k2 k3 k4 k5 k6
 by_cases ht0 : t = 0
 ·
  subst ht0
  have hba : ∀ o, Below w1.heap.size w1 (w1.alloc o) := fun o => (Below.refl _ _).alloc (Nat.le_refl _) o
  obtain ⟨v, hv⟩ : ∃ v, decide (x = s) = v := ⟨_, rfl⟩
  have HV := Lib.hid hv
  have HS : Hid (∀ o, Calls Tryz.prog 50 #[.agg #[.slice B1 m1 d1, .slice B2 m2 d2, .slice B3 m3 d3, .slice B4 m4 d4, .slice B5 m5 d5, .slice B6 m6 d6], (.agg #[.slice A1 n1 c1, .slice A2 n2 c2, .slice A3 n3 c3, .slice A4 n4 c4, .slice A5 n5 c5, .slice A6 n6 c6])] (w1.alloc o) fun e w' => e = .returned (.bool v) ∧ Below (w1.alloc o).heap.size (w1.alloc o) w') := Lib.hid (fun o => by
   have := sameSource_any B1 A1 B2 A2 B3 A3 B4 A4 B5 A5 B6 A6 m1 d1 n1 c1 m2 d2 n2 c2 m3 d3 n3 c3 m4 d4 n4 c4 m5 d5 n5 c5 m6 d6 n6 c6 x s (w1.alloc o)
    (K1.out.1.mono strR_mono (hba o)) (H1.out.1.mono strR_mono (HB1.out.trans ((hba o).mono HB1.out.size)))
    (K2.out.1.mono qUnitR_mono (hba o)) (H2.out.1.mono qUnitR_mono (HB1.out.trans ((hba o).mono HB1.out.size)))
    (K3.out.1.mono qSchemaR_mono (hba o)) (H3.out.1.mono qSchemaR_mono (HB1.out.trans ((hba o).mono HB1.out.size)))
    (K4.out.1.mono qRuleR_mono (hba o)) (H4.out.1.mono qRuleR_mono (HB1.out.trans ((hba o).mono HB1.out.size)))
    (K5.out.1.mono qConvertR_mono (hba o)) (H5.out.1.mono qConvertR_mono (HB1.out.trans ((hba o).mono HB1.out.size)))
    (K6.out.1.mono qPurposeR_mono (hba o)) (H6.out.1.mono qPurposeR_mono (HB1.out.trans ((hba o).mono HB1.out.size)))
   rw [hv] at this
   exact this)
  clear hv hba
  go_wp2_with (go_at_call 50; refine (HS.out _).mono ?_; clear HS)
  first | rintro e w2 rfl hb2 | rintro e w2 ⟨rfl, hb2⟩
  have HB2 : Hid (Below w.heap.size w w2) := Lib.hid ((HB1.out.alloc HB1.out.size _).trans (hb2.mono (by have := HB1.out.size; simp; omega)))
  clear hb2
  cases v with
  |
   true =>
   go_wp2_with fail
   go_ret
   exact ⟨ret_int (by rw [resolvedP, if_pos HT.out, HX.out, if_pos (of_decide_eq_true HV.out)]), HB2.out⟩
  |
   false =>
   go_wp2_with fail
   go_ret
   exact ⟨ret_int (by rw [resolvedP, if_pos HT.out, HX.out, if_neg (of_decide_eq_false HV.out)]), HB2.out⟩
 ·
  have htn : (t != 0) = true := by simpa using ht0
  go_wp2_with fail
  go_ret
  exact ⟨ret_int (by rw [resolvedP, if_neg (by rw [HT.out]; exact ht0), HT.out]), HB1.out.alloc HB1.out.size _⟩
set_option maxHeartbeats 4000000 in
set_option maxRecDepth 100000 in
theorem determined_any (A1 A2 A3 A4 A5 A6 : Option Addr) (n1 c1 n2 c2 n3 c3 n4 c4 n5 c5 n6 c6 : Nat) (s : QSource) (w : World) (h3 : SlB 6 96 qSchemaR w (.slice A3 n3 c3) s.schemas) (hI : ∀ x ∈ s.schemas, ∀ d ∈ x.deps, depI64 d) :
 Calls Tryz.prog 46 #[(.agg #[.slice A1 n1 c1, .slice A2 n2 c2, .slice A3 n3 c3, .slice A4 n4 c4, .slice A5 n5 c5, .slice A6 n6 c6])] w fun e w' => e = .returned (.int .i64 (determinedP s)) ∧ Below w.heap.size w w' := by
 have hn3 : n3 ≤ 9223372036854775807 := by have := h3.1.le; omega
 have HN := Lib.hid h3.1.len
 have H3 := Lib.hid h3.1
 have HI := Lib.hid hI
 clear h3 hI
 have HB0 : Hid (Below w.heap.size w (w.alloc (.cells #[.slice A1 n1 c1, .slice A2 n2 c2, .slice A3 n3 c3, .slice A4 n4 c4, .slice A5 n5 c5, .slice A6 n6 c6] 29))) := Lib.hid ((Below.refl _ _).alloc (Nat.le_refl _) _)
 go_enter Tryz.func46, Tryz.ntmps46
 go_wp2_with fail
 go_loopg [9] n3 (fun q i wr => ∃ k : Nat, k ≤ n3 ∧ q = n3 - k ∧ i = .int .i64 k ∧ (s.schemas.take k).all (fun x => checkB x.fields.length (x.deps.map depOf)) = true ∧ Below w.heap.size w wr)
 case atStart => exact ⟨0, Nat.zero_le _, rfl, rfl, rfl, HB0.out⟩
 case round =>
  clear HB0
  obtain ⟨k, hk, hq, rfl, hv, hb⟩ := hrel
  have HQ := Lib.hid hq
  have HB := Lib.hid hb
  have HV := Lib.hid hv
  clear hq hb hv
  by_cases hlt : k < n3
  ·
   obtain ⟨b, off, x, B1, m1, d1, B2, m2, d2, rfl, hbl, hx, e0, e1, e2, e3, e4, e5, g1, g2⟩ := qSchema_at (H3.out.mono qSchemaR_mono HB.out) hlt
   have HX := Lib.hid hx
   have hkn : (k : Int) < (n3 : Int) := by omega
   have hk0 : (0 : Int) ≤ (k : Int) := by omega
   have hfl : m1 = x.fields.length := g1.1.len
   have hm1 : m1 ≤ 9223372036854775807 := by have := g1.1.le; omega
   obtain ⟨v, hv⟩ : ∃ v, checkB x.fields.length (x.deps.map depOf) = v := ⟨_, rfl⟩
   have HV2 := Lib.hid hv
   have HC : Hid (∀ o, Calls Tryz.prog 60 #[.agg #[.string x.name, .string x.by_, .int .i64 x.issuer, .int .i64 x.version, .slice B1 m1 d1, .slice B2 m2 d2]] (wr.alloc o) fun e w' => e = .returned (.int .i64 (eno v)) ∧ Below (wr.alloc o).heap.size (wr.alloc o) w') := Lib.hid (fun o => by
    have := check_any x.name x.by_ x.issuer x.version B1 B2 m1 d1 m2 d2 (x.deps.map depOf) (wr.alloc o) hm1 ((deps_of_q g2.1 (HI.out x (List.mem_of_getElem? hx))).mono depR_mono ((Below.refl _ _).alloc (Nat.le_refl _) _))
    rw [hfl, hv] at this
    rw [hfl]
    exact this)
   clear hx g1 g2 hv hfl
   go_wp2_with (go_at_call 60; refine (HC.out _).mono ?_; clear HC)
   first | rintro e w1 rfl hb1 | rintro e w1 ⟨rfl, hb1⟩
   have HB1 : Hid (Below w.heap.size w w1) := Lib.hid ((HB.out.alloc HB.out.size _).trans (hb1.mono (by have := HB.out.size; simp; omega)))
   clear hb1
   cases v with
   |
    true =>
    rw [show eno true = 0 from rfl]
    go_wp2_with fail
    go_roundg (n3 - (k + 1))
    case measure => have := HQ.out; omega
    case rel => exact ⟨k + 1, by omega, rfl, by go_num, all_take HX.out HV2.out HV.out, HB1.out⟩
   |
    false =>
    rw [show eno false = 130 from rfl]
    go_wp2_with fail
    go_ret
    exact ⟨ret_int (by rw [determinedP, all_at HX.out HV2.out]; rfl), HB1.out⟩
  ·
   have HT : Hid (s.schemas.all (fun x => checkB x.fields.length (x.deps.map depOf)) = true) := by
    have := HV.out
    rw [List.take_of_length_le (by have := HN.out; omega)] at this
    exact this
   go_wp2_with fail
   go_ret
   exact ⟨ret_int (by rw [determinedP, HT.out]; rfl), HB.out⟩
set_option maxHeartbeats 2000000 in
theorem whole_any (A : Option Addr) (n c : Nat) (l : List Int) (many : Nat) (w : World) (hs : SlR 1 iR w (.slice A n c) l) :
 Calls Tryz.prog 77 #[.map (some w.heap.size), .slice A n c, .int .i64 many] (w.alloc (.map #[] 0)) fun e w' => e = .returned (.bool (diffGo [] l && decide (l.length = many))) ∧ Below w.heap.size w w' := by
 have hn2 : n ≤ 9223372036854775807 := by have := hs.le; omega
 have HN := Lib.hid hs.len
 have HS := Lib.hid hs
 have HM : Hid (MapAt (Value.int .i64) Value.bool (w.alloc (.map #[] 0)) w.heap.size (seenM ([] : List Int))) := Lib.hid (MapAt.new _ _ w)
 have HB0 : Hid (Below w.heap.size w (w.alloc (.map #[] 0))) := Lib.hid ((Below.refl _ _).alloc (Nat.le_refl _) _)
 clear hs
 obtain ⟨v, hv⟩ : ∃ v, diffGo [] l = v := ⟨_, rfl⟩
 rw [hv]
 have HV : Hid (diffGo (l.take 0) (l.drop 0) = v) := Lib.hid hv
 clear hv
 go_enter Tryz.func77, Tryz.ntmps77
 go_wp2_with fail
 go_loopg [11] n (fun g i wr => ∃ k : Nat, k ≤ n ∧ g = n - k ∧ i = .int .i64 k ∧ diffGo (l.take k) (l.drop k) = v ∧ MapAt (Value.int .i64) Value.bool wr w.heap.size (seenM (l.take k)) ∧ Below w.heap.size w wr)
 case atStart => exact ⟨0, Nat.zero_le _, rfl, rfl, HV.out, HM.out, HB0.out⟩
 case round =>
  clear HM HV HB0
  obtain ⟨k, hk, hg, rfl, hv, hm, hb⟩ := hrel
  have HG := Lib.hid hg
  have HB := Lib.hid hb
  by_cases hlt : k < n
  ·
   obtain ⟨bb, off, x, rfl, hbbl, hx, hc⟩ := i_at HS.out hlt
   have hc2 := (HB.out.cell (p := ⟨bb, off + k, none⟩) hbbl).trans hc
   have hbl2 : bb < wr.heap.size := Nat.lt_of_lt_of_le hbbl hb.size
   rw [drop_cons hx, diffGo] at hv
   have hlook := run_lookup_m (keyEq_int Tryz.underlying3) Tryz.underlying124 (z := .bool false) (by kernel_rfl) hm x false
   rw [getM_seen] at hlook
   by_cases hmem : x ∈ l.take k
   ·
    rw [if_pos hmem] at hv hlook
    subst hv
    simp only [Option.map_some, Option.getD_some, Bool.false_eq_true, if_false] at hlook
    clear hx hg hb hm hmem hc
    go_wp2_with fail
    go_ret
    exact ⟨rfl, HB.out⟩
   ·
    rw [if_neg hmem] at hv hlook
    simp only [Option.map_none, Option.getD_none, Bool.false_eq_true, if_false] at hlook
    obtain ⟨w3, hrun3, hm3, hg3⟩ := run_update_m (keyEq_int Tryz.underlying3) Tryz.underlying124 hm x true
    rw [putM_seen _ _ hmem, ← take_snoc hx] at hm3
    rw [← take_snoc hx] at hv
    have HB3 : Hid (Below w.heap.size w w3) := Lib.hid (HB.out.grown hg3 HB.out.size (fun r e => by cases e; exact Nat.le_refl _))
    have HM3 := Lib.hid hm3
    have HV3 := Lib.hid hv
    clear hm3 hg3 hv hx hg hb hm hmem hc
    go_wp2_with fail
    go_roundg (n - (k + 1))
    case measure => have := HG.out; omega
    case rel => exact ⟨k + 1, by omega, rfl, by go_num, HV3.out, HM3.out, HB3.out⟩
  ·
   rw [List.drop_of_length_le (by have := HN.out; omega)] at hv
   subst hv
   clear hm hb
   by_cases hnm : n = many
   ·
    subst hnm
    go_wp2_with fail
    go_ret
    exact ⟨ret_bool (by simp [diffGo, HN.out]), HB.out⟩
   ·
    have hnm2 : ¬ (n : Int) = (many : Int) := by omega
    go_wp2_with fail
    go_ret
    exact ⟨ret_bool (by rw [decide_eq_false (by have := HN.out; omega)]; simp; omega), HB.out⟩
set_option maxHeartbeats 4000000 in
set_option maxRecDepth 100000 in
theorem versionsCheck_of (A1 A2 A3 A4 A5 A6 : Option Addr) (n1 c1 n2 c2 n3 c3 n4 c4 n5 c5 n6 c6 : Nat) (s : QSource) (pv : QConvert → Bool) (w : World) (h5 : SlB 5 72 qConvertR w (.slice A5 n5 c5) s.converts) (hv : ∀ (W : World), Below w.heap.size w W → Says 78 #[(.agg #[.slice A1 n1 c1, .slice A2 n2 c2, .slice A3 n3 c3, .slice A4 n4 c4, .slice A5 n5 c5, .slice A6 n6 c6])] #[] qConvertR pv s.converts W) :
 Calls Tryz.prog 48 #[(.agg #[.slice A1 n1 c1, .slice A2 n2 c2, .slice A3 n3 c3, .slice A4 n4 c4, .slice A5 n5 c5, .slice A6 n6 c6])] w fun e w' => e = .returned (.int .i64 (versionsP pv s)) ∧ Below w.heap.size w w' := by
 have hn5 : n5 ≤ 9223372036854775807 := by have := h5.1.le; omega
 have HN := Lib.hid h5.1.len
 have H5 := Lib.hid h5.1
 have HV0 := Lib.hid hv
 clear h5 hv
 have HB0 : Hid (Below w.heap.size w (w.alloc (.cells #[.slice A1 n1 c1, .slice A2 n2 c2, .slice A3 n3 c3, .slice A4 n4 c4, .slice A5 n5 c5, .slice A6 n6 c6] 29))) := Lib.hid ((Below.refl _ _).alloc (Nat.le_refl _) _)
 have HK0 : Hid (Blk (w.alloc (.cells #[.slice A1 n1 c1, .slice A2 n2 c2, .slice A3 n3 c3, .slice A4 n4 c4, .slice A5 n5 c5, .slice A6 n6 c6] 29)) w.heap.size 29 #[.slice A1 n1 c1, .slice A2 n2 c2, .slice A3 n3 c3, .slice A4 n4 c4, .slice A5 n5 c5, .slice A6 n6 c6]) := Lib.hid (Blk.new _ _ _)
 go_enter Tryz.func48, Tryz.ntmps48
 go_wp2_with fail
 go_loopg [8] n5 (fun q i wr => ∃ k : Nat, k ≤ n5 ∧ q = n5 - k ∧ i = .int .i64 k ∧ (s.converts.take k).all pv = true ∧ Blk wr w.heap.size 29 #[.slice A1 n1 c1, .slice A2 n2 c2, .slice A3 n3 c3, .slice A4 n4 c4, .slice A5 n5 c5, .slice A6 n6 c6] ∧ Below w.heap.size w wr)
 case atStart => exact ⟨0, Nat.zero_le _, rfl, rfl, rfl, HK0.out, HB0.out⟩
 case round =>
  clear HB0 HK0
  obtain ⟨k, hk, hq, rfl, hv, hkb, hb⟩ := hrel
  have HQ := Lib.hid hq
  have HB := Lib.hid hb
  have HV := Lib.hid hv
  have HK := Lib.hid hkb
  have q0 := hkb.cell 0
  have q1 := hkb.cell 1
  have q2 := hkb.cell 2
  have q3 := hkb.cell 3
  have q4 := hkb.cell 4
  have q5 := hkb.cell 5
  have lq := hkb.lt
  simp only [List.getElem?_toArray, List.getElem?_cons_zero, List.getElem?_cons_succ] at q0 q1 q2 q3 q4 q5
  clear hq hb hv hkb
  by_cases hlt : k < n5
  ·
   obtain ⟨b, off, x, B1, m1, d1, rfl, hbl, hx, e0, e1, e2, e3, e4, g1⟩ := qConvert_at (H5.out.mono qConvertR_mono HB.out) hlt
   have HX := Lib.hid hx
   have hkn : (k : Int) < (n5 : Int) := by omega
   have hk0 : (0 : Int) ≤ (k : Int) := by omega
   obtain ⟨v, hv⟩ : ∃ v, pv x = v := ⟨_, rfl⟩
   have HV2 := Lib.hid hv
   have HC : Hid (∀ o, Calls Tryz.prog 78 #[(.agg #[.slice A1 n1 c1, .slice A2 n2 c2, .slice A3 n3 c3, .slice A4 n4 c4, .slice (some ⟨b, off, none⟩) n5 c5, .slice A6 n6 c6]), .agg #[.string x.from_, .string x.to_, .int .i64 x.a, .int .i64 x.b, .slice B1 m1 d1]] (wr.alloc o) fun e w' => e = .returned (.bool v) ∧ Below (wr.alloc o).heap.size (wr.alloc o) w') := Lib.hid (fun o => by
    have hba : Below wr.heap.size wr (wr.alloc o) := (Below.refl _ _).alloc (Nat.le_refl _) o
    have := HV0.out wr HB.out (wr.alloc o) [.string x.from_, .string x.to_, .int .i64 x.a, .int .i64 x.b, .slice B1 m1 d1] x hba (List.mem_of_getElem? hx) (qConvertR_mono _ _ hba _ _ ⟨B1, m1, d1, rfl, g1⟩)
    rw [hv] at this
    exact this)
   clear hx g1 hv
   go_wp2_with (go_at_call 78; refine (HC.out _).mono ?_; clear HC)
   first | rintro e w1 rfl hb1 | rintro e w1 ⟨rfl, hb1⟩
   have HB1 : Hid (Below w.heap.size w w1) := Lib.hid ((HB.out.alloc HB.out.size _).trans (hb1.mono (by have := HB.out.size; simp; omega)))
   have HK1 : Hid (Blk w1 w.heap.size 29 #[.slice A1 n1 c1, .slice A2 n2 c2, .slice A3 n3 c3, .slice A4 n4 c4, .slice (some ⟨b, off, none⟩) n5 c5, .slice A6 n6 c6]) := Lib.hid ((HK.out.alloc _).below hb1 (by simp; omega))
   clear hb1
   cases v with
   |
    true =>
    go_wp2_with fail
    go_roundg (n5 - (k + 1))
    case measure => have := HQ.out; omega
    case rel => exact ⟨k + 1, by omega, rfl, by go_num, all_take HX.out HV2.out HV.out, HK1.out, HB1.out⟩
   |
    false =>
    go_wp2_with fail
    go_ret
    exact ⟨ret_int (by rw [versionsP, all_at HX.out HV2.out]; rfl), HB1.out⟩
  ·
   have HT : Hid (s.converts.all pv = true) := by
    have := HV.out
    rw [List.take_of_length_le (by have := HN.out; omega)] at this
    exact this
   go_wp2_with fail
   go_ret
   exact ⟨ret_int (by rw [versionsP, HT.out]; rfl), HB.out⟩
set_option maxHeartbeats 4000000 in
set_option maxRecDepth 100000 in
theorem ordered_any (A1 A2 A3 A4 A5 A6 : Option Addr) (n1 c1 n2 c2 n3 c3 n4 c4 n5 c5 n6 c6 : Nat) (s : QSource) (pv : QConvert → Bool) (w : World) (h1 : SlB 1 16 strR w (.slice A1 n1 c1) s.issuers) (h2 : SlB 5 56 qUnitR w (.slice A2 n2 c2) s.units) (h3 : SlB 6 96 qSchemaR w (.slice A3 n3 c3) s.schemas) (h4 : SlB 5 96 qRuleR w (.slice A4 n4 c4) s.rules) (h5 : SlB 5 72 qConvertR w (.slice A5 n5 c5) s.converts) (h6 : SlB 3 48 qPurposeR w (.slice A6 n6 c6) s.purposes) (hsub : Subs A1 A2 A3 A4 A5 A6 n1 c1 n2 c2 n3 c3 n4 c4 n5 c5 n6 c6 s pv w) :
 Calls Tryz.prog 47 #[(.agg #[.slice A1 n1 c1, .slice A2 n2 c2, .slice A3 n3 c3, .slice A4 n4 c4, .slice A5 n5 c5, .slice A6 n6 c6])] w fun e w' => e = .returned (.int .i64 (orderedP s)) ∧ Below w.heap.size w w' := by
 have hb0 : Below w.heap.size w (w.alloc (.cells #[.slice A1 n1 c1, .slice A2 n2 c2, .slice A3 n3 c3, .slice A4 n4 c4, .slice A5 n5 c5, .slice A6 n6 c6] 29)) := ((Below.refl _ _).alloc (Nat.le_refl _) _)
 obtain ⟨t, ht⟩ : ∃ t, rulesCheckP s = t := ⟨_, rfl⟩
 have HC : Hid (Calls Tryz.prog 76 #[(.agg #[.slice A1 n1 c1, .slice A2 n2 c2, .slice A3 n3 c3, .slice A4 n4 c4, .slice A5 n5 c5, .slice A6 n6 c6])] (w.alloc (.cells #[.slice A1 n1 c1, .slice A2 n2 c2, .slice A3 n3 c3, .slice A4 n4 c4, .slice A5 n5 c5, .slice A6 n6 c6] 29)) fun e w' => e = .returned (.int .i64 t) ∧ Below (w.alloc (.cells #[.slice A1 n1 c1, .slice A2 n2 c2, .slice A3 n3 c3, .slice A4 n4 c4, .slice A5 n5 c5, .slice A6 n6 c6] 29)).heap.size (w.alloc (.cells #[.slice A1 n1 c1, .slice A2 n2 c2, .slice A3 n3 c3, .slice A4 n4 c4, .slice A5 n5 c5, .slice A6 n6 c6] 29)) w') := Lib.hid (by
  rw [← ht]
  have hs2 := hsub.below hb0
  exact rulesCheck_of A1 A2 A3 A4 A5 A6 n1 c1 n2 c2 n3 c3 n4 c4 n5 c5 n6 c6 s _ (h1.1.mono strR_mono hb0) (h2.1.mono qUnitR_mono hb0) (h3.1.mono qSchemaR_mono hb0) (h4.1.mono qRuleR_mono hb0) h5.1.len (h6.1.mono qPurposeR_mono hb0) hs2.rules hs2.purps)
 have HT := Lib.hid ht
 have HB0 := Lib.hid hb0
 have HN3 := Lib.hid h3.1.len
 have H4 := Lib.hid h4.1
 clear ht hb0 h1 h2 h3 h4 h5 h6 hsub
 have hmm : ∀ (w : World), (Instr.makeMap 124 none).run Tryz.prog w = .ok (.map (some w.heap.size)) (w.alloc (.map #[] 0)) := by
  intro w
  simp [Instr.makeMap]
 go_enter Tryz.func47, Tryz.ntmps47
 go_wp2_with (go_at_call 76; refine HC.out.mono ?_)
 first | rintro e w1 rfl hb1 | rintro e w1 ⟨rfl, hb1⟩
 have HB1 : Hid (Below w.heap.size w w1) := Lib.hid (HB0.out.trans (hb1.mono HB0.out.size))
 have kb := (Blk.new w 29 #[.slice A1 n1 c1, .slice A2 n2 c2, .slice A3 n3 c3, .slice A4 n4 c4, .slice A5 n5 c5, .slice A6 n6 c6]).below hb1 (by simp)
 have q0 := kb.cell 0
 have q1 := kb.cell 1
 have q2 := kb.cell 2
 have q3 := kb.cell 3
 have q4 := kb.cell 4
 have q5 := kb.cell 5
 have lq := kb.lt
 simp only [List.getElem?_toArray, List.getElem?_cons_zero, List.getElem?_cons_succ] at q0 q1 q2 q3 q4 q5
 have HKB := Lib.hid kb
 clear hb1 kb HC
 by_cases ht0 : t = 0
 ·
  subst ht0
  have HTY : Hid (typesP s = 0) := Lib.hid (by
   have := HT.out
   unfold rulesCheckP at this
   split at this
   · assumption
   · next h => exact absurd this h)
  have HNUM : Hid (n3 ≤ 1000 ∧ ∀ r ∈ s.rules, (0 ≤ r.schema ∧ r.schema < n3) ∧ ∀ f ∈ r.froms, 0 ≤ f.schema ∧ f.schema < n3) := Lib.hid (by
   obtain ⟨h1, h2, h3, h4, h5⟩ := typesP_zero HTY.out
   refine ⟨by have := limited_schemas h1; have := HN3.out; omega, fun r hr => ?_⟩
   rw [HN3.out]
   exact ruleOK_num (List.all_eq_true.1 h4 r hr))
  go_wp2_with (go_at_call 49; refine (order_any A1 A2 A3 A4 A5 A6 n1 c1 n2 c2 n3 c3 n4 c4 n5 c5 n6 c6 s.rules w1 (H4.out.mono qRuleR_mono HB1.out) HNUM.out.1 HNUM.out.2).mono ?_)
  first | rintro e w2 v ok rfl hok hv hb2 | rintro e w2 ⟨v, ok, rfl, hok, hv, hb2⟩
  have HOK := Lib.hid hok
  have HB2 : Hid (Below w.heap.size w w2) := Lib.hid (HB1.out.trans (hb2.mono HB1.out.size))
  have kb := HKB.out.below hb2 lq
  have q2 := kb.cell 2
  have lq2 := kb.lt
  simp only [List.getElem?_toArray, List.getElem?_cons_zero, List.getElem?_cons_succ] at q2
  have hv := slI_of_own hv
  obtain ⟨A, c, rfl⟩ := hv.form
  have HV := Lib.hid hv
  clear hok hv hb2 kb q0 q1 q3 q4 q5
  cases ok with
  |
   true =>
   have HVO : Hid (SlR 1 iR w2 (.slice A (orderL s.rules n3).length c) (orderL s.rules n3)) := Lib.hid HV.out
   clear HV
   simp only [if_true]
   obtain ⟨v2, hv2⟩ : ∃ v2, (diffGo [] (orderL s.rules n3) && decide ((orderL s.rules n3).length = n3)) = v2 := ⟨_, rfl⟩
   have HV2 := Lib.hid hv2
   have HWC : Hid (Calls Tryz.prog 77 #[.map (some w2.heap.size), .slice A (orderL s.rules n3).length c, .int .i64 n3] (w2.alloc (.map #[] 0)) fun e w' => e = .returned (.bool v2) ∧ Below w2.heap.size w2 w') := Lib.hid (by
    have := whole_any A (orderL s.rules n3).length c (orderL s.rules n3) n3 w2 HVO.out
    rw [hv2] at this
    exact this)
   clear hv2
   go_wp2_with (go_at_call 77; refine HWC.out.mono ?_; clear HWC)
   first | rintro e w3 rfl hb3 | rintro e w3 ⟨rfl, hb3⟩
   have HB3 : Hid (Below w.heap.size w w3) := Lib.hid (HB2.out.trans (hb3.mono HB2.out.size))
   clear hb3
   have HP : Hid (orderedP s = if v2 then 0 else 141) := Lib.hid (by
    rw [orderedP, if_pos HT.out, ← HN3.out, HV2.out, ← HOK.out, Bool.true_and])
   cases v2 with
   |
    true =>
    go_wp2_with fail
    go_ret
    exact ⟨ret_int (by rw [HP.out]; rfl), HB3.out⟩
   |
    false =>
    go_wp2_with fail
    go_ret
    exact ⟨ret_int (by rw [HP.out]; rfl), HB3.out⟩
  |
   false =>
   go_wp2_with fail
   go_ret
   exact ⟨ret_int (by rw [orderedP, if_pos HT.out, ← HN3.out, ← HOK.out, Bool.false_and]; rfl), HB2.out⟩
 ·
  have htn : (t != 0) = true := by simpa using ht0
  go_wp2_with fail
  go_ret
  exact ⟨ret_int (by rw [orderedP, HT.out, if_neg ht0]), HB1.out⟩
def stepsP (pv : QConvert → Bool) (s : QSource) : List Int := [resolvedP s, typesP s, determinedP s, orderedP s, versionsP pv s]
def lowerP (pv : QConvert → Bool) (s : QSource) : Int := ((stepsP pv s).find? fun x => decide (x ≠ 0)).getD 0
theorem lowerP_at {pv : QConvert → Bool} {s : QSource} {j : Nat} {t : Int} (h : ((stepsP pv s).take j).all (fun x => decide (x = 0)) = true) (hj : (stepsP pv s)[j]? = some t) (ht : t ≠ 0) : lowerP pv s = t := by
 unfold lowerP
 have hs : stepsP pv s = (stepsP pv s).take j ++ t :: (stepsP pv s).drop (j + 1) := by
  rw [← drop_cons hj, List.take_append_drop]
 rw [hs, List.find?_append]
 have hn : ((stepsP pv s).take j).find? (fun x => decide (x ≠ 0)) = none := by
  rw [List.find?_eq_none]
  intro x hx
  have := List.all_eq_true.1 h x hx
  simpa using this
 rw [hn]
 simp [ht]
theorem lowerP_zero {pv : QConvert → Bool} {s : QSource} (h : (stepsP pv s).all (fun x => decide (x = 0)) = true) : lowerP pv s = 0 := by
 unfold lowerP
 have hn : (stepsP pv s).find? (fun x => decide (x ≠ 0)) = none := by
  rw [List.find?_eq_none]
  intro x hx
  have := List.all_eq_true.1 h x hx
  simpa using this
 rw [hn]
 rfl
def RetLower (A1 A2 A3 A4 A5 A6 : Option Addr) (n1 c1 n2 c2 n3 c3 n4 c4 n5 c5 n6 c6 : Nat) (pv : QConvert → Bool) (s : QSource) (w : World) (e : Ending) (w' : World) : Prop :=
 ((
  lowerP pv s ≠ 0 ∧ e = .returned (.tuple #[.agg #[.slice none 0 0, .slice none 0 0, .slice none 0 0, .slice none 0 0, .slice none 0 0, .slice none 0 0, .slice none 0 0], .int .i64 (lowerP pv s)])) ∨
  (lowerP pv s = 0 ∧ ∃ C d, e = .returned (.tuple #[.agg #[.slice A1 n1 c1, .slice A2 n2 c2, .slice A3 n3 c3, .slice A4 n4 c4, .slice A5 n5 c5, .slice A6 n6 c6, .slice C (orderL s.rules s.schemas.length).length d], .int .i64 0]) ∧ SlR 1 iR w' (.slice C (orderL s.rules s.schemas.length).length d) (orderL s.rules s.schemas.length))) ∧ Below w.heap.size w w'
set_option maxHeartbeats 8000000 in
set_option maxRecDepth 100000 in
theorem lower_any (A1 A2 A3 A4 A5 A6 : Option Addr) (n1 c1 n2 c2 n3 c3 n4 c4 n5 c5 n6 c6 : Nat) (s : QSource) (pv : QConvert → Bool) (w : World) (h1 : SlB 1 16 strR w (.slice A1 n1 c1) s.issuers) (h2 : SlB 5 56 qUnitR w (.slice A2 n2 c2) s.units) (h3 : SlB 6 96 qSchemaR w (.slice A3 n3 c3) s.schemas) (h4 : SlB 5 96 qRuleR w (.slice A4 n4 c4) s.rules) (h5 : SlB 5 72 qConvertR w (.slice A5 n5 c5) s.converts) (h6 : SlB 3 48 qPurposeR w (.slice A6 n6 c6) s.purposes) (hsub : Subs A1 A2 A3 A4 A5 A6 n1 c1 n2 c2 n3 c3 n4 c4 n5 c5 n6 c6 s pv w) (hI : ∀ x ∈ s.schemas, ∀ d ∈ x.deps, depI64 d) :
 Calls Tryz.prog 33 #[(.agg #[.slice A1 n1 c1, .slice A2 n2 c2, .slice A3 n3 c3, .slice A4 n4 c4, .slice A5 n5 c5, .slice A6 n6 c6])] w (RetLower A1 A2 A3 A4 A5 A6 n1 c1 n2 c2 n3 c3 n4 c4 n5 c5 n6 c6 pv s w) := by
 have H1 := Lib.hid h1
 have H2 := Lib.hid h2
 have H3 := Lib.hid h3
 have H4 := Lib.hid h4
 have H5 := Lib.hid h5
 have H6 := Lib.hid h6
 clear h1 h2 h3 h4 h5 h6
 have HSUB := Lib.hid hsub
 have HI := Lib.hid hI
 clear hsub hI
 have hi0 : ∀ w : World, (Instr.index 97 (.agg #[.func (.func 44) #[] #[], .func (.func 45) #[] #[], .func (.func 46) #[] #[], .func (.func 47) #[] #[], .func (.func 48) #[] #[]]) (.int .i64 0)).run Tryz.prog w = .ok (.func (.func 44) #[] #[]) w := fun _ => by kernel_rfl
 have hi1 : ∀ w : World, (Instr.index 97 (.agg #[.func (.func 44) #[] #[], .func (.func 45) #[] #[], .func (.func 46) #[] #[], .func (.func 47) #[] #[], .func (.func 48) #[] #[]]) (.int .i64 1)).run Tryz.prog w = .ok (.func (.func 45) #[] #[]) w := fun _ => by kernel_rfl
 have hi2 : ∀ w : World, (Instr.index 97 (.agg #[.func (.func 44) #[] #[], .func (.func 45) #[] #[], .func (.func 46) #[] #[], .func (.func 47) #[] #[], .func (.func 48) #[] #[]]) (.int .i64 2)).run Tryz.prog w = .ok (.func (.func 46) #[] #[]) w := fun _ => by kernel_rfl
 have hi3 : ∀ w : World, (Instr.index 97 (.agg #[.func (.func 44) #[] #[], .func (.func 45) #[] #[], .func (.func 46) #[] #[], .func (.func 47) #[] #[], .func (.func 48) #[] #[]]) (.int .i64 3)).run Tryz.prog w = .ok (.func (.func 47) #[] #[]) w := fun _ => by kernel_rfl
 have hi4 : ∀ w : World, (Instr.index 97 (.agg #[.func (.func 44) #[] #[], .func (.func 45) #[] #[], .func (.func 46) #[] #[], .func (.func 47) #[] #[], .func (.func 48) #[] #[]]) (.int .i64 4)).run Tryz.prog w = .ok (.func (.func 48) #[] #[]) w := fun _ => by kernel_rfl
 have HIX := Lib.hid (And.intro hi0 (And.intro hi1 (And.intro hi2 (And.intro hi3 hi4))))
 clear hi0 hi1 hi2 hi3 hi4
 go_enter Tryz.func33, Tryz.ntmps33
 go_wp2_with fail
 obtain ⟨wb, hwb⟩ : ∃ wq, wq = ((w.alloc (.cells #[.slice A1 n1 c1, .slice A2 n2 c2, .slice A3 n3 c3, .slice A4 n4 c4, .slice A5 n5 c5, .slice A6 n6 c6] 29)).alloc (.cells #[.slice none 0 0, .slice none 0 0, .slice none 0 0, .slice none 0 0, .slice none 0 0, .slice none 0 0, .slice none 0 0] 32)).alloc (.cells #[.func (.func 44) #[] #[], .func (.func 45) #[] #[], .func (.func 46) #[] #[], .func (.func 47) #[] #[], .func (.func 48) #[] #[]] 97) := ⟨_, rfl⟩
 rw [← hwb]
 have hbb : Below w.heap.size w wb := by rw [hwb]; exact (((Below.refl _ _).alloc (Nat.le_refl _) _).alloc (by simp) _).alloc (by simp; omega) _
 have kA : Blk wb w.heap.size 29 #[.slice A1 n1 c1, .slice A2 n2 c2, .slice A3 n3 c3, .slice A4 n4 c4, .slice A5 n5 c5, .slice A6 n6 c6] := by rw [hwb]; exact ((Blk.new _ _ _).alloc _).alloc _
 have kB : Blk wb (w.heap.size + 1) 32 #[.slice none 0 0, .slice none 0 0, .slice none 0 0, .slice none 0 0, .slice none 0 0, .slice none 0 0, .slice none 0 0] := by rw [hwb]; exact (blkNew (by simp)).alloc _
 obtain ⟨ga, hga⟩ : ∃ g, g = w.heap.size := ⟨_, rfl⟩
 obtain ⟨gb, hgb⟩ : ∃ g, g = w.heap.size + 1 := ⟨_, rfl⟩
 rw [← hgb] at kB ⊢
 rw [← hga] at kA ⊢
 have hgbw : w.heap.size ≤ gb := by omega
 have hgab : ga ≠ gb := by omega
 have HBB := Lib.hid hbb
 have HKA := Lib.hid kA
 have HKB := Lib.hid kB
 have la := kA.lt
 have lb := kB.lt
 clear hwb hga hgb hbb kA kB
 go_loopg [12] 5 (fun q i wr => ∃ j : Nat, j ≤ 5 ∧ q = 5 - j ∧ i = .int .i64 j ∧ ((stepsP pv s).take j).all (fun x => decide (x = 0)) = true ∧ Below wb.heap.size wb wr)
 case atStart => exact ⟨0, Nat.zero_le _, rfl, rfl, rfl, Below.refl _ _⟩
 case round =>
  obtain ⟨j, hj, hq, rfl, hv, hb⟩ := hrel
  have HQ := Lib.hid hq
  have HV := Lib.hid hv
  have HBR := Lib.hid hb
  have HB : Hid (Below w.heap.size w wr) := Lib.hid (HBB.out.trans (hb.mono HBB.out.size))
  have kA := HKA.out.below hb la
  have kB := HKB.out.below hb lb
  have a0 := kA.cell 0
  have a1 := kA.cell 1
  have a2 := kA.cell 2
  have a3 := kA.cell 3
  have a4 := kA.cell 4
  have a5 := kA.cell 5
  have b0 := kB.cell 0
  have b1 := kB.cell 1
  have b2 := kB.cell 2
  have b3 := kB.cell 3
  have b4 := kB.cell 4
  have b5 := kB.cell 5
  have b6 := kB.cell 6
  have lar := kA.lt
  have lbr := kB.lt
  simp only [List.getElem?_toArray, List.getElem?_cons_zero, List.getElem?_cons_succ] at a0 a1 a2 a3 a4 a5 b0 b1 b2 b3 b4 b5 b6
  clear kA kB hq hv hb
  by_cases hlt : j < 5
  ·
   obtain h0 | h0 | h0 | h0 | h0 : j = 0 ∨ j = 1 ∨ j = 2 ∨ j = 3 ∨ j = 4 := by omega
   ·
    subst h0
    have hix := HIX.out.1
    obtain ⟨t, ht⟩ : ∃ t, resolvedP s = t := ⟨_, rfl⟩
    have HT : Hid ((stepsP pv s)[0]? = some t) := Lib.hid (by rw [← ht]; rfl)
    have HC : Hid (Calls Tryz.prog 44 #[(.agg #[.slice A1 n1 c1, .slice A2 n2 c2, .slice A3 n3 c3, .slice A4 n4 c4, .slice A5 n5 c5, .slice A6 n6 c6])] wr fun e w' => e = .returned (.int .i64 t) ∧ Below wr.heap.size wr w') := Lib.hid (by
     have := resolved_any A1 A2 A3 A4 A5 A6 n1 c1 n2 c2 n3 c3 n4 c4 n5 c5 n6 c6 s wr (H1.out.mono strR_mono HB.out) (H2.out.mono qUnitR_mono HB.out) (H3.out.mono qSchemaR_mono HB.out) (H4.out.mono qRuleR_mono HB.out) (H5.out.mono qConvertR_mono HB.out) (H6.out.mono qPurposeR_mono HB.out)
     rw [ht] at this
     exact this)
    clear ht
    go_wp2_with (go_at_call 44; refine HC.out.mono ?_; clear HC)
    first | rintro e w1 rfl hb1 | rintro e w1 ⟨rfl, hb1⟩
    have HBR1 := Lib.hid (HBR.out.trans (hb1.mono HBR.out.size))
    have HB1 : Hid (Below w.heap.size w w1) := Lib.hid (HB.out.trans (hb1.mono HB.out.size))
    have kB := HKB.out.below HBR1.out lb
    clear hb1 a0 a1 a2 a3 a4 a5 b0 b1 b2 b3 b4 b5 b6 lbr
    by_cases ht0 : t = 0
    ·
     subst ht0
     clear kB
     go_wp2_with fail
     go_roundg (5 - (0 + 1))
     case measure => have := HQ.out; omega
     case rel => exact ⟨0 + 1, by omega, rfl, by go_num, all_take (p := fun x => decide (x = 0)) HT.out rfl HV.out, HBR1.out⟩
    ·
     have htn : (t != 0) = true := by simpa using ht0
     have hlp := lowerP_at HV.out HT.out ht0
     have b0 := kB.cell 0
     have b1 := kB.cell 1
     have b2 := kB.cell 2
     have b3 := kB.cell 3
     have b4 := kB.cell 4
     have b5 := kB.cell 5
     have b6 := kB.cell 6
     have f0 := kB.frozen 0
     have f1 := kB.frozen 1
     have f2 := kB.frozen 2
     have f3 := kB.frozen 3
     have f4 := kB.frozen 4
     have f5 := kB.frozen 5
     have f6 := kB.frozen 6
     have lbr := kB.lt
     simp only [List.getElem?_toArray, List.getElem?_cons_zero, List.getElem?_cons_succ] at b0 b1 b2 b3 b4 b5 b6
     have kE := (((((((kB.put 0 (.slice none 0 0)).put 1 (.slice none 0 0)).put 2 (.slice none 0 0)).put 3 (.slice none 0 0)).put 4 (.slice none 0 0)).put 5 (.slice none 0 0)).put 6 (.slice none 0 0))
     go_wp2_with fail
     have x0 := kE.cell 0
     have x1 := kE.cell 1
     have x2 := kE.cell 2
     have x3 := kE.cell 3
     have x4 := kE.cell 4
     have x5 := kE.cell 5
     have x6 := kE.cell 6
     simp only [List.setIfInBounds_toArray, List.set_cons_zero, List.set_cons_succ, List.getElem?_toArray, List.getElem?_cons_zero, List.getElem?_cons_succ] at x0 x1 x2 x3 x4 x5 x6
     exact bodyPost_ret (v := .tuple #[.agg #[.slice none 0 0, .slice none 0 0, .slice none 0 0, .slice none 0 0, .slice none 0 0, .slice none 0 0, .slice none 0 0], .int .i64 t]) (by simp [results, Tryz.results33, go_sem, x0, x1, x2, x3, x4, x5, x6]) rfl ⟨.inl ⟨by rw [hlp]; exact ht0, by rw [hlp]⟩, (((((((HB1.out.setCell (p := ⟨gb, 0, none⟩) hgbw (.slice none 0 0)).setCell (p := ⟨gb, 1, none⟩) hgbw (.slice none 0 0)).setCell (p := ⟨gb, 2, none⟩) hgbw (.slice none 0 0)).setCell (p := ⟨gb, 3, none⟩) hgbw (.slice none 0 0)).setCell (p := ⟨gb, 4, none⟩) hgbw (.slice none 0 0)).setCell (p := ⟨gb, 5, none⟩) hgbw (.slice none 0 0)).setCell (p := ⟨gb, 6, none⟩) hgbw (.slice none 0 0))⟩
   ·
    subst h0
    have hix := HIX.out.2.1
    obtain ⟨t, ht⟩ : ∃ t, typesP s = t := ⟨_, rfl⟩
    have HT : Hid ((stepsP pv s)[1]? = some t) := Lib.hid (by rw [← ht]; rfl)
    have HC : Hid (Calls Tryz.prog 45 #[(.agg #[.slice A1 n1 c1, .slice A2 n2 c2, .slice A3 n3 c3, .slice A4 n4 c4, .slice A5 n5 c5, .slice A6 n6 c6])] wr fun e w' => e = .returned (.int .i64 t) ∧ Below wr.heap.size wr w') := Lib.hid (by
     have := typesCheck_of A1 A2 A3 A4 A5 A6 n1 c1 n2 c2 n3 c3 n4 c4 n5 c5 n6 c6 s wr (H1.out.mono strR_mono HB.out).1 (H2.out.mono qUnitR_mono HB.out).1 (H3.out.mono qSchemaR_mono HB.out).1 (H4.out.mono qRuleR_mono HB.out).1 H5.out.1.len (H6.out.mono qPurposeR_mono HB.out).1 (HSUB.out.below HB.out).rules (HSUB.out.below HB.out).purps
     rw [ht] at this
     exact this)
    clear ht
    go_wp2_with (go_at_call 45; refine HC.out.mono ?_; clear HC)
    first | rintro e w1 rfl hb1 | rintro e w1 ⟨rfl, hb1⟩
    have HBR1 := Lib.hid (HBR.out.trans (hb1.mono HBR.out.size))
    have HB1 : Hid (Below w.heap.size w w1) := Lib.hid (HB.out.trans (hb1.mono HB.out.size))
    have kB := HKB.out.below HBR1.out lb
    clear hb1 a0 a1 a2 a3 a4 a5 b0 b1 b2 b3 b4 b5 b6 lbr
    by_cases ht0 : t = 0
    ·
     subst ht0
     clear kB
     go_wp2_with fail
     go_roundg (5 - (1 + 1))
     case measure => have := HQ.out; omega
     case rel => exact ⟨1 + 1, by omega, rfl, by go_num, all_take (p := fun x => decide (x = 0)) HT.out rfl HV.out, HBR1.out⟩
    ·
     have htn : (t != 0) = true := by simpa using ht0
     have hlp := lowerP_at HV.out HT.out ht0
     have b0 := kB.cell 0
     have b1 := kB.cell 1
     have b2 := kB.cell 2
     have b3 := kB.cell 3
     have b4 := kB.cell 4
     have b5 := kB.cell 5
     have b6 := kB.cell 6
     have f0 := kB.frozen 0
     have f1 := kB.frozen 1
     have f2 := kB.frozen 2
     have f3 := kB.frozen 3
     have f4 := kB.frozen 4
     have f5 := kB.frozen 5
     have f6 := kB.frozen 6
     have lbr := kB.lt
     simp only [List.getElem?_toArray, List.getElem?_cons_zero, List.getElem?_cons_succ] at b0 b1 b2 b3 b4 b5 b6
     have kE := (((((((kB.put 0 (.slice none 0 0)).put 1 (.slice none 0 0)).put 2 (.slice none 0 0)).put 3 (.slice none 0 0)).put 4 (.slice none 0 0)).put 5 (.slice none 0 0)).put 6 (.slice none 0 0))
     go_wp2_with fail
     have x0 := kE.cell 0
     have x1 := kE.cell 1
     have x2 := kE.cell 2
     have x3 := kE.cell 3
     have x4 := kE.cell 4
     have x5 := kE.cell 5
     have x6 := kE.cell 6
     simp only [List.setIfInBounds_toArray, List.set_cons_zero, List.set_cons_succ, List.getElem?_toArray, List.getElem?_cons_zero, List.getElem?_cons_succ] at x0 x1 x2 x3 x4 x5 x6
     exact bodyPost_ret (v := .tuple #[.agg #[.slice none 0 0, .slice none 0 0, .slice none 0 0, .slice none 0 0, .slice none 0 0, .slice none 0 0, .slice none 0 0], .int .i64 t]) (by simp [results, Tryz.results33, go_sem, x0, x1, x2, x3, x4, x5, x6]) rfl ⟨.inl ⟨by rw [hlp]; exact ht0, by rw [hlp]⟩, (((((((HB1.out.setCell (p := ⟨gb, 0, none⟩) hgbw (.slice none 0 0)).setCell (p := ⟨gb, 1, none⟩) hgbw (.slice none 0 0)).setCell (p := ⟨gb, 2, none⟩) hgbw (.slice none 0 0)).setCell (p := ⟨gb, 3, none⟩) hgbw (.slice none 0 0)).setCell (p := ⟨gb, 4, none⟩) hgbw (.slice none 0 0)).setCell (p := ⟨gb, 5, none⟩) hgbw (.slice none 0 0)).setCell (p := ⟨gb, 6, none⟩) hgbw (.slice none 0 0))⟩
   ·
    subst h0
    have hix := HIX.out.2.2.1
    obtain ⟨t, ht⟩ : ∃ t, determinedP s = t := ⟨_, rfl⟩
    have HT : Hid ((stepsP pv s)[2]? = some t) := Lib.hid (by rw [← ht]; rfl)
    have HC : Hid (Calls Tryz.prog 46 #[(.agg #[.slice A1 n1 c1, .slice A2 n2 c2, .slice A3 n3 c3, .slice A4 n4 c4, .slice A5 n5 c5, .slice A6 n6 c6])] wr fun e w' => e = .returned (.int .i64 t) ∧ Below wr.heap.size wr w') := Lib.hid (by
     have := determined_any A1 A2 A3 A4 A5 A6 n1 c1 n2 c2 n3 c3 n4 c4 n5 c5 n6 c6 s wr (H3.out.mono qSchemaR_mono HB.out) HI.out
     rw [ht] at this
     exact this)
    clear ht
    go_wp2_with (go_at_call 46; refine HC.out.mono ?_; clear HC)
    first | rintro e w1 rfl hb1 | rintro e w1 ⟨rfl, hb1⟩
    have HBR1 := Lib.hid (HBR.out.trans (hb1.mono HBR.out.size))
    have HB1 : Hid (Below w.heap.size w w1) := Lib.hid (HB.out.trans (hb1.mono HB.out.size))
    have kB := HKB.out.below HBR1.out lb
    clear hb1 a0 a1 a2 a3 a4 a5 b0 b1 b2 b3 b4 b5 b6 lbr
    by_cases ht0 : t = 0
    ·
     subst ht0
     clear kB
     go_wp2_with fail
     go_roundg (5 - (2 + 1))
     case measure => have := HQ.out; omega
     case rel => exact ⟨2 + 1, by omega, rfl, by go_num, all_take (p := fun x => decide (x = 0)) HT.out rfl HV.out, HBR1.out⟩
    ·
     have htn : (t != 0) = true := by simpa using ht0
     have hlp := lowerP_at HV.out HT.out ht0
     have b0 := kB.cell 0
     have b1 := kB.cell 1
     have b2 := kB.cell 2
     have b3 := kB.cell 3
     have b4 := kB.cell 4
     have b5 := kB.cell 5
     have b6 := kB.cell 6
     have f0 := kB.frozen 0
     have f1 := kB.frozen 1
     have f2 := kB.frozen 2
     have f3 := kB.frozen 3
     have f4 := kB.frozen 4
     have f5 := kB.frozen 5
     have f6 := kB.frozen 6
     have lbr := kB.lt
     simp only [List.getElem?_toArray, List.getElem?_cons_zero, List.getElem?_cons_succ] at b0 b1 b2 b3 b4 b5 b6
     have kE := (((((((kB.put 0 (.slice none 0 0)).put 1 (.slice none 0 0)).put 2 (.slice none 0 0)).put 3 (.slice none 0 0)).put 4 (.slice none 0 0)).put 5 (.slice none 0 0)).put 6 (.slice none 0 0))
     go_wp2_with fail
     have x0 := kE.cell 0
     have x1 := kE.cell 1
     have x2 := kE.cell 2
     have x3 := kE.cell 3
     have x4 := kE.cell 4
     have x5 := kE.cell 5
     have x6 := kE.cell 6
     simp only [List.setIfInBounds_toArray, List.set_cons_zero, List.set_cons_succ, List.getElem?_toArray, List.getElem?_cons_zero, List.getElem?_cons_succ] at x0 x1 x2 x3 x4 x5 x6
     exact bodyPost_ret (v := .tuple #[.agg #[.slice none 0 0, .slice none 0 0, .slice none 0 0, .slice none 0 0, .slice none 0 0, .slice none 0 0, .slice none 0 0], .int .i64 t]) (by simp [results, Tryz.results33, go_sem, x0, x1, x2, x3, x4, x5, x6]) rfl ⟨.inl ⟨by rw [hlp]; exact ht0, by rw [hlp]⟩, (((((((HB1.out.setCell (p := ⟨gb, 0, none⟩) hgbw (.slice none 0 0)).setCell (p := ⟨gb, 1, none⟩) hgbw (.slice none 0 0)).setCell (p := ⟨gb, 2, none⟩) hgbw (.slice none 0 0)).setCell (p := ⟨gb, 3, none⟩) hgbw (.slice none 0 0)).setCell (p := ⟨gb, 4, none⟩) hgbw (.slice none 0 0)).setCell (p := ⟨gb, 5, none⟩) hgbw (.slice none 0 0)).setCell (p := ⟨gb, 6, none⟩) hgbw (.slice none 0 0))⟩
   ·
    subst h0
    have hix := HIX.out.2.2.2.1
    obtain ⟨t, ht⟩ : ∃ t, orderedP s = t := ⟨_, rfl⟩
    have HT : Hid ((stepsP pv s)[3]? = some t) := Lib.hid (by rw [← ht]; rfl)
    have HC : Hid (Calls Tryz.prog 47 #[(.agg #[.slice A1 n1 c1, .slice A2 n2 c2, .slice A3 n3 c3, .slice A4 n4 c4, .slice A5 n5 c5, .slice A6 n6 c6])] wr fun e w' => e = .returned (.int .i64 t) ∧ Below wr.heap.size wr w') := Lib.hid (by
     have := ordered_any A1 A2 A3 A4 A5 A6 n1 c1 n2 c2 n3 c3 n4 c4 n5 c5 n6 c6 s pv wr (H1.out.mono strR_mono HB.out) (H2.out.mono qUnitR_mono HB.out) (H3.out.mono qSchemaR_mono HB.out) (H4.out.mono qRuleR_mono HB.out) (H5.out.mono qConvertR_mono HB.out) (H6.out.mono qPurposeR_mono HB.out) (HSUB.out.below HB.out)
     rw [ht] at this
     exact this)
    clear ht
    go_wp2_with (go_at_call 47; refine HC.out.mono ?_; clear HC)
    first | rintro e w1 rfl hb1 | rintro e w1 ⟨rfl, hb1⟩
    have HBR1 := Lib.hid (HBR.out.trans (hb1.mono HBR.out.size))
    have HB1 : Hid (Below w.heap.size w w1) := Lib.hid (HB.out.trans (hb1.mono HB.out.size))
    have kB := HKB.out.below HBR1.out lb
    clear hb1 a0 a1 a2 a3 a4 a5 b0 b1 b2 b3 b4 b5 b6 lbr
    by_cases ht0 : t = 0
    ·
     subst ht0
     clear kB
     go_wp2_with fail
     go_roundg (5 - (3 + 1))
     case measure => have := HQ.out; omega
     case rel => exact ⟨3 + 1, by omega, rfl, by go_num, all_take (p := fun x => decide (x = 0)) HT.out rfl HV.out, HBR1.out⟩
    ·
     have htn : (t != 0) = true := by simpa using ht0
     have hlp := lowerP_at HV.out HT.out ht0
     have b0 := kB.cell 0
     have b1 := kB.cell 1
     have b2 := kB.cell 2
     have b3 := kB.cell 3
     have b4 := kB.cell 4
     have b5 := kB.cell 5
     have b6 := kB.cell 6
     have f0 := kB.frozen 0
     have f1 := kB.frozen 1
     have f2 := kB.frozen 2
     have f3 := kB.frozen 3
     have f4 := kB.frozen 4
     have f5 := kB.frozen 5
     have f6 := kB.frozen 6
     have lbr := kB.lt
     simp only [List.getElem?_toArray, List.getElem?_cons_zero, List.getElem?_cons_succ] at b0 b1 b2 b3 b4 b5 b6
     have kE := (((((((kB.put 0 (.slice none 0 0)).put 1 (.slice none 0 0)).put 2 (.slice none 0 0)).put 3 (.slice none 0 0)).put 4 (.slice none 0 0)).put 5 (.slice none 0 0)).put 6 (.slice none 0 0))
     go_wp2_with fail
     have x0 := kE.cell 0
     have x1 := kE.cell 1
     have x2 := kE.cell 2
     have x3 := kE.cell 3
     have x4 := kE.cell 4
     have x5 := kE.cell 5
     have x6 := kE.cell 6
     simp only [List.setIfInBounds_toArray, List.set_cons_zero, List.set_cons_succ, List.getElem?_toArray, List.getElem?_cons_zero, List.getElem?_cons_succ] at x0 x1 x2 x3 x4 x5 x6
     exact bodyPost_ret (v := .tuple #[.agg #[.slice none 0 0, .slice none 0 0, .slice none 0 0, .slice none 0 0, .slice none 0 0, .slice none 0 0, .slice none 0 0], .int .i64 t]) (by simp [results, Tryz.results33, go_sem, x0, x1, x2, x3, x4, x5, x6]) rfl ⟨.inl ⟨by rw [hlp]; exact ht0, by rw [hlp]⟩, (((((((HB1.out.setCell (p := ⟨gb, 0, none⟩) hgbw (.slice none 0 0)).setCell (p := ⟨gb, 1, none⟩) hgbw (.slice none 0 0)).setCell (p := ⟨gb, 2, none⟩) hgbw (.slice none 0 0)).setCell (p := ⟨gb, 3, none⟩) hgbw (.slice none 0 0)).setCell (p := ⟨gb, 4, none⟩) hgbw (.slice none 0 0)).setCell (p := ⟨gb, 5, none⟩) hgbw (.slice none 0 0)).setCell (p := ⟨gb, 6, none⟩) hgbw (.slice none 0 0))⟩
   ·
    subst h0
    have hix := HIX.out.2.2.2.2
    obtain ⟨t, ht⟩ : ∃ t, versionsP pv s = t := ⟨_, rfl⟩
    have HT : Hid ((stepsP pv s)[4]? = some t) := Lib.hid (by rw [← ht]; rfl)
    have HC : Hid (Calls Tryz.prog 48 #[(.agg #[.slice A1 n1 c1, .slice A2 n2 c2, .slice A3 n3 c3, .slice A4 n4 c4, .slice A5 n5 c5, .slice A6 n6 c6])] wr fun e w' => e = .returned (.int .i64 t) ∧ Below wr.heap.size wr w') := Lib.hid (by
     have := versionsCheck_of A1 A2 A3 A4 A5 A6 n1 c1 n2 c2 n3 c3 n4 c4 n5 c5 n6 c6 s pv wr (H5.out.mono qConvertR_mono HB.out) (HSUB.out.below HB.out).vers
     rw [ht] at this
     exact this)
    clear ht
    go_wp2_with (go_at_call 48; refine HC.out.mono ?_; clear HC)
    first | rintro e w1 rfl hb1 | rintro e w1 ⟨rfl, hb1⟩
    have HBR1 := Lib.hid (HBR.out.trans (hb1.mono HBR.out.size))
    have HB1 : Hid (Below w.heap.size w w1) := Lib.hid (HB.out.trans (hb1.mono HB.out.size))
    have kB := HKB.out.below HBR1.out lb
    clear hb1 a0 a1 a2 a3 a4 a5 b0 b1 b2 b3 b4 b5 b6 lbr
    by_cases ht0 : t = 0
    ·
     subst ht0
     clear kB
     go_wp2_with fail
     go_roundg (5 - (4 + 1))
     case measure => have := HQ.out; omega
     case rel => exact ⟨4 + 1, by omega, rfl, by go_num, all_take (p := fun x => decide (x = 0)) HT.out rfl HV.out, HBR1.out⟩
    ·
     have htn : (t != 0) = true := by simpa using ht0
     have hlp := lowerP_at HV.out HT.out ht0
     have b0 := kB.cell 0
     have b1 := kB.cell 1
     have b2 := kB.cell 2
     have b3 := kB.cell 3
     have b4 := kB.cell 4
     have b5 := kB.cell 5
     have b6 := kB.cell 6
     have f0 := kB.frozen 0
     have f1 := kB.frozen 1
     have f2 := kB.frozen 2
     have f3 := kB.frozen 3
     have f4 := kB.frozen 4
     have f5 := kB.frozen 5
     have f6 := kB.frozen 6
     have lbr := kB.lt
     simp only [List.getElem?_toArray, List.getElem?_cons_zero, List.getElem?_cons_succ] at b0 b1 b2 b3 b4 b5 b6
     have kE := (((((((kB.put 0 (.slice none 0 0)).put 1 (.slice none 0 0)).put 2 (.slice none 0 0)).put 3 (.slice none 0 0)).put 4 (.slice none 0 0)).put 5 (.slice none 0 0)).put 6 (.slice none 0 0))
     go_wp2_with fail
     have x0 := kE.cell 0
     have x1 := kE.cell 1
     have x2 := kE.cell 2
     have x3 := kE.cell 3
     have x4 := kE.cell 4
     have x5 := kE.cell 5
     have x6 := kE.cell 6
     simp only [List.setIfInBounds_toArray, List.set_cons_zero, List.set_cons_succ, List.getElem?_toArray, List.getElem?_cons_zero, List.getElem?_cons_succ] at x0 x1 x2 x3 x4 x5 x6
     exact bodyPost_ret (v := .tuple #[.agg #[.slice none 0 0, .slice none 0 0, .slice none 0 0, .slice none 0 0, .slice none 0 0, .slice none 0 0, .slice none 0 0], .int .i64 t]) (by simp [results, Tryz.results33, go_sem, x0, x1, x2, x3, x4, x5, x6]) rfl ⟨.inl ⟨by rw [hlp]; exact ht0, by rw [hlp]⟩, (((((((HB1.out.setCell (p := ⟨gb, 0, none⟩) hgbw (.slice none 0 0)).setCell (p := ⟨gb, 1, none⟩) hgbw (.slice none 0 0)).setCell (p := ⟨gb, 2, none⟩) hgbw (.slice none 0 0)).setCell (p := ⟨gb, 3, none⟩) hgbw (.slice none 0 0)).setCell (p := ⟨gb, 4, none⟩) hgbw (.slice none 0 0)).setCell (p := ⟨gb, 5, none⟩) hgbw (.slice none 0 0)).setCell (p := ⟨gb, 6, none⟩) hgbw (.slice none 0 0))⟩
  ·
   obtain rfl : j = 5 := by omega
   have HALL : Hid ((stepsP pv s).all (fun x => decide (x = 0)) = true) := Lib.hid HV.out
   have HZ : Hid (typesP s = 0 ∧ orderedP s = 0) := Lib.hid (by
    have := List.all_eq_true.1 HALL.out
    exact ⟨by simpa using this (typesP s) (by simp [stepsP]), by simpa using this (orderedP s) (by simp [stepsP])⟩)
   have HN3 := Lib.hid H3.out.1.len
   have HNUM : Hid (n3 ≤ 1000 ∧ ∀ r ∈ s.rules, (0 ≤ r.schema ∧ r.schema < n3) ∧ ∀ f ∈ r.froms, 0 ≤ f.schema ∧ f.schema < n3) := Lib.hid (by
    obtain ⟨h1, h2, h3, h4, h5⟩ := typesP_zero HZ.out.1
    refine ⟨by have := limited_schemas h1; have := HN3.out; omega, fun r hr => ?_⟩
    rw [HN3.out]
    exact ruleOK_num (List.all_eq_true.1 h4 r hr))
   have HOK : Hid (decide (n3 ≤ (orderL s.rules n3).length) = true) := Lib.hid (by
    have := HZ.out.2
    unfold orderedP at this
    rw [← HN3.out] at this
    split at this
    ·
     split at this
     · next h => simp only [Bool.and_eq_true] at h; exact h.1
     · cases this
    · next h => exact absurd this h)
   go_wp2_with (go_at_call 49; refine (order_any A1 A2 A3 A4 A5 A6 n1 c1 n2 c2 n3 c3 n4 c4 n5 c5 n6 c6 s.rules wr (H4.out.1.mono qRuleR_mono HB.out) HNUM.out.1 HNUM.out.2).mono ?_)
   first | rintro e w2 v ok rfl hok hv hb2 | rintro e w2 ⟨v, ok, rfl, hok, hv, hb2⟩
   rw [HOK.out] at hok
   subst hok
   simp only [if_true] at hv
   obtain ⟨C, d, rfl⟩ := (slI_of_own hv).form
   have HV2 := Lib.hid hv
   have lgw : gb < wr.heap.size := (HKB.out.below HBR.out lb).lt
   have HB2 : Hid (Below w.heap.size w w2) := Lib.hid (HB.out.trans (hb2.mono HB.out.size))
   have HBR2 := Lib.hid (HBR.out.trans (hb2.mono HBR.out.size))
   have kA := HKA.out.below HBR2.out la
   have kB := HKB.out.below HBR2.out lb
   clear hv hb2 a0 a1 a2 a3 a4 a5 b0 b1 b2 b3 b4 b5 b6 lar lbr
   have a0 := kA.cell 0
   have a1 := kA.cell 1
   have a2 := kA.cell 2
   have a3 := kA.cell 3
   have a4 := kA.cell 4
   have a5 := kA.cell 5
   have b0 := kB.cell 0
   have b1 := kB.cell 1
   have b2 := kB.cell 2
   have b3 := kB.cell 3
   have b4 := kB.cell 4
   have b5 := kB.cell 5
   have b6 := kB.cell 6
   have f0 := kB.frozen 0
   have f1 := kB.frozen 1
   have f2 := kB.frozen 2
   have f3 := kB.frozen 3
   have f4 := kB.frozen 4
   have f5 := kB.frozen 5
   have f6 := kB.frozen 6
   have lbr := kB.lt
   have lar := kA.lt
   simp only [List.getElem?_toArray, List.getElem?_cons_zero, List.getElem?_cons_succ] at a0 a1 a2 a3 a4 a5 b0 b1 b2 b3 b4 b5 b6
   have kE := (((((((kB.put 0 (.slice A1 n1 c1)).put 1 (.slice A2 n2 c2)).put 2 (.slice A3 n3 c3)).put 3 (.slice A4 n4 c4)).put 4 (.slice A5 n5 c5)).put 5 (.slice A6 n6 c6)).put 6 (.slice C (orderL s.rules n3).length d))
   have HKE := Lib.hid kE
   clear kA kB kE
   go_wp2_with fail
   have x0 := HKE.out.cell 0
   have x1 := HKE.out.cell 1
   have x2 := HKE.out.cell 2
   have x3 := HKE.out.cell 3
   have x4 := HKE.out.cell 4
   have x5 := HKE.out.cell 5
   have x6 := HKE.out.cell 6
   simp only [List.setIfInBounds_toArray, List.set_cons_zero, List.set_cons_succ, List.getElem?_toArray, List.getElem?_cons_zero, List.getElem?_cons_succ] at x0 x1 x2 x3 x4 x5 x6
   have hso : SlR 1 iR (((((((w2.setCell ⟨gb, 0, none⟩ (.slice A1 n1 c1)).setCell ⟨gb, 1, none⟩ (.slice A2 n2 c2)).setCell ⟨gb, 2, none⟩ (.slice A3 n3 c3)).setCell ⟨gb, 3, none⟩ (.slice A4 n4 c4)).setCell ⟨gb, 4, none⟩ (.slice A5 n5 c5)).setCell ⟨gb, 5, none⟩ (.slice A6 n6 c6)).setCell ⟨gb, 6, none⟩ (.slice C (orderL s.rules n3).length d)) (.slice C (orderL s.rules n3).length d) (orderL s.rules n3) := slI_of_own ((ownsRow_setCell_below (ownsRow_setCell_below (ownsRow_setCell_below (ownsRow_setCell_below (ownsRow_setCell_below (ownsRow_setCell_below (ownsRow_setCell_below HV2.out lgw _) lgw _) lgw _) lgw _) lgw _) lgw _) lgw _))
   refine bodyPost_ret (v := .tuple #[.agg #[.slice A1 n1 c1, .slice A2 n2 c2, .slice A3 n3 c3, .slice A4 n4 c4, .slice A5 n5 c5, .slice A6 n6 c6, .slice C (orderL s.rules n3).length d], .int .i64 0]) (by simp [results, Tryz.results33, go_sem, x0, x1, x2, x3, x4, x5, x6]) rfl ⟨.inr ⟨lowerP_zero HALL.out, C, d, by rw [← HN3.out], by rw [← HN3.out]; exact hso⟩, (((((((HB2.out.setCell (p := ⟨gb, 0, none⟩) hgbw (.slice A1 n1 c1)).setCell (p := ⟨gb, 1, none⟩) hgbw (.slice A2 n2 c2)).setCell (p := ⟨gb, 2, none⟩) hgbw (.slice A3 n3 c3)).setCell (p := ⟨gb, 3, none⟩) hgbw (.slice A4 n4 c4)).setCell (p := ⟨gb, 4, none⟩) hgbw (.slice A5 n5 c5)).setCell (p := ⟨gb, 5, none⟩) hgbw (.slice A6 n6 c6)).setCell (p := ⟨gb, 6, none⟩) hgbw (.slice C (orderL s.rules n3).length d))⟩
set_option maxHeartbeats 8000000 in
set_option maxRecDepth 100000 in
theorem sameTables_any (A1 A2 A3 A4 A5 A6 : Option Addr) (n1 c1 n2 c2 n3 c3 n4 c4 n5 c5 n6 c6 : Nat) (A7 B7 : Option Addr) (n7 c7 m7 d7 : Nat) (s : QSource) (l r : List Int) (w : World) (h1 : SlB 1 16 strR w (.slice A1 n1 c1) s.issuers) (h2 : SlB 5 56 qUnitR w (.slice A2 n2 c2) s.units) (h3 : SlB 6 96 qSchemaR w (.slice A3 n3 c3) s.schemas) (h4 : SlB 5 96 qRuleR w (.slice A4 n4 c4) s.rules) (h5 : SlB 5 72 qConvertR w (.slice A5 n5 c5) s.converts) (h6 : SlB 3 48 qPurposeR w (.slice A6 n6 c6) s.purposes) (h7 : SlR 1 iR w (.slice A7 n7 c7) l) (k7 : SlR 1 iR w (.slice B7 m7 d7) r) :
 Calls Tryz.prog 34 #[.agg #[.slice A1 n1 c1, .slice A2 n2 c2, .slice A3 n3 c3, .slice A4 n4 c4, .slice A5 n5 c5, .slice A6 n6 c6, .slice A7 n7 c7], .agg #[.slice A1 n1 c1, .slice A2 n2 c2, .slice A3 n3 c3, .slice A4 n4 c4, .slice A5 n5 c5, .slice A6 n6 c6, .slice B7 m7 d7]] w fun e w' => e = .returned (.bool (sameL l r)) ∧ Below w.heap.size w w' := by
 have H1 := Lib.hid h1
 have H2 := Lib.hid h2
 have H3 := Lib.hid h3
 have H4 := Lib.hid h4
 have H5 := Lib.hid h5
 have H6 := Lib.hid h6
 clear h1 h2 h3 h4 h5 h6
 have H7 := Lib.hid h7
 have K7 := Lib.hid k7
 clear h7 k7
 go_enter Tryz.func34, Tryz.ntmps34
 go_upto_region 1 with fail
 obtain ⟨wb, hwb⟩ : ∃ wq, wq = (w.alloc (.cells #[.slice A1 n1 c1, .slice A2 n2 c2, .slice A3 n3 c3, .slice A4 n4 c4, .slice A5 n5 c5, .slice A6 n6 c6, .slice A7 n7 c7] 32)).alloc (.cells #[.slice A1 n1 c1, .slice A2 n2 c2, .slice A3 n3 c3, .slice A4 n4 c4, .slice A5 n5 c5, .slice A6 n6 c6, .slice B7 m7 d7] 32) := ⟨_, rfl⟩
 rw [← hwb]
 have hbb : Below w.heap.size w wb := by rw [hwb]; exact (((Below.refl _ _).alloc (Nat.le_refl _) _).alloc (by simp) _)
 have kA : Blk wb w.heap.size 32 #[.slice A1 n1 c1, .slice A2 n2 c2, .slice A3 n3 c3, .slice A4 n4 c4, .slice A5 n5 c5, .slice A6 n6 c6, .slice A7 n7 c7] := by rw [hwb]; exact (Blk.new _ _ _).alloc _
 have kB : Blk wb (w.heap.size + 1) 32 #[.slice A1 n1 c1, .slice A2 n2 c2, .slice A3 n3 c3, .slice A4 n4 c4, .slice A5 n5 c5, .slice A6 n6 c6, .slice B7 m7 d7] := by rw [hwb]; exact blkNew (by simp)
 obtain ⟨ga, hga⟩ : ∃ g, g = w.heap.size := ⟨_, rfl⟩
 obtain ⟨gb, hgb⟩ : ∃ g, g = w.heap.size + 1 := ⟨_, rfl⟩
 rw [← hgb] at kB ⊢
 rw [← hga] at kA ⊢
 have HGA : Hid (ga = w.heap.size) := Lib.hid hga
 clear hwb hga hgb
 have a0 := kA.cell 0
 have b0 := kB.cell 0
 have a1 := kA.cell 1
 have b1 := kB.cell 1
 have a2 := kA.cell 2
 have b2 := kB.cell 2
 have a3 := kA.cell 3
 have b3 := kB.cell 3
 have a4 := kA.cell 4
 have b4 := kB.cell 4
 have a5 := kA.cell 5
 have b5 := kB.cell 5
 have la := kA.lt
 have lb := kB.lt
 simp only [List.getElem?_toArray, List.getElem?_cons_zero, List.getElem?_cons_succ] at a0 a1 a2 a3 a4 a5 b0 b1 b2 b3 b4 b5
 have HA := Lib.hid kA
 have HB := Lib.hid kB
 have HBB := Lib.hid hbb
 clear kA kB hbb
 have HC : Hid (Calls Tryz.prog 50 #[(.agg #[.slice A1 n1 c1, .slice A2 n2 c2, .slice A3 n3 c3, .slice A4 n4 c4, .slice A5 n5 c5, .slice A6 n6 c6]), (.agg #[.slice A1 n1 c1, .slice A2 n2 c2, .slice A3 n3 c3, .slice A4 n4 c4, .slice A5 n5 c5, .slice A6 n6 c6])] wb fun e w' => e = .returned (.bool true) ∧ Below wb.heap.size wb w') := Lib.hid (by
  have := sameSource_any A1 A1 A2 A2 A3 A3 A4 A4 A5 A5 A6 A6 n1 c1 n1 c1 n2 c2 n2 c2 n3 c3 n3 c3 n4 c4 n4 c4 n5 c5 n5 c5 n6 c6 n6 c6 s s wb
   (H1.out.1.mono strR_mono HBB.out) (H1.out.1.mono strR_mono HBB.out) (H2.out.1.mono qUnitR_mono HBB.out) (H2.out.1.mono qUnitR_mono HBB.out) (H3.out.1.mono qSchemaR_mono HBB.out) (H3.out.1.mono qSchemaR_mono HBB.out)
   (H4.out.1.mono qRuleR_mono HBB.out) (H4.out.1.mono qRuleR_mono HBB.out) (H5.out.1.mono qConvertR_mono HBB.out) (H5.out.1.mono qConvertR_mono HBB.out) (H6.out.1.mono qPurposeR_mono HBB.out) (H6.out.1.mono qPurposeR_mono HBB.out)
  rw [decide_eq_true rfl] at this
  exact this)
 go_wp2_with (go_at_call 50; refine HC.out.mono ?_; clear HC)
 first | rintro e w1 rfl hb1 | rintro e w1 ⟨rfl, hb1⟩
 have HB1 : Hid (Below w.heap.size w w1) := Lib.hid (HBB.out.trans (hb1.mono HBB.out.size))
 have a6 := (HA.out.below hb1 la).cell 6
 have b6 := (HB.out.below hb1 lb).cell 6
 simp only [List.getElem?_toArray, List.getElem?_cons_zero, List.getElem?_cons_succ] at a6 b6
 clear hb1 a0 a1 a2 a3 a4 a5 b0 b1 b2 b3 b4 b5
 go_wp2_with (go_at_call 51; refine (equalInt_any A7 B7 n7 c7 m7 d7 l r w1 (H7.out.mono iR_mono HB1.out) (K7.out.mono iR_mono HB1.out)).mono ?_)
 first | rintro e w2 rfl hb2 | rintro e w2 ⟨rfl, hb2⟩
 have HB2 : Hid (Below w.heap.size w w2) := Lib.hid (HB1.out.trans (hb2.mono HB1.out.size))
 clear hb2
 go_wp2_with fail
 go_ret
 exact ⟨rfl, HB2.out⟩
def checkP (pv : QConvert → Bool) (s : QSource) (l : List Int) : Int := if lowerP pv s = 0 ∧ orderL s.rules s.schemas.length = l then 0 else 160
set_option maxHeartbeats 8000000 in
set_option maxRecDepth 100000 in
theorem schemasCheck_any (A1 A2 A3 A4 A5 A6 : Option Addr) (n1 c1 n2 c2 n3 c3 n4 c4 n5 c5 n6 c6 : Nat) (A7 : Option Addr) (n7 c7 : Nat) (s : QSource) (l : List Int) (pv : QConvert → Bool) (w : World) (h1 : SlB 1 16 strR w (.slice A1 n1 c1) s.issuers) (h2 : SlB 5 56 qUnitR w (.slice A2 n2 c2) s.units) (h3 : SlB 6 96 qSchemaR w (.slice A3 n3 c3) s.schemas) (h4 : SlB 5 96 qRuleR w (.slice A4 n4 c4) s.rules) (h5 : SlB 5 72 qConvertR w (.slice A5 n5 c5) s.converts) (h6 : SlB 3 48 qPurposeR w (.slice A6 n6 c6) s.purposes) (h7 : SlR 1 iR w (.slice A7 n7 c7) l) (hsub : Subs A1 A2 A3 A4 A5 A6 n1 c1 n2 c2 n3 c3 n4 c4 n5 c5 n6 c6 s pv w) (hI : ∀ x ∈ s.schemas, ∀ d ∈ x.deps, depI64 d) :
 Calls Tryz.prog 23 #[.agg #[.slice A1 n1 c1, .slice A2 n2 c2, .slice A3 n3 c3, .slice A4 n4 c4, .slice A5 n5 c5, .slice A6 n6 c6, .slice A7 n7 c7]] w fun e w' => e = .returned (.int .i64 (checkP pv s l)) ∧ Below w.heap.size w w' := by
 have hb0 : Below w.heap.size w (w.alloc (.cells #[.slice A1 n1 c1, .slice A2 n2 c2, .slice A3 n3 c3, .slice A4 n4 c4, .slice A5 n5 c5, .slice A6 n6 c6, .slice A7 n7 c7] 32)) := ((Below.refl _ _).alloc (Nat.le_refl _) _)
 have HC : Hid (Calls Tryz.prog 33 #[(.agg #[.slice A1 n1 c1, .slice A2 n2 c2, .slice A3 n3 c3, .slice A4 n4 c4, .slice A5 n5 c5, .slice A6 n6 c6])] (w.alloc (.cells #[.slice A1 n1 c1, .slice A2 n2 c2, .slice A3 n3 c3, .slice A4 n4 c4, .slice A5 n5 c5, .slice A6 n6 c6, .slice A7 n7 c7] 32)) (RetLower A1 A2 A3 A4 A5 A6 n1 c1 n2 c2 n3 c3 n4 c4 n5 c5 n6 c6 pv s (w.alloc (.cells #[.slice A1 n1 c1, .slice A2 n2 c2, .slice A3 n3 c3, .slice A4 n4 c4, .slice A5 n5 c5, .slice A6 n6 c6, .slice A7 n7 c7] 32)))) := Lib.hid (lower_any A1 A2 A3 A4 A5 A6 n1 c1 n2 c2 n3 c3 n4 c4 n5 c5 n6 c6 s pv _ (h1.mono strR_mono hb0) (h2.mono qUnitR_mono hb0) (h3.mono qSchemaR_mono hb0) (h4.mono qRuleR_mono hb0) (h5.mono qConvertR_mono hb0) (h6.mono qPurposeR_mono hb0) (hsub.below hb0) hI)
 have HB0 := Lib.hid hb0
 have H1 := Lib.hid h1
 have H2 := Lib.hid h2
 have H3 := Lib.hid h3
 have H4 := Lib.hid h4
 have H5 := Lib.hid h5
 have H6 := Lib.hid h6
 clear h1 h2 h3 h4 h5 h6
 have H7 := Lib.hid h7
 clear hb0 h7 hsub hI
 go_enter Tryz.func23, Tryz.ntmps23
 go_wp2_with (go_at_call 33; refine HC.out.mono ?_)
 rintro e w1 ⟨hor, hb1⟩
 have HB1 : Hid (Below w.heap.size w w1) := Lib.hid (HB0.out.trans (hb1.mono HB0.out.size))
 have kb := (Blk.new w 32 #[.slice A1 n1 c1, .slice A2 n2 c2, .slice A3 n3 c3, .slice A4 n4 c4, .slice A5 n5 c5, .slice A6 n6 c6, .slice A7 n7 c7]).below hb1 (by simp)
 have q0 := kb.cell 0
 have q1 := kb.cell 1
 have q2 := kb.cell 2
 have q3 := kb.cell 3
 have q4 := kb.cell 4
 have q5 := kb.cell 5
 have q6 := kb.cell 6
 have lq := kb.lt
 simp only [List.getElem?_toArray, List.getElem?_cons_zero, List.getElem?_cons_succ] at q0 q1 q2 q3 q4 q5 q6
 clear hb1 kb HC
 rcases hor with ⟨hne, rfl⟩ | ⟨hz, C, d, rfl, ho⟩
 ·
  obtain ⟨t, ht⟩ : ∃ t, lowerP pv s = t := ⟨_, rfl⟩
  have HP : Hid (checkP pv s l = 160) := Lib.hid (by rw [checkP, if_neg (fun h => hne h.1)])
  rw [ht] at hne ⊢
  have htn : (t != 0) = true := by simpa using hne
  clear ht
  go_wp2_with fail
  go_ret
  exact ⟨ret_int HP.out.symm, HB1.out.alloc HB1.out.size _⟩
 ·
  obtain ⟨L, hL⟩ : ∃ L, orderL s.rules s.schemas.length = L := ⟨_, rfl⟩
  rw [hL] at ho ⊢
  obtain ⟨v, hv⟩ : ∃ v, sameL L l = v := ⟨_, rfl⟩
  have HV := Lib.hid hv
  have HZ := Lib.hid hz
  have HLL := Lib.hid hL
  have HSC : Hid (∀ o, Calls Tryz.prog 34 #[.agg #[.slice A1 n1 c1, .slice A2 n2 c2, .slice A3 n3 c3, .slice A4 n4 c4, .slice A5 n5 c5, .slice A6 n6 c6, .slice C L.length d], .agg #[.slice A1 n1 c1, .slice A2 n2 c2, .slice A3 n3 c3, .slice A4 n4 c4, .slice A5 n5 c5, .slice A6 n6 c6, .slice A7 n7 c7]] (w1.alloc o) fun e w' => e = .returned (.bool v) ∧ Below (w1.alloc o).heap.size (w1.alloc o) w') := Lib.hid (fun o => by
   have hba : Below w1.heap.size w1 (w1.alloc o) := (Below.refl _ _).alloc (Nat.le_refl _) o
   have hbw := HB1.out.trans (hba.mono HB1.out.size)
   have := sameTables_any A1 A2 A3 A4 A5 A6 n1 c1 n2 c2 n3 c3 n4 c4 n5 c5 n6 c6 C A7 L.length d n7 c7 s L l (w1.alloc o) (H1.out.mono strR_mono hbw) (H2.out.mono qUnitR_mono hbw) (H3.out.mono qSchemaR_mono hbw) (H4.out.mono qRuleR_mono hbw) (H5.out.mono qConvertR_mono hbw) (H6.out.mono qPurposeR_mono hbw) (ho.mono iR_mono hba) (H7.out.mono iR_mono hbw)
   rw [hv] at this
   exact this)
  clear hv hz hL ho
  go_wp2_with (go_at_call 34; refine (HSC.out _).mono ?_; clear HSC)
  first | rintro e w2 rfl hb2 | rintro e w2 ⟨rfl, hb2⟩
  have HB2 : Hid (Below w.heap.size w w2) := Lib.hid ((HB1.out.alloc HB1.out.size _).trans (hb2.mono (by have := HB1.out.size; simp; omega)))
  clear hb2
  cases v with
  |
   true =>
   go_wp2_with fail
   go_ret
   exact ⟨ret_int (by rw [checkP, if_pos ⟨HZ.out, by rw [HLL.out]; exact of_decide_eq_true HV.out⟩]), HB2.out⟩
  |
   false =>
   go_wp2_with fail
   go_ret
   exact ⟨ret_int (by rw [checkP, if_neg (fun h => by have h2 := h.2; rw [HLL.out] at h2; exact absurd h2 (of_decide_eq_false HV.out))]), HB2.out⟩
def fitsGo (many : Int) : Int → List Int → Bool
 | _, [] => true
 | last, f :: l => (decide (last < f) && decide (f < many)) && fitsGo many f l
theorem fits1_any (bl bm : Nat) (f last many : Int) (w : World) (hl : Blk w bl 3 #[.int .i64 last]) (hm : Blk w bm 3 #[.int .i64 many]) :
 Calls Tryz.prog 35 #[.int .i64 f, .pointer (some ⟨bl, 0, none⟩), .pointer (some ⟨bm, 0, none⟩)] w fun e w' => e = .returned (.bool (!(decide (last < f) && decide (f < many)))) ∧ w' = w.setCell ⟨bl, 0, none⟩ (.int .i64 f) := by
 have c0 := hl.cell 0
 have m0 := hm.cell 0
 have f0 := hl.frozen 0
 have ll := hl.lt
 have lm := hm.lt
 simp only [List.getElem?_toArray, List.getElem?_cons_zero] at c0 m0
 clear hl hm
 by_cases h1 : last < f
 ·
  by_cases h2 : f < many
  ·
   go_enter Tryz.func35, Tryz.ntmps35
   go_wp2_with fail
   all_goals
    go_ret
    exact ⟨ret_bool (by simp [h1, h2]; try omega), rfl⟩
  ·
   go_enter Tryz.func35, Tryz.ntmps35
   go_wp2_with fail
   all_goals
    go_ret
    exact ⟨ret_bool (by simp [h2]; try omega), rfl⟩
 ·
  go_enter Tryz.func35, Tryz.ntmps35
  go_wp2_with fail
  all_goals
   go_ret
   exact ⟨ret_bool (by simp [h1]; try omega), rfl⟩
set_option maxHeartbeats 2000000 in
theorem indexFit_any (A : Option Addr) (n c bl bm : Nat) (l : List Int) (last many : Int) (w : World) (hs : SlR 1 iR w (.slice A n c) l) (hl : Blk w bl 3 #[.int .i64 last]) (hm : Blk w bm 3 #[.int .i64 many]) (hne : bl ≠ bm) (hbl : 0 < n → ∀ b off, A = some ⟨b, off, none⟩ → b ≠ bl) :
 Calls Tryz.prog 52 #[.slice A n c, .func (.func 35) #[] #[.pointer (some ⟨bl, 0, none⟩), .pointer (some ⟨bm, 0, none⟩)]] w fun e w' => (∃ i : Int, e = .returned (.int .i64 i) ∧ decide (0 ≤ i) = !fitsGo many last l) ∧ w.grownBy w' (some bl) := by
 have hn2 : n ≤ 9223372036854775807 := by have := hs.le; omega
 have HN := Lib.hid hs.len
 have HS := Lib.hid hs
 have HM := Lib.hid hm
 have HL := Lib.hid hl
 obtain ⟨v, hv⟩ : ∃ v, fitsGo many last l = v := ⟨_, rfl⟩
 have HV : Hid (fitsGo many last (l.drop 0) = v) := Lib.hid hv
 rw [hv]
 clear hs hl hm hv
 go_enter Tryz.func52, Tryz.ntmps52
 go_wp2_with fail
 go_loopg [8] n (fun q i wr => ∃ (k : Nat) (la : Int), k ≤ n ∧ q = n - k ∧ i = .int .i64 k ∧ fitsGo many la (l.drop k) = v ∧ Blk wr bl 3 #[.int .i64 la] ∧ w.grownBy wr (some bl))
 case atStart => exact ⟨0, last, Nat.zero_le _, rfl, rfl, HV.out, HL.out, grown_refl _ _⟩
 case round =>
  clear HV HL
  obtain ⟨k, la, hk, hq, rfl, hv, hb, hg⟩ := hrel
  have HQ := Lib.hid hq
  have HG := Lib.hid hg
  have HBL := Lib.hid hb
  have HBM := Lib.hid (HM.out.grown hg (fun e => hne (by injection e with e; exact e.symm)))
  by_cases hlt : k < n
  ·
   obtain ⟨b, off, x, rfl, hbb, hx, hc⟩ := i_at HS.out hlt
   have hc2 : wr.cell? ⟨b, off + k, none⟩ = some (.int .i64 x) := by
    unfold World.cell? at hc ⊢
    rw [hg.block b hbb (fun e => hbl (by omega) b off rfl (by injection e))]
    exact hc
   have hb2 : b < wr.heap.size := Nat.lt_of_lt_of_le hbb hg.size
   rw [drop_cons hx, fitsGo] at hv
   have HX := Lib.hid hx
   have hkn : (k : Int) < (n : Int) := by omega
   have hk0 : (0 : Int) ≤ (k : Int) := by omega
   obtain ⟨u, hu⟩ : ∃ u, (decide (la < x) && decide (x < many)) = u := ⟨_, rfl⟩
   have HC : Hid (Calls Tryz.prog 35 #[.int .i64 x, .pointer (some ⟨bl, 0, none⟩), .pointer (some ⟨bm, 0, none⟩)] wr fun e w' => e = .returned (.bool (!u)) ∧ w' = wr.setCell ⟨bl, 0, none⟩ (.int .i64 x)) := Lib.hid (by
    have := fits1_any bl bm x la many wr HBL.out HBM.out
    rw [hu] at this
    exact this)
   rw [hu] at hv
   have HV := Lib.hid hv
   have HG2 : Hid (w.grownBy (wr.setCell ⟨bl, 0, none⟩ (.int .i64 x)) (some bl)) := Lib.hid (grown_put HG.out _ _)
   have HB2 : Hid (Blk (wr.setCell ⟨bl, 0, none⟩ (.int .i64 x)) bl 3 #[.int .i64 x]) := Lib.hid (HBL.out.put 0 _)
   clear hq hg hb hv hu hx hc
   go_wp2_with (go_at_call 35; refine HC.out.mono ?_; clear HC)
   first | rintro e w1 rfl rfl | rintro e w1 ⟨rfl, rfl⟩
   cases u with
   |
    true =>
    go_wp2_with fail
    go_roundg (n - (k + 1))
    case measure => have := HQ.out; omega
    case rel => exact ⟨k + 1, x, by omega, rfl, by go_num, HV.out, HB2.out, HG2.out⟩
   |
    false =>
    go_wp2_with fail
    go_ret
    exact ⟨⟨_, rfl, by rw [← HV.out]; simp⟩, HG2.out⟩
  ·
   rw [List.drop_of_length_le (by have := HN.out; omega)] at hv
   have HV := Lib.hid hv
   clear hq hg hb hv
   go_wp2_with fail
   go_ret
   exact ⟨⟨_, rfl, by rw [← HV.out]; rfl⟩, HG.out⟩
theorem containsFit_any (A : Option Addr) (n c bl bm : Nat) (l : List Int) (last many : Int) (w : World) (hs : SlR 1 iR w (.slice A n c) l) (hl : Blk w bl 3 #[.int .i64 last]) (hm : Blk w bm 3 #[.int .i64 many]) (hne : bl ≠ bm) (hbl : 0 < n → ∀ b off, A = some ⟨b, off, none⟩ → b ≠ bl) :
 Calls Tryz.prog 36 #[.slice A n c, .func (.func 35) #[] #[.pointer (some ⟨bl, 0, none⟩), .pointer (some ⟨bm, 0, none⟩)]] w fun e w' => e = .returned (.bool (!fitsGo many last l)) ∧ w.grownBy w' (some bl) := by
 go_enter Tryz.func36, Tryz.ntmps36
 go_wp2_with fail
 refine (indexFit_any A n c bl bm l last many w hs hl hm hne hbl).mono ?_
 rintro e w1 ⟨⟨i, rfl, hi⟩, hg⟩
 have HG := Lib.hid hg
 have HI := Lib.hid hi
 clear hg hi hs hl hm hbl
 go_wp2_with fail
 go_ret
 exact ⟨by rw [← HI.out]; rfl, HG.out⟩
def fitsP (ss : List QSchema) (sc : Int) (F : List Int) (nv : Nat) : Bool :=
 decide (0 ≤ sc) && decide (sc < ss.length) && decide (F.length = nv) && ((ss[sc.toNat]?).any fun x => fitsGo x.fields.length (-1) F)
set_option maxHeartbeats 8000000 in
set_option maxRecDepth 100000 in
theorem fits_any (A1 A2 A3 A4 A5 A6 : Option Addr) (n1 c1 n2 c2 n3 c3 n4 c4 n5 c5 n6 c6 : Nat) (A7 FA VA : Option Addr) (n7 c7 nf cf nv cv : Nat) (ss : List QSchema) (sc : Int) (F : List Int) (w : World) (h3 : SlR 6 qSchemaR w (.slice A3 n3 c3) ss) (hF : SlR 1 iR w (.slice FA nf cf) F) (hnv : nv ≤ 9223372036854775807) :
 Calls Tryz.prog 25 #[.agg #[.slice A1 n1 c1, .slice A2 n2 c2, .slice A3 n3 c3, .slice A4 n4 c4, .slice A5 n5 c5, .slice A6 n6 c6, .slice A7 n7 c7], .agg #[.int .i64 sc, .slice FA nf cf, .slice VA nv cv]] w fun e w' => e = .returned (.bool (fitsP ss sc F nv)) ∧ Below w.heap.size w w' := by
 have hn3 : n3 ≤ 9223372036854775807 := by have := h3.le; omega
 have hnf : nf ≤ 9223372036854775807 := by have := hF.le; omega
 have hln3 := h3.len
 have hlnf := hF.len
 have HFB : Hid (0 < nf → ∀ b off, FA = some ⟨b, off, none⟩ → b < w.heap.size) := Lib.hid (fun hp b off e => by
  obtain ⟨b', off', x, rfl, hb, _⟩ := i_at hF hp
  injection e with e
  injection e with e
  omega)
 have H3 := Lib.hid h3
 have HF := Lib.hid hF
 clear h3 hF
 by_cases hG : 0 ≤ sc ∧ sc < n3 ∧ nf = nv
 case neg =>
  have hfl : fitsP ss sc F nv = false := by
   cases h : fitsP ss sc F nv with
   | false => rfl
   |
    true =>
    simp only [fitsP, Bool.and_eq_true, decide_eq_true_eq] at h
    omega
  rw [hfl]
  clear hfl hln3 hlnf
  by_cases hnn : nf = nv
  ·
   subst hnn
   have hnb : ((nf : Int) != (nf : Int)) = false := by simp
   go_enter Tryz.func25, Tryz.ntmps25
   go_wp2_with fail
   all_goals first
    | (exfalso; omega)
    | (go_ret; exact ⟨rfl, (((Below.refl _ _).alloc (Nat.le_refl _) _).alloc (by simp) _)⟩)
  ·
   have hnb : ((nf : Int) != (nv : Int)) = true := by
    have : ¬ (nf : Int) = (nv : Int) := by omega
    simpa using this
   go_enter Tryz.func25, Tryz.ntmps25
   go_wp2_with fail
   all_goals first
    | (exfalso; omega)
    | (go_ret; exact ⟨rfl, (((Below.refl _ _).alloc (Nat.le_refl _) _).alloc (by simp) _)⟩)
 obtain ⟨i0, i1, rfl⟩ := hG
 obtain ⟨k, rfl⟩ : ∃ k : Nat, sc = k := ⟨sc.toNat, by omega⟩
 obtain ⟨b, off, x, B1, m1, d1, B2, m2, d2, hA3, hbl, hx, e0, e1, e2, e3, e4, e5, g1, g2⟩ := qSchema_at H3.out (k := k) (by omega)
 have hm1 : m1 = x.fields.length := g1.1.len
 have hm1b : m1 ≤ 9223372036854775807 := by have := g1.1.le; omega
 obtain ⟨v, hv⟩ : ∃ v, fitsGo m1 (-1) F = v := ⟨_, rfl⟩
 have HV := Lib.hid hv
 have HP : Hid (fitsP ss k F nf = v) := Lib.hid (by
  rw [fitsP, ← hv, hm1]
  simp only [Int.toNat_natCast, hx, Option.any_some]
  rw [decide_eq_true (show (0 : Int) ≤ (k : Int) by omega), decide_eq_true (show ((k : Nat) : Int) < (ss.length : Int) by omega), decide_eq_true hlnf.symm]
  simp)
 rw [HP.out]
 subst hA3
 clear hx g1 g2 hv hln3 hlnf hm1
 go_enter Tryz.func25, Tryz.ntmps25
 go_upto_region 3 with fail
 obtain ⟨wb, hwb⟩ : ∃ wq, wq = (w.alloc (.cells #[.slice A1 n1 c1, .slice A2 n2 c2, .slice (some ⟨b, off, none⟩) n3 c3, .slice A4 n4 c4, .slice A5 n5 c5, .slice A6 n6 c6, .slice A7 n7 c7] 32)).alloc (.cells #[.int .i64 k, .slice FA nf cf, .slice VA nf cv] 42) := ⟨_, rfl⟩
 rw [← hwb]
 have hbb : Below w.heap.size w wb := by rw [hwb]; exact (((Below.refl _ _).alloc (Nat.le_refl _) _).alloc (by simp) _)
 have kA : Blk wb w.heap.size 32 #[.slice A1 n1 c1, .slice A2 n2 c2, .slice (some ⟨b, off, none⟩) n3 c3, .slice A4 n4 c4, .slice A5 n5 c5, .slice A6 n6 c6, .slice A7 n7 c7] := by rw [hwb]; exact (Blk.new _ _ _).alloc _
 have kB : Blk wb (w.heap.size + 1) 42 #[.int .i64 k, .slice FA nf cf, .slice VA nf cv] := by rw [hwb]; exact blkNew (by simp)
 obtain ⟨ga, hga⟩ : ∃ g, g = w.heap.size := ⟨_, rfl⟩
 obtain ⟨gb, hgb⟩ : ∃ g, g = w.heap.size + 1 := ⟨_, rfl⟩
 rw [← hgb] at kB ⊢
 rw [← hga] at kA ⊢
 rw [← hbb.cell (p := ⟨b, _, none⟩) hbl] at e4
 have hblb : b < wb.heap.size := Nat.lt_of_lt_of_le hbl hbb.size
 have a2 := kA.cell 2
 have b0 := kB.cell 0
 have la := kA.lt
 have lb := kB.lt
 have hkn : (k : Int) < (n3 : Int) := by omega
 have hk0 : (0 : Int) ≤ (k : Int) := by omega
 simp only [List.getElem?_toArray, List.getElem?_cons_zero, List.getElem?_cons_succ] at a2 b0
 have HA := Lib.hid kA
 have HB := Lib.hid kB
 have HBB := Lib.hid hbb
 have hws : w.heap.size ≤ wb.heap.size := hbb.size
 clear kA kB hbb hwb hga hgb e0 e1 e2 e3 e5
 go_region
 have hmf : ∀ (fn : Fn) (first cap : Array Value) (w : World), (Instr.makeFunc fn first cap).run Tryz.prog w = .ok (.func fn first cap) w := fun _ _ _ _ => rfl
 ·
  obtain ⟨wc, hwc⟩ : ∃ q, q = ((wb.alloc (.cells #[.int .i64 (-1)] 3)).alloc (.cells #[.int .i64 m1] 3)).drew := ⟨_, rfl⟩
  rw [← hwc]
  have kL : Blk wc wb.heap.size 3 #[.int .i64 (-1)] := by rw [hwc]; exact ((Blk.new _ _ _).alloc _).drew
  have kM : Blk wc (wb.heap.size + 1) 3 #[.int .i64 m1] := by rw [hwc]; exact (blkNew (by simp)).drew
  have HBC : Hid (Below wb.heap.size wb wc) := Lib.hid (by rw [hwc]; exact below_drewN (((Below.refl _ _).alloc (Nat.le_refl _) _).alloc (by simp) _) 1)
  have HBW : Hid (Below w.heap.size w wc) := Lib.hid (HBB.out.trans (HBC.out.mono HBB.out.size))
  have b1 := (HB.out.below HBC.out lb).cell 1
  simp only [List.getElem?_toArray, List.getElem?_cons_zero, List.getElem?_cons_succ] at b1
  have hlb : gb < wc.heap.size := Nat.lt_of_lt_of_le lb HBC.out.size
  clear hwc a2 b0 e4
  have HCF : Hid (Calls Tryz.prog 36 #[.slice FA nf cf, .func (.func 35) #[] #[.pointer (some ⟨wb.heap.size, 0, none⟩), .pointer (some ⟨wb.heap.size + 1, 0, none⟩)]] wc fun e w' => e = .returned (.bool (!v)) ∧ wc.grownBy w' (some wb.heap.size)) := Lib.hid (by
   have := containsFit_any FA nf cf wb.heap.size (wb.heap.size + 1) F (-1) m1 wc (HF.out.mono iR_mono HBW.out) kL kM (by omega) (fun hp b off e => by have := HFB.out hp b off e; omega)
   rw [HV.out] at this
   exact this)
  clear kL kM
  go_wp2_with (go_at_call 36; refine HCF.out.mono ?_; clear HCF)
  first | rintro e w2 rfl hg2 | rintro e w2 ⟨rfl, hg2⟩
  have HB2 : Hid (Below w.heap.size w w2) := Lib.hid (HBW.out.grown hg2 HBW.out.size (fun r e => by cases e; omega))
  clear hg2
  go_wp2_with fail
  go_ret
  exact ⟨ret_bool (by simp), HB2.out⟩
 ·
  obtain ⟨wc, hwc⟩ : ∃ q, q = ((wb.alloc (.cells #[.int .i64 m1] 3)).alloc (.cells #[.int .i64 (-1)] 3)).drew := ⟨_, rfl⟩
  rw [← hwc]
  have kL : Blk wc (wb.heap.size + 1) 3 #[.int .i64 (-1)] := by rw [hwc]; exact (blkNew (by simp)).drew
  have kM : Blk wc wb.heap.size 3 #[.int .i64 m1] := by rw [hwc]; exact ((Blk.new _ _ _).alloc _).drew
  have HBC : Hid (Below wb.heap.size wb wc) := Lib.hid (by rw [hwc]; exact below_drewN (((Below.refl _ _).alloc (Nat.le_refl _) _).alloc (by simp) _) 1)
  have HBW : Hid (Below w.heap.size w wc) := Lib.hid (HBB.out.trans (HBC.out.mono HBB.out.size))
  have b1 := (HB.out.below HBC.out lb).cell 1
  simp only [List.getElem?_toArray, List.getElem?_cons_zero, List.getElem?_cons_succ] at b1
  have hlb : gb < wc.heap.size := Nat.lt_of_lt_of_le lb HBC.out.size
  clear hwc a2 b0 e4
  have HCF : Hid (Calls Tryz.prog 36 #[.slice FA nf cf, .func (.func 35) #[] #[.pointer (some ⟨wb.heap.size + 1, 0, none⟩), .pointer (some ⟨wb.heap.size, 0, none⟩)]] wc fun e w' => e = .returned (.bool (!v)) ∧ wc.grownBy w' (some (wb.heap.size + 1))) := Lib.hid (by
   have := containsFit_any FA nf cf (wb.heap.size + 1) wb.heap.size F (-1) m1 wc (HF.out.mono iR_mono HBW.out) kL kM (by omega) (fun hp b off e => by have := HFB.out hp b off e; omega)
   rw [HV.out] at this
   exact this)
  clear kL kM
  go_wp2_with (go_at_call 36; refine HCF.out.mono ?_; clear HCF)
  first | rintro e w2 rfl hg2 | rintro e w2 ⟨rfl, hg2⟩
  have HB2 : Hid (Below w.heap.size w w2) := Lib.hid (HBW.out.grown hg2 HBW.out.size (fun r e => by cases e; omega))
  clear hg2
  go_wp2_with fail
  go_ret
  exact ⟨ret_bool (by simp), HB2.out⟩
end Go.Proofs.YtkgmonplcdnnbaaGreat
