/- The law NamesMissing, where the names are not too many: it answers true. Written by genmiss.py. -/
import Derived.Test.YtkkkephjljiplaaNmMeQ
import Derived.Test.YtkkkephjljiplaaNmFew
import Derived.Test.YtkkkephjljiplaaNmMisP
import Derived.Deep.DeepCutAuto
import Derived.Deep.CutBlock
namespace Go.Proofs.Ytkkkephjljiplaa
open Go.RowKit

theorem blk_news {w : World} {g : Nat} {t : TypeId} {cs : List Value} (h : Blk w g t cs.toArray) (j : Nat) (u : Value) (hu : cs[j]? = some u) : w.cell? ((⟨g, 0, none⟩ : Addr).add j) = some u := by
  rw [addr_plus, Nat.zero_add, h.cell j, List.getElem?_toArray]
  exact hu
theorem slB_more {α : Type} {sz bytes : Nat} {R : World → List Value → α → Prop} {w : World} {base : Nat} {e : TypeId} {v : Value} {n : Nat} {cs news : List Value} {l : List α} {x : α} (ho : w.ownsRow base e sz v (n + 1) (cs ++ news)) (hcs : CellsR sz R w cs l) (hl : news.length = sz) (hr : R w news x) (hn : n = l.length) (hb : (l.length + 1) * bytes ≤ 140737488355328) : SlB sz bytes R w v (l ++ [x]) :=
  ⟨slR_of_row ho (hcs.append (CellsR.one hl hr)) (by simp [hn]), by simpa using hb⟩
theorem resolve_src (cs : List Value) (s : QSource) (w : World) (h : qSourceR w cs s) : Calls Try.prog 12 #[.agg cs.toArray] w (RetResolve s w) := by
  obtain ⟨A1, n1, c1, A2, n2, c2, A3, n3, c3, A4, n4, c4, A5, n5, c5, A6, n6, c6, rfl, h1, h2, h3, h4, h5, h6⟩ := h
  exact resolve_any A1 A2 A3 A4 A5 A6 n1 c1 n2 c2 n3 c3 n4 c4 n5 c5 n6 c6 s w h1 h2 h3 h4 h5 h6

set_option maxHeartbeats 16000000 in
set_option maxRecDepth 100000 in
theorem missing_any (A1 A2 A3 A4 A5 A6 : Option Addr) (n1 c1 n2 c2 n3 c3 n4 c4 n5 c5 n6 c6 : Nat) (s : QSource) (a : Int) (ha0 : 0 ≤ a) (w : World) (h1 : SlB 1 16 strR w (.slice A1 n1 c1) s.issuers) (h2 : SlB 5 56 qUnitR w (.slice A2 n2 c2) s.units) (h3 : SlB 6 96 qSchemaR w (.slice A3 n3 c3) s.schemas) (h4 : SlB 5 96 qRuleR w (.slice A4 n4 c4) s.rules) (h5 : SlB 5 72 qConvertR w (.slice A5 n5 c5) s.converts) (h6 : SlB 3 48 qPurposeR w (.slice A6 n6 c6) s.purposes) (hcnt : sourceM s ≤ 1048576) (hbig : s.issuers.length ≤ 1048576 ∧ s.units.length ≤ 1048576 ∧ s.schemas.length ≤ 1048576 ∧ s.rules.length ≤ 1048576 ∧ s.converts.length ≤ 1048576 ∧ s.purposes.length ≤ 1048576) :
    Calls Try.prog 8 #[.agg #[.slice A1 n1 c1, .slice A2 n2 c2, .slice A3 n3 c3, .slice A4 n4 c4, .slice A5 n5 c5, .slice A6 n6 c6], .int .u8 a] w fun e w' => e = .returned (.bool true) ∧ Below w.heap.size w w' := by
  have HLE2 := Lib.hid h2.1.len
  have HLE3 := Lib.hid h3.1.len
  have HLE4 := Lib.hid h4.1.len
  have HLE5 := Lib.hid h5.1.len
  have HLE6 := Lib.hid h6.1.len
  have HLN2 : Hid (n2 ≤ 1048576) := Lib.hid (by have := h2.1.len; omega)
  have HLN3 : Hid (n3 ≤ 1048576) := Lib.hid (by have := h3.1.len; omega)
  have HLN4 : Hid (n4 ≤ 1048576) := Lib.hid (by have := h4.1.len; omega)
  have HLN5 : Hid (n5 ≤ 1048576) := Lib.hid (by have := h5.1.len; omega)
  have HLN6 : Hid (n6 ≤ 1048576) := Lib.hid (by have := h6.1.len; omega)
  have le1 := h1.1.le
  have le2 := h2.1.le
  have le3 := h3.1.le
  have le6 := h6.1.le
  have HS := Lib.hid (src_whole h1 h2 h3 h4 h5 h6)
  clear h1 h2 h3 h4 h5 h6 hbig
  obtain ⟨j2, i2, z20, z21, z22⟩ := info_parts Try.infoUnit
  have I2 := Lib.hid i2
  have Z2 := Lib.hid (And.intro z20 (And.intro z21 z22))
  clear i2 z20 z21 z22
  obtain ⟨j3, i3, z30, z31, z32⟩ := info_parts Try.infoSchema
  have I3 := Lib.hid i3
  have Z3 := Lib.hid (And.intro z30 (And.intro z31 z32))
  clear i3 z30 z31 z32
  obtain ⟨j4, i4, z40, z41, z42⟩ := info_parts Try.infoRule
  have I4 := Lib.hid i4
  have Z4 := Lib.hid (And.intro z40 (And.intro z41 z42))
  clear i4 z40 z41 z42
  obtain ⟨j5, i5, z50, z51, z52⟩ := info_parts Try.infoConvert
  have I5 := Lib.hid i5
  have Z5 := Lib.hid (And.intro z50 (And.intro z51 z52))
  clear i5 z50 z51 z52
  obtain ⟨j6, i6, z60, z61, z62⟩ := info_parts Try.infoPurpose
  have I6 := Lib.hid i6
  have Z6 := Lib.hid (And.intro z60 (And.intro z61 z62))
  clear i6 z60 z61 z62
  go_enter Try.func8, Try.ntmps8
  go_upto_region 1 with fail
  have hk : Blk (w.alloc (.cells #[.slice A1 n1 c1, .slice A2 n2 c2, .slice A3 n3 c3, .slice A4 n4 c4, .slice A5 n5 c5, .slice A6 n6 c6] 29)) w.heap.size 29 #[.slice A1 n1 c1, .slice A2 n2 c2, .slice A3 n3 c3, .slice A4 n4 c4, .slice A5 n5 c5, .slice A6 n6 c6] := Blk.new _ _ _
  have hb : Below w.heap.size w (w.alloc (.cells #[.slice A1 n1 c1, .slice A2 n2 c2, .slice A3 n3 c3, .slice A4 n4 c4, .slice A5 n5 c5, .slice A6 n6 c6] 29)) := (Below.refl _ _).alloc (Nat.le_refl _) _
  obtain ⟨g, hg⟩ : ∃ g, g = w.heap.size := ⟨_, rfl⟩
  rw [← hg] at hk ⊢
  generalize w.alloc (.cells #[.slice A1 n1 c1, .slice A2 n2 c2, .slice A3 n3 c3, .slice A4 n4 c4, .slice A5 n5 c5, .slice A6 n6 c6] 29) = wb at hk hb ⊢
  have HK := Lib.hid hk
  have HB := Lib.hid hb
  clear hk hb hg
  go_wp2_with fail
  refine (sane_any wb).mono ?_
  rintro e w1 ⟨rfl, hb1⟩
  have hk1 := HK.out.below hb1 HK.out.lt
  obtain ⟨k0, k1, k2, k3, k4, k5⟩ := six_cells hk1 (Below.refl _ _)
  have HK1 := Lib.hid hk1
  have HB1 := Lib.hid (below_step HB.out hb1)
  clear hk1 hb1 HK HB
  go_wp2_with fail
  have HP1 := Lib.hid (src_parts (qSourceR_mono _ _ HB1.out _ _ HS.out))
  refine (few_any A1 A2 A3 A4 A5 A6 n1 c1 n2 c2 n3 c3 n4 c4 n5 c5 n6 c6 s w1 HP1.out.2.2.1.1 HP1.out.2.2.2.1.1 HP1.out.2.2.2.2.1.1 HP1.out.2.2.2.2.2.1).mono ?_
  rintro e w2 ⟨⟨b, rfl⟩, hb2⟩
  clear k0 k1 k2 k3 k4 k5 HP1
  have HK2 := Lib.hid (HK1.out.below hb2 HK1.out.lt)
  have HB2 := Lib.hid (below_step HB1.out hb2)
  clear hb2 HB1 HK1
  cases b with
  | false =>
    go_wp2_with fail
    go_ret
    exact ⟨rfl, HB2.out⟩
  | true =>
    obtain ⟨k0, k1, k2, k3, k4, k5⟩ := six_cells HK2.out (Below.refl _ _)
    go_wp2_with fail
    have hsr := qSourceR_mono _ _ HB2.out _ _ HS.out
    with_reducible refine (resolve_src [.slice A1 n1 c1, .slice A2 n2 c2, .slice A3 n3 c3, .slice A4 n4 c4, .slice A5 n5 c5, .slice A6 n6 c6] s w2 hsr).mono ?_
    rintro e w3 ⟨cs, rfl, hx, hb3⟩
    obtain ⟨X1, p1, q1, X2, p2, q2, X3, p3, q3, X4, p4, q4, X5, p5, q5, X6, p6, q6, rfl, -⟩ := hx
    obtain ⟨ev, xv, hr⟩ : ∃ a b, resolveP s = (a, b) := ⟨_, _, rfl⟩
    rw [hr]
    have HR := Lib.hid hr
    have HB3 := Lib.hid (below_step HB2.out hb3)
    have HK3 := Lib.hid (HK2.out.below hb3 HK2.out.lt)
    clear k0 k1 k2 k3 k4 k5 hb3 HB2 HK2 hr hsr
    go_upto_region 6 with fail
    have hal : Below w3.heap.size w3 (w3.alloc (.cells #[.slice X1 p1 q1, .slice X2 p2 q2, .slice X3 p3 q3, .slice X4 p4 q4, .slice X5 p5 q5, .slice X6 p6 q6] 29)) := (Below.refl _ _).alloc (Nat.le_refl _) _
    have HB4 := Lib.hid (below_step HB3.out hal)
    have HK4 := Lib.hid (HK3.out.below hal HK3.out.lt)
    generalize w3.heap.size = gq
    generalize w3.alloc (.cells #[.slice X1 p1 q1, .slice X2 p2 q2, .slice X3 p3 q3, .slice X4 p4 q4, .slice X5 p5 q5, .slice X6 p6 q6] 29) = w4 at HB4 HK4 ⊢
    clear hal HB3 HK3
    have hrc := resolve_cases s
    rw [HR.out] at hrc
    rcases hrc with hrc | hrc | ⟨htw, x, hnum, hrc⟩
    · obtain rfl : ev = 111 := congrArg Prod.fst hrc
      clear hrc
      go_wp2_with fail
      go_ret
      exact ⟨rfl, HB4.out⟩
    · obtain rfl : ev = 110 := congrArg Prod.fst hrc
      clear hrc
      go_wp2_with fail
      go_ret
      exact ⟨rfl, HB4.out⟩
    obtain rfl : ev = 0 := congrArg Prod.fst hrc
    have htw := Lib.hid htw
    clear hrc hnum HR
    obtain ⟨k0, k1, k2, k3, k4, k5⟩ := six_cells HK4.out (Below.refl _ _)
    have lg := HK4.out.lt
    have HP4 := Lib.hid (src_parts (qSourceR_mono _ _ HB4.out _ _ HS.out))
    go_wp2_with fail
    go_loopg [7, 8] n1 (fun q l i wr => ∃ kz : Nat, kz ≤ n1 ∧ q = n1 - kz ∧ l = .string (longN ([] ++ (s.issuers).take kz)) ∧ i = .int .i64 kz ∧ w4 = wr)
    case atStart => exact ⟨0, Nat.zero_le _, rfl, by rw [List.take_zero, List.append_nil]; first | rfl | exact HLB.out, rfl, rfl⟩
    case round =>
      obtain ⟨k, hk, hq, hl, rfl, rfl⟩ := hrel
      have HQk := Lib.hid hq
      clear hq
      obtain ⟨L, hL⟩ : ∃ L, L = longN ([] ++ (s.issuers).take k) := ⟨_, rfl⟩
      rw [← hL] at hl
      subst hl
      have HL := Lib.hid hL
      clear hL
      by_cases hltk : k < n1
      · have hnk : (k : Int) < (n1 : Int) := by omega
        have h0k : (0 : Int) ≤ (k : Int) := by omega
        obtain ⟨b, off, x, rfl, hbl, hx, s0⟩ := str_at HP4.out.1.1 hltk
        have HX := Lib.hid hx
        clear hx
        have hok := long_ok hcnt (show ([] ++ (s.issuers).take k) ++ [x] <+: missNames s by rw [List.append_assoc, ← take_snoc HX.out]; exact pre_iss)
        rw [← HL.out] at hok
        have ha1 := run_string_add_sum (P := Try.prog) w4 x ⟨#[110]⟩ hok.1
        have ha2 := run_string_add_sum (P := Try.prog) w4 L (x ++ ⟨#[110]⟩) hok.2
        clear hok
        go_wp2_with fail
        go_roundg (n1 - (k + 1))
        case measure => have := HQk.out; omega
        case rel => exact ⟨k + 1, by omega, rfl, by rw [long_at HX.out, HL.out]; rfl, by go_num, rfl⟩
      · have hnk : ¬ (k : Int) < (n1 : Int) := by omega
        have hke : k = s.issuers.length := by have := HP4.out.1.1.len; omega
        have HLB : Hid (L = longN s.issuers) := Lib.hid (by rw [HL.out, hke, List.take_length, List.nil_append])
        clear hke HL HQk
        go_wp2_with fail
        clear hk hltk hnk
        go_loopg [7, 9] n2 (fun q l i wr => ∃ kz : Nat, kz ≤ n2 ∧ q = n2 - kz ∧ l = .string (longN (s.issuers ++ (unitNames s).take kz)) ∧ i = .int .i64 kz ∧ w4 = wr)
        case atStart => exact ⟨0, Nat.zero_le _, rfl, by rw [List.take_zero, List.append_nil]; first | exact congrArg Value.string HLB.out | exact HLB.out, rfl, rfl⟩
        case round =>
          obtain ⟨k, hk, hq, hl, rfl, rfl⟩ := hrel
          have HQk := Lib.hid hq
          clear hq
          obtain ⟨L, hL⟩ : ∃ L, L = longN (s.issuers ++ (unitNames s).take k) := ⟨_, rfl⟩
          rw [← hL] at hl
          subst hl
          have HL := Lib.hid hL
          clear hL
          by_cases hltk : k < n2
          · have hnk : (k : Int) < (n2 : Int) := by omega
            have h0k : (0 : Int) ≤ (k : Int) := by omega
            obtain ⟨b, off, u, rfl, hbl, hx, s0, -⟩ := qUnit_at HP4.out.2.1.1 hltk
            have HX : Hid ((unitNames s)[k]? = some u.name) := Lib.hid (by unfold unitNames; rw [List.getElem?_map, hx]; rfl)
            obtain ⟨x, hxe⟩ : ∃ x, x = u.name := ⟨_, rfl⟩
            rw [← hxe] at HX s0
            clear hx hxe
            have hok := long_ok hcnt (show (s.issuers ++ (unitNames s).take k) ++ [x] <+: missNames s by rw [List.append_assoc, ← take_snoc HX.out]; exact pre_unit)
            rw [← HL.out] at hok
            have ha1 := run_string_add_sum (P := Try.prog) w4 x ⟨#[110]⟩ hok.1
            have ha2 := run_string_add_sum (P := Try.prog) w4 L (x ++ ⟨#[110]⟩) hok.2
            clear hok
            go_wp2_with fail
            go_roundg (n2 - (k + 1))
            case measure => have := HQk.out; omega
            case rel => exact ⟨k + 1, by omega, rfl, by rw [long_at HX.out, HL.out]; rfl, by go_num, rfl⟩
          · have hnk : ¬ (k : Int) < (n2 : Int) := by omega
            have hke : k = (unitNames s).length := by have := HP4.out.2.1.1.len; unfold unitNames; simp; omega
            have HLB : Hid (L = longN (s.issuers ++ unitNames s)) := Lib.hid (by rw [HL.out, hke, List.take_length])
            clear hke HL HQk
            go_wp2_with fail
            clear hk hltk hnk
            go_loopg [7, 10] n3 (fun q l i wr => ∃ k : Nat, k ≤ n3 ∧ q = n3 - k ∧ l = .string (longN ((s.issuers ++ unitNames s) ++ schN s k)) ∧ i = .int .i64 k ∧ w4 = wr)
            case atStart => exact ⟨0, Nat.zero_le _, rfl, by rw [HLB.out]; unfold schN; rw [List.take_zero, List.flatMap_nil, List.append_nil], rfl, rfl⟩
            case round =>
              clear HLB
              obtain ⟨k, hk, hq, hl, rfl, rfl⟩ := hrel
              have HQk := Lib.hid hq
              clear hq
              obtain ⟨L, hL⟩ : ∃ L, L = longN ((s.issuers ++ unitNames s) ++ schN s k) := ⟨_, rfl⟩
              rw [← hL] at hl
              subst hl
              have HL := Lib.hid hL
              clear hL
              by_cases hltk : k < n3
              · have hnk : (k : Int) < (n3 : Int) := by omega
                have h0k : (0 : Int) ≤ (k : Int) := by omega
                as_aux_lemma =>
                  obtain ⟨b, off, y, B1, m1, e1, B2, m2, e2, rfl, hbl, hy, s0, -, -, -, s4, -, hfl, -⟩ := qSchema_at (HP4.out.2.2.1.1) hltk
                  have HY := Lib.hid hy
                  have HF := Lib.hid hfl.1
                  have mle := hfl.1.le
                  have hok := long_ok hcnt (pre_name HY.out)
                  rw [← HL.out] at hok
                  obtain ⟨x, hxe⟩ : ∃ x, x = y.name := ⟨_, rfl⟩
                  rw [← hxe] at s0 hok
                  have ha1 := run_string_add_sum (P := Try.prog) w4 x ⟨#[110]⟩ hok.1
                  have ha2 := run_string_add_sum (P := Try.prog) w4 L (x ++ ⟨#[110]⟩) hok.2
                  have HLB : Hid (L ++ (x ++ ⟨#[110]⟩) = longN (s.issuers ++ unitNames s ++ schN s k ++ [y.name])) := Lib.hid (by rw [longN_snoc, HL.out, hxe]; rfl)
                  clear hok hfl hy hxe
                  go_wp2_with fail
                  clear ha1 ha2 s0
                  obtain ⟨L0, hL0⟩ : ∃ z, z = L ++ (x ++ ⟨#[110]⟩) := ⟨_, rfl⟩
                  rw [← hL0] at HLB ⊢
                  clear hL0
                  go_loopg [7, 11] m1 (fun q l i wr => ∃ kz : Nat, kz ≤ m1 ∧ q = m1 - kz ∧ l = .string (longN ((s.issuers ++ unitNames s ++ schN s k ++ [y.name]) ++ (fieldNames y).take kz)) ∧ i = .int .i64 kz ∧ w4 = wr)
                  case atStart => exact ⟨0, Nat.zero_le _, rfl, by rw [List.take_zero, List.append_nil]; first | exact congrArg Value.string HLB.out | exact HLB.out, rfl, rfl⟩
                  case round =>
                    obtain ⟨j, hj, hq, hl, rfl, rfl⟩ := hrel
                    have HQj := Lib.hid hq
                    clear hq
                    obtain ⟨L, hL⟩ : ∃ L, L = longN ((s.issuers ++ unitNames s ++ schN s k ++ [y.name]) ++ (fieldNames y).take j) := ⟨_, rfl⟩
                    rw [← hL] at hl
                    subst hl
                    have HL := Lib.hid hL
                    clear hL
                    by_cases hltj : j < m1
                    · have hnj : (j : Int) < (m1 : Int) := by omega
                      have h0j : (0 : Int) ≤ (j : Int) := by omega
                      obtain ⟨fb, fo, f, _, _, _, rfl, hfb, hx, e0, -⟩ := qField_at HF.out hltj
                      have HX : Hid ((fieldNames y)[j]? = some f.name) := Lib.hid (by unfold fieldNames; rw [List.getElem?_map, hx]; rfl)
                      obtain ⟨x, hxe⟩ : ∃ x, x = f.name := ⟨_, rfl⟩
                      rw [← hxe] at HX e0
                      clear hx hxe
                      have hok := long_ok hcnt (show ((s.issuers ++ unitNames s ++ schN s k ++ [y.name]) ++ (fieldNames y).take j) ++ [x] <+: missNames s by rw [List.append_assoc, ← take_snoc HX.out]; exact pre_field HY.out)
                      rw [← HL.out] at hok
                      have ha1 := run_string_add_sum (P := Try.prog) w4 x ⟨#[110]⟩ hok.1
                      have ha2 := run_string_add_sum (P := Try.prog) w4 L (x ++ ⟨#[110]⟩) hok.2
                      clear hok
                      go_wp2_with fail
                      go_roundg (m1 - (j + 1))
                      case measure => have := HQj.out; omega
                      case rel => exact ⟨j + 1, by omega, rfl, by rw [long_at HX.out, HL.out]; rfl, by go_num, rfl⟩
                    · have hnj : ¬ (j : Int) < (m1 : Int) := by omega
                      have hje : j = (fieldNames y).length := by have := HF.out.len; unfold fieldNames; simp; omega
                      have HL2 : Hid (L = longN ((s.issuers ++ unitNames s) ++ schN s (k + 1))) := Lib.hid (by
                        have := HL.out
                        rw [hje, List.take_length] at this
                        rw [this, schN_succ HY.out, ← List.append_assoc, ← List.append_assoc])
                      clear hje HL
                      go_wp2_with fail
                      go_roundg (n3 - (k + 1))
                      case measure => have := HQk.out; omega
                      case rel => exact ⟨k + 1, by omega, rfl, by rw [HL2.out], by go_num, rfl⟩
              · have hnk : ¬ (k : Int) < (n3 : Int) := by omega
                have hke : k = s.schemas.length := by have := HP4.out.2.2.1.1.len; omega
                have HLB : Hid (L = longN ((s.issuers ++ unitNames s ++ schN s s.schemas.length))) := Lib.hid (by rw [HL.out, hke])
                clear hke HL HQk
                go_wp2_with fail
                clear hk hltk hnk
                go_loopg [7, 12] n6 (fun q l i wr => ∃ kz : Nat, kz ≤ n6 ∧ q = n6 - kz ∧ l = .string (longN ((s.issuers ++ unitNames s ++ schN s s.schemas.length) ++ (purposeNames s).take kz)) ∧ i = .int .i64 kz ∧ w4 = wr)
                case atStart => exact ⟨0, Nat.zero_le _, rfl, by rw [List.take_zero, List.append_nil]; first | exact congrArg Value.string HLB.out | exact HLB.out, rfl, rfl⟩
                case round =>
                  obtain ⟨k, hk, hq, hl, rfl, rfl⟩ := hrel
                  have HQk := Lib.hid hq
                  clear hq
                  obtain ⟨L, hL⟩ : ∃ L, L = longN ((s.issuers ++ unitNames s ++ schN s s.schemas.length) ++ (purposeNames s).take k) := ⟨_, rfl⟩
                  rw [← hL] at hl
                  subst hl
                  have HL := Lib.hid hL
                  clear hL
                  by_cases hltk : k < n6
                  · have hnk : (k : Int) < (n6 : Int) := by omega
                    have h0k : (0 : Int) ≤ (k : Int) := by omega
                    obtain ⟨b, off, u, B1, m1, e1, rfl, hbl, hx, s0, -, -, -⟩ := qPurpose_at HP4.out.2.2.2.2.2.1 hltk
                    have HX : Hid ((purposeNames s)[k]? = some u.name) := Lib.hid (by unfold purposeNames; rw [List.getElem?_map, hx]; rfl)
                    obtain ⟨x, hxe⟩ : ∃ x, x = u.name := ⟨_, rfl⟩
                    rw [← hxe] at HX s0
                    clear hx hxe
                    have hok := long_ok hcnt (show ((s.issuers ++ unitNames s ++ schN s s.schemas.length) ++ (purposeNames s).take k) ++ [x] <+: missNames s by rw [List.append_assoc, ← take_snoc HX.out]; exact pre_purp)
                    rw [← HL.out] at hok
                    have ha1 := run_string_add_sum (P := Try.prog) w4 x ⟨#[110]⟩ hok.1
                    have ha2 := run_string_add_sum (P := Try.prog) w4 L (x ++ ⟨#[110]⟩) hok.2
                    clear hok
                    go_wp2_with fail
                    go_roundg (n6 - (k + 1))
                    case measure => have := HQk.out; omega
                    case rel => exact ⟨k + 1, by omega, rfl, by rw [long_at HX.out, HL.out]; rfl, by go_num, rfl⟩
                  · have hnk : ¬ (k : Int) < (n6 : Int) := by omega
                    have hke : k = (purposeNames s).length := by have := HP4.out.2.2.2.2.2.1.len; unfold purposeNames; simp; omega
                    have HNI : Hid (NotIn s L) := Lib.hid (by
                      have := HL.out
                      rw [hke, List.take_length] at this
                      rw [this]
                      exact long_notIn s)
                    clear hke HL HQk HP4
                    go_upto_region 30 with fail
                    have hal : Below w4.heap.size w4 (w4.alloc (.cells #[.slice A1 n1 c1, .slice A2 n2 c2, .slice A3 n3 c3, .slice A4 n4 c4, .slice A5 n5 c5, .slice A6 n6 c6] 29)) := (Below.refl _ _).alloc (Nat.le_refl _) _
                    have hx5 : Blk (w4.alloc (.cells #[.slice A1 n1 c1, .slice A2 n2 c2, .slice A3 n3 c3, .slice A4 n4 c4, .slice A5 n5 c5, .slice A6 n6 c6] 29)) w4.heap.size 29 #[.slice A1 n1 c1, .slice A2 n2 c2, .slice A3 n3 c3, .slice A4 n4 c4, .slice A5 n5 c5, .slice A6 n6 c6] := Blk.new _ _ _
                    have HB5 := Lib.hid (below_step HB4.out hal)
                    have HK5 := Lib.hid (HK4.out.below hal HK4.out.lt)
                    have HLX : Hid (w.heap.size ≤ w4.heap.size) := Lib.hid HB4.out.size
                    obtain ⟨gx, hgx⟩ : ∃ g, g = w4.heap.size := ⟨_, rfl⟩
                    rw [← hgx] at hx5 HLX ⊢
                    generalize w4.alloc (.cells #[.slice A1 n1 c1, .slice A2 n2 c2, .slice A3 n3 c3, .slice A4 n4 c4, .slice A5 n5 c5, .slice A6 n6 c6] 29) = w5 at hx5 HB5 HK5 ⊢
                    have HX5 := Lib.hid hx5
                    clear hx5 hgx hal HB4 HK4 k0 k1 k2 k3 k4 k5 lg hnk hltk hk
                    have hmod : a % 5 = 0 ∨ a % 5 = 1 ∨ a % 5 = 2 ∨ a % 5 = 3 ∨ a % 5 = 4 := by omega
                    have HMOD := Lib.hid hmod
                    clear hmod
                    go_upto_block 10 with fail
                    generalize a % 5 = am at HMOD ⊢
                    go_cut [15] from 16 to 190 (fun _ wx => ∃ (cs : List Value) (x : QSource), Blk wx gx 29 cs.toArray ∧ Below w.heap.size w wx ∧ qSourceR wx cs x ∧ resolveP x = (110, noSource))
                    case first =>
                      have hmod := HMOD.out
                      clear HMOD
                      rcases hmod with rfl | rfl | rfl | rfl | rfl
                      · have qs := HK5.out.cell 2
                        simp only [List.getElem?_toArray, List.getElem?_cons_zero, List.getElem?_cons_succ] at qs
                        have lg := HK5.out.lt
                        have lx := HX5.out.lt
                        go_wp2_with (first
                          | (at_builtin; refine wpList_append_row _ rfl (.tmp 120) (.tmp 122) 24 40 rfl j3 _ 96 Try.underlying24 I3.out Z3.out.1 Z3.out.2.1 Z3.out.2.2 rfl (by decide) (R := fun _ => qSchemaR w) (fun _ => qSchemaR_one w) w5.heap.size (.slice (some ⟨w5.heap.size, 0, none⟩) 0 0) 0 [] rfl (World.ownsRow_lit w5 #[] 0 (Nat.le_refl _) (Nat.zero_le _) rfl) A3 n3 c3 s.schemas rfl ((src_parts HS.out).2.2.1.1.fix (HB5.out.alloc HB5.out.size _)) (by have := HLN3.out; unfold maxLen; omega) (by have := HLN3.out; omega) (by simp) ?_
                             intro v1 w6 cs hcs1 ho1 hgr1 hat1
                             have hcs1 : CellsR 6 qSchemaR w cs s.schemas := ⟨hcs1.1, hcs1.2⟩
                             have hb6 : Below w5.heap.size w5 w6 := ((Below.refl _ _).alloc (Nat.le_refl _) _).grown hgr1 (by simp) (by simp [Value.ownBlock])
                             rw [Nat.zero_add, List.nil_append] at ho1
                             obtain ⟨vA, vn, vc, rfl, hvn⟩ := own_form' ho1
                             have HVN := Lib.hid hvn
                             have HO6 := Lib.hid ho1
                             have HC6 := Lib.hid hcs1
                             have HB6 := Lib.hid hb6
                             clear hcs1 ho1 hgr1 hat1 hvn hb6)
                          | (at_builtin; refine wpList_append_own_at _ rfl (.tmp 123) (.tmp 127) 24 rfl w5.heap.size 40 j3 _ 6 96 Try.underlying24 I3.out Z3.out.1 Z3.out.2.1 Z3.out.2.2 rfl (by decide) (.slice vA vn vc) n3 cs rfl (HO6.out.alloc _) ⟨w6.heap.size, 0, none⟩ 1 1 [.string L, .string L, .int .i64 0, .int .i64 0, .slice none 0 0, .slice none 0 0] rfl rfl (blk_news (Blk.new _ _ _)) (by intro u hu; simp only [List.mem_cons, List.not_mem_nil, or_false] at hu; rcases hu with rfl | rfl | rfl | rfl | rfl | rfl <;> rfl) (by have := HLN3.out; unfold maxLen; omega) (by have := HLN3.out; omega) (by have := HB6.out.size; simp; omega) ?_
                             intro v' w7 hown hgrow hnil hat
                             obtain ⟨vA', vn', vc', rfl, hvn'⟩ := own_form' hown
                             have hb7 : Below w5.heap.size w5 w7 := (HB6.out.alloc HB6.out.size _).grown hgrow (by have := HB6.out.size; simp; omega) (fun r e => (HO6.out.lt r e).1)
                             have HVN' := Lib.hid hvn'
                             have HO7 := Lib.hid hown
                             have HB7 := Lib.hid hb7
                             have hx7 := HX5.out.below hb7 lx
                             have q7 := hx7.cell 2
                             have f7 := hx7.frozen 2
                             simp only [List.getElem?_toArray, List.getElem?_cons_zero, List.getElem?_cons_succ] at q7
                             have lx7 := hx7.lt
                             have HX7 := Lib.hid hx7
                             clear hown hgrow hnil hat hvn' hb7 hx7))
                        go_meet
                        have hx8 : Blk (w7.setCell ⟨gx, 2, none⟩ (.slice vA' vn' vc')) gx 29 [.slice A1 n1 c1, .slice A2 n2 c2, .slice vA' vn' vc', .slice A4 n4 c4, .slice A5 n5 c5, .slice A6 n6 c6].toArray := HX7.out.put 2 _
                        have hb8 : Below w.heap.size w (w7.setCell ⟨gx, 2, none⟩ (.slice vA' vn' vc')) := (below_step HB5.out HB7.out).setCell (by have := HLX.out; exact this) _
                        have ho8 := own_far HO7.out (show (⟨gx, 2, none⟩ : Addr).block < w5.heap.size from lx) (.slice vA' vn' vc')
                        generalize (w7.setCell ⟨gx, 2, none⟩ (.slice vA' vn' vc')) = w8 at hx8 hb8 ho8 ⊢
                        have HS8 := Lib.hid (qSourceR_mono _ _ hb8 _ _ HS.out)
                        have hnew : SlB 6 96 qSchemaR w8 (.slice vA' vn' vc') (s.schemas ++ [(⟨L, L, 0, 0, [], []⟩ : QSchema)]) := slB_more ho8 (HC6.out.mono qSchemaR_mono hb8) rfl (show qSchemaR w8 _ (⟨L, L, 0, 0, [], []⟩ : QSchema) from ⟨none, 0, 0, none, 0, 0, rfl, nilB, nilB⟩) (HLE3.out) (by have := HLN3.out; have := HLE3.out; omega)
                        have HSN : Hid (qSourceR w8 [.slice A1 n1 c1, .slice A2 n2 c2, .slice vA' vn' vc', .slice A4 n4 c4, .slice A5 n5 c5, .slice A6 n6 c6] { s with schemas := s.schemas ++ [(⟨L, L, 0, 0, [], []⟩ : QSchema)] }) := Lib.hid (let hp := src_parts HS8.out; src_whole hp.1 hp.2.1 hnew hp.2.2.2.1 hp.2.2.2.2.1 hp.2.2.2.2.2)
                        have HRM : Hid (resolveP { s with schemas := s.schemas ++ [(⟨L, L, 0, 0, [], []⟩ : QSchema)] } = (110, noSource)) := Lib.hid (miss0 htw.out HNI.out)
                        exact ⟨_, _, hx8, hb8, HSN.out, HRM.out⟩
                      · have qs := HK5.out.cell 1
                        simp only [List.getElem?_toArray, List.getElem?_cons_zero, List.getElem?_cons_succ] at qs
                        have lg := HK5.out.lt
                        have lx := HX5.out.lt
                        go_wp2_with (first
                          | (at_builtin; refine wpList_append_row _ rfl (.tmp 132) (.tmp 134) 23 47 rfl j2 _ 56 Try.underlying23 I2.out Z2.out.1 Z2.out.2.1 Z2.out.2.2 rfl (by decide) (R := fun _ => qUnitR w) (fun _ => qUnitR_one w) w5.heap.size (.slice (some ⟨w5.heap.size, 0, none⟩) 0 0) 0 [] rfl (World.ownsRow_lit w5 #[] 0 (Nat.le_refl _) (Nat.zero_le _) rfl) A2 n2 c2 s.units rfl ((src_parts HS.out).2.1.1.fix (HB5.out.alloc HB5.out.size _)) (by have := HLN2.out; unfold maxLen; omega) (by have := HLN2.out; omega) (by simp) ?_
                             intro v1 w6 cs hcs1 ho1 hgr1 hat1
                             have hcs1 : CellsR 5 qUnitR w cs s.units := ⟨hcs1.1, hcs1.2⟩
                             have hb6 : Below w5.heap.size w5 w6 := ((Below.refl _ _).alloc (Nat.le_refl _) _).grown hgr1 (by simp) (by simp [Value.ownBlock])
                             rw [Nat.zero_add, List.nil_append] at ho1
                             obtain ⟨vA, vn, vc, rfl, hvn⟩ := own_form' ho1
                             have HVN := Lib.hid hvn
                             have HO6 := Lib.hid ho1
                             have HC6 := Lib.hid hcs1
                             have HB6 := Lib.hid hb6
                             clear hcs1 ho1 hgr1 hat1 hvn hb6)
                          | (at_builtin; refine wpList_append_own_at _ rfl (.tmp 135) (.tmp 139) 23 rfl w5.heap.size 47 j2 _ 5 56 Try.underlying23 I2.out Z2.out.1 Z2.out.2.1 Z2.out.2.2 rfl (by decide) (.slice vA vn vc) n2 cs rfl (HO6.out.alloc _) ⟨w6.heap.size, 0, none⟩ 1 1 [.string L, .string L, .int .i64 2, .int .i64 0, .int .i64 0] rfl rfl (blk_news (Blk.new _ _ _)) (by intro u hu; simp only [List.mem_cons, List.not_mem_nil, or_false] at hu; rcases hu with rfl | rfl | rfl | rfl | rfl <;> rfl) (by have := HLN2.out; unfold maxLen; omega) (by have := HLN2.out; omega) (by have := HB6.out.size; simp; omega) ?_
                             intro v' w7 hown hgrow hnil hat
                             obtain ⟨vA', vn', vc', rfl, hvn'⟩ := own_form' hown
                             have hb7 : Below w5.heap.size w5 w7 := (HB6.out.alloc HB6.out.size _).grown hgrow (by have := HB6.out.size; simp; omega) (fun r e => (HO6.out.lt r e).1)
                             have HVN' := Lib.hid hvn'
                             have HO7 := Lib.hid hown
                             have HB7 := Lib.hid hb7
                             have hx7 := HX5.out.below hb7 lx
                             have q7 := hx7.cell 1
                             have f7 := hx7.frozen 1
                             simp only [List.getElem?_toArray, List.getElem?_cons_zero, List.getElem?_cons_succ] at q7
                             have lx7 := hx7.lt
                             have HX7 := Lib.hid hx7
                             clear hown hgrow hnil hat hvn' hb7 hx7))
                        go_meet
                        have hx8 : Blk (w7.setCell ⟨gx, 1, none⟩ (.slice vA' vn' vc')) gx 29 [.slice A1 n1 c1, .slice vA' vn' vc', .slice A3 n3 c3, .slice A4 n4 c4, .slice A5 n5 c5, .slice A6 n6 c6].toArray := HX7.out.put 1 _
                        have hb8 : Below w.heap.size w (w7.setCell ⟨gx, 1, none⟩ (.slice vA' vn' vc')) := (below_step HB5.out HB7.out).setCell (by have := HLX.out; exact this) _
                        have ho8 := own_far HO7.out (show (⟨gx, 1, none⟩ : Addr).block < w5.heap.size from lx) (.slice vA' vn' vc')
                        generalize (w7.setCell ⟨gx, 1, none⟩ (.slice vA' vn' vc')) = w8 at hx8 hb8 ho8 ⊢
                        have HS8 := Lib.hid (qSourceR_mono _ _ hb8 _ _ HS.out)
                        have hnew : SlB 5 56 qUnitR w8 (.slice vA' vn' vc') (s.units ++ [(⟨L, L, 2, 0, 0⟩ : QUnit)]) := slB_more ho8 (HC6.out.mono qUnitR_mono hb8) rfl (show qUnitR w8 _ (⟨L, L, 2, 0, 0⟩ : QUnit) from rfl) (HLE2.out) (by have := HLN2.out; have := HLE2.out; omega)
                        have HSN : Hid (qSourceR w8 [.slice A1 n1 c1, .slice vA' vn' vc', .slice A3 n3 c3, .slice A4 n4 c4, .slice A5 n5 c5, .slice A6 n6 c6] { s with units := s.units ++ [(⟨L, L, 2, 0, 0⟩ : QUnit)] }) := Lib.hid (let hp := src_parts HS8.out; src_whole hp.1 hnew hp.2.2.1 hp.2.2.2.1 hp.2.2.2.2.1 hp.2.2.2.2.2)
                        have HRM : Hid (resolveP { s with units := s.units ++ [(⟨L, L, 2, 0, 0⟩ : QUnit)] } = (110, noSource)) := Lib.hid (miss1 htw.out HNI.out)
                        exact ⟨_, _, hx8, hb8, HSN.out, HRM.out⟩
                      · have qs := HK5.out.cell 3
                        simp only [List.getElem?_toArray, List.getElem?_cons_zero, List.getElem?_cons_succ] at qs
                        have lg := HK5.out.lt
                        have lx := HX5.out.lt
                        go_wp2_with (first
                          | (at_builtin; refine wpList_append_row _ rfl (.tmp 144) (.tmp 146) 25 56 rfl j4 _ 96 Try.underlying25 I4.out Z4.out.1 Z4.out.2.1 Z4.out.2.2 rfl (by decide) (R := fun _ => qRuleR w) (fun _ => qRuleR_one w) w5.heap.size (.slice (some ⟨w5.heap.size, 0, none⟩) 0 0) 0 [] rfl (World.ownsRow_lit w5 #[] 0 (Nat.le_refl _) (Nat.zero_le _) rfl) A4 n4 c4 s.rules rfl ((src_parts HS.out).2.2.2.1.1.fix (HB5.out.alloc HB5.out.size _)) (by have := HLN4.out; unfold maxLen; omega) (by have := HLN4.out; omega) (by simp) ?_
                             intro v1 w6 cs hcs1 ho1 hgr1 hat1
                             have hcs1 : CellsR 5 qRuleR w cs s.rules := ⟨hcs1.1, hcs1.2⟩
                             have hb6 : Below w5.heap.size w5 w6 := ((Below.refl _ _).alloc (Nat.le_refl _) _).grown hgr1 (by simp) (by simp [Value.ownBlock])
                             rw [Nat.zero_add, List.nil_append] at ho1
                             obtain ⟨vA, vn, vc, rfl, hvn⟩ := own_form' ho1
                             have HVN := Lib.hid hvn
                             have HO6 := Lib.hid ho1
                             have HC6 := Lib.hid hcs1
                             have HB6 := Lib.hid hb6
                             clear hcs1 ho1 hgr1 hat1 hvn hb6)
                          | (at_builtin; refine wpList_append_own_at _ rfl (.tmp 147) (.tmp 150) 25 rfl w5.heap.size 56 j4 _ 5 96 Try.underlying25 I4.out Z4.out.1 Z4.out.2.1 Z4.out.2.2 rfl (by decide) (.slice vA vn vc) n4 cs rfl (HO6.out.alloc _) ⟨w6.heap.size, 0, none⟩ 1 1 [.string L, .int .i64 0, .slice none 0 0, .slice none 0 0, .slice none 0 0] rfl rfl (blk_news (Blk.new _ _ _)) (by intro u hu; simp only [List.mem_cons, List.not_mem_nil, or_false] at hu; rcases hu with rfl | rfl | rfl | rfl | rfl <;> rfl) (by have := HLN4.out; unfold maxLen; omega) (by have := HLN4.out; omega) (by have := HB6.out.size; simp; omega) ?_
                             intro v' w7 hown hgrow hnil hat
                             obtain ⟨vA', vn', vc', rfl, hvn'⟩ := own_form' hown
                             have hb7 : Below w5.heap.size w5 w7 := (HB6.out.alloc HB6.out.size _).grown hgrow (by have := HB6.out.size; simp; omega) (fun r e => (HO6.out.lt r e).1)
                             have HVN' := Lib.hid hvn'
                             have HO7 := Lib.hid hown
                             have HB7 := Lib.hid hb7
                             have hx7 := HX5.out.below hb7 lx
                             have q7 := hx7.cell 3
                             have f7 := hx7.frozen 3
                             simp only [List.getElem?_toArray, List.getElem?_cons_zero, List.getElem?_cons_succ] at q7
                             have lx7 := hx7.lt
                             have HX7 := Lib.hid hx7
                             clear hown hgrow hnil hat hvn' hb7 hx7))
                        go_meet
                        have hx8 : Blk (w7.setCell ⟨gx, 3, none⟩ (.slice vA' vn' vc')) gx 29 [.slice A1 n1 c1, .slice A2 n2 c2, .slice A3 n3 c3, .slice vA' vn' vc', .slice A5 n5 c5, .slice A6 n6 c6].toArray := HX7.out.put 3 _
                        have hb8 : Below w.heap.size w (w7.setCell ⟨gx, 3, none⟩ (.slice vA' vn' vc')) := (below_step HB5.out HB7.out).setCell (by have := HLX.out; exact this) _
                        have ho8 := own_far HO7.out (show (⟨gx, 3, none⟩ : Addr).block < w5.heap.size from lx) (.slice vA' vn' vc')
                        generalize (w7.setCell ⟨gx, 3, none⟩ (.slice vA' vn' vc')) = w8 at hx8 hb8 ho8 ⊢
                        have HS8 := Lib.hid (qSourceR_mono _ _ hb8 _ _ HS.out)
                        have hnew : SlB 5 96 qRuleR w8 (.slice vA' vn' vc') (s.rules ++ [(⟨L, 0, [], [], []⟩ : QRule)]) := slB_more ho8 (HC6.out.mono qRuleR_mono hb8) rfl (show qRuleR w8 _ (⟨L, 0, [], [], []⟩ : QRule) from ⟨none, 0, 0, none, 0, 0, none, 0, 0, rfl, nilB, nilB, nilB⟩) (HLE4.out) (by have := HLN4.out; have := HLE4.out; omega)
                        have HSN : Hid (qSourceR w8 [.slice A1 n1 c1, .slice A2 n2 c2, .slice A3 n3 c3, .slice vA' vn' vc', .slice A5 n5 c5, .slice A6 n6 c6] { s with rules := s.rules ++ [(⟨L, 0, [], [], []⟩ : QRule)] }) := Lib.hid (let hp := src_parts HS8.out; src_whole hp.1 hp.2.1 hp.2.2.1 hnew hp.2.2.2.2.1 hp.2.2.2.2.2)
                        have HRM : Hid (resolveP { s with rules := s.rules ++ [(⟨L, 0, [], [], []⟩ : QRule)] } = (110, noSource)) := Lib.hid (miss2 htw.out HNI.out)
                        exact ⟨_, _, hx8, hb8, HSN.out, HRM.out⟩
                      · have qs := HK5.out.cell 4
                        simp only [List.getElem?_toArray, List.getElem?_cons_zero, List.getElem?_cons_succ] at qs
                        have lg := HK5.out.lt
                        have lx := HX5.out.lt
                        go_wp2_with (first
                          | (at_builtin; refine wpList_append_row _ rfl (.tmp 155) (.tmp 157) 26 69 rfl j5 _ 72 Try.underlying26 I5.out Z5.out.1 Z5.out.2.1 Z5.out.2.2 rfl (by decide) (R := fun _ => qConvertR w) (fun _ => qConvertR_one w) w5.heap.size (.slice (some ⟨w5.heap.size, 0, none⟩) 0 0) 0 [] rfl (World.ownsRow_lit w5 #[] 0 (Nat.le_refl _) (Nat.zero_le _) rfl) A5 n5 c5 s.converts rfl ((src_parts HS.out).2.2.2.2.1.1.fix (HB5.out.alloc HB5.out.size _)) (by have := HLN5.out; unfold maxLen; omega) (by have := HLN5.out; omega) (by simp) ?_
                             intro v1 w6 cs hcs1 ho1 hgr1 hat1
                             have hcs1 : CellsR 5 qConvertR w cs s.converts := ⟨hcs1.1, hcs1.2⟩
                             have hb6 : Below w5.heap.size w5 w6 := ((Below.refl _ _).alloc (Nat.le_refl _) _).grown hgr1 (by simp) (by simp [Value.ownBlock])
                             rw [Nat.zero_add, List.nil_append] at ho1
                             obtain ⟨vA, vn, vc, rfl, hvn⟩ := own_form' ho1
                             have HVN := Lib.hid hvn
                             have HO6 := Lib.hid ho1
                             have HC6 := Lib.hid hcs1
                             have HB6 := Lib.hid hb6
                             clear hcs1 ho1 hgr1 hat1 hvn hb6)
                          | (at_builtin; refine wpList_append_own_at _ rfl (.tmp 158) (.tmp 162) 26 rfl w5.heap.size 69 j5 _ 5 72 Try.underlying26 I5.out Z5.out.1 Z5.out.2.1 Z5.out.2.2 rfl (by decide) (.slice vA vn vc) n5 cs rfl (HO6.out.alloc _) ⟨w6.heap.size, 0, none⟩ 1 1 [.string L, .string L, .int .i64 0, .int .i64 0, .slice none 0 0] rfl rfl (blk_news (Blk.new _ _ _)) (by intro u hu; simp only [List.mem_cons, List.not_mem_nil, or_false] at hu; rcases hu with rfl | rfl | rfl | rfl | rfl <;> rfl) (by have := HLN5.out; unfold maxLen; omega) (by have := HLN5.out; omega) (by have := HB6.out.size; simp; omega) ?_
                             intro v' w7 hown hgrow hnil hat
                             obtain ⟨vA', vn', vc', rfl, hvn'⟩ := own_form' hown
                             have hb7 : Below w5.heap.size w5 w7 := (HB6.out.alloc HB6.out.size _).grown hgrow (by have := HB6.out.size; simp; omega) (fun r e => (HO6.out.lt r e).1)
                             have HVN' := Lib.hid hvn'
                             have HO7 := Lib.hid hown
                             have HB7 := Lib.hid hb7
                             have hx7 := HX5.out.below hb7 lx
                             have q7 := hx7.cell 4
                             have f7 := hx7.frozen 4
                             simp only [List.getElem?_toArray, List.getElem?_cons_zero, List.getElem?_cons_succ] at q7
                             have lx7 := hx7.lt
                             have HX7 := Lib.hid hx7
                             clear hown hgrow hnil hat hvn' hb7 hx7))
                        go_meet
                        have hx8 : Blk (w7.setCell ⟨gx, 4, none⟩ (.slice vA' vn' vc')) gx 29 [.slice A1 n1 c1, .slice A2 n2 c2, .slice A3 n3 c3, .slice A4 n4 c4, .slice vA' vn' vc', .slice A6 n6 c6].toArray := HX7.out.put 4 _
                        have hb8 : Below w.heap.size w (w7.setCell ⟨gx, 4, none⟩ (.slice vA' vn' vc')) := (below_step HB5.out HB7.out).setCell (by have := HLX.out; exact this) _
                        have ho8 := own_far HO7.out (show (⟨gx, 4, none⟩ : Addr).block < w5.heap.size from lx) (.slice vA' vn' vc')
                        generalize (w7.setCell ⟨gx, 4, none⟩ (.slice vA' vn' vc')) = w8 at hx8 hb8 ho8 ⊢
                        have HS8 := Lib.hid (qSourceR_mono _ _ hb8 _ _ HS.out)
                        have hnew : SlB 5 72 qConvertR w8 (.slice vA' vn' vc') (s.converts ++ [(⟨L, L, 0, 0, []⟩ : QConvert)]) := slB_more ho8 (HC6.out.mono qConvertR_mono hb8) rfl (show qConvertR w8 _ (⟨L, L, 0, 0, []⟩ : QConvert) from ⟨none, 0, 0, rfl, nilB⟩) (HLE5.out) (by have := HLN5.out; have := HLE5.out; omega)
                        have HSN : Hid (qSourceR w8 [.slice A1 n1 c1, .slice A2 n2 c2, .slice A3 n3 c3, .slice A4 n4 c4, .slice vA' vn' vc', .slice A6 n6 c6] { s with converts := s.converts ++ [(⟨L, L, 0, 0, []⟩ : QConvert)] }) := Lib.hid (let hp := src_parts HS8.out; src_whole hp.1 hp.2.1 hp.2.2.1 hp.2.2.2.1 hnew hp.2.2.2.2.2)
                        have HRM : Hid (resolveP { s with converts := s.converts ++ [(⟨L, L, 0, 0, []⟩ : QConvert)] } = (110, noSource)) := Lib.hid (miss3 htw.out HNI.out)
                        exact ⟨_, _, hx8, hb8, HSN.out, HRM.out⟩
                      · have qs := HK5.out.cell 5
                        simp only [List.getElem?_toArray, List.getElem?_cons_zero, List.getElem?_cons_succ] at qs
                        have lg := HK5.out.lt
                        have lx := HX5.out.lt
                        go_wp2_with (first
                          | (at_builtin; refine wpList_append_row _ rfl (.tmp 167) (.tmp 169) 27 74 rfl j6 _ 48 Try.underlying27 I6.out Z6.out.1 Z6.out.2.1 Z6.out.2.2 rfl (by decide) (R := fun _ => qPurposeR w) (fun _ => qPurposeR_one w) w5.heap.size (.slice (some ⟨w5.heap.size, 0, none⟩) 0 0) 0 [] rfl (World.ownsRow_lit w5 #[] 0 (Nat.le_refl _) (Nat.zero_le _) rfl) A6 n6 c6 s.purposes rfl ((src_parts HS.out).2.2.2.2.2.1.fix (HB5.out.alloc HB5.out.size _)) (by have := HLN6.out; unfold maxLen; omega) (by have := HLN6.out; omega) (by simp) ?_
                             intro v1 w6 cs hcs1 ho1 hgr1 hat1
                             have hcs1 : CellsR 3 qPurposeR w cs s.purposes := ⟨hcs1.1, hcs1.2⟩
                             have hb6 : Below w5.heap.size w5 w6 := ((Below.refl _ _).alloc (Nat.le_refl _) _).grown hgr1 (by simp) (by simp [Value.ownBlock])
                             rw [Nat.zero_add, List.nil_append] at ho1
                             obtain ⟨vA, vn, vc, rfl, hvn⟩ := own_form' ho1
                             have HVN := Lib.hid hvn
                             have HO6 := Lib.hid ho1
                             have HC6 := Lib.hid hcs1
                             have HB6 := Lib.hid hb6
                             clear hcs1 ho1 hgr1 hat1 hvn hb6)
                          | (at_builtin; refine wpList_append_own_at _ rfl (.tmp 170) (.tmp 176) 27 rfl w5.heap.size 74 j6 _ 3 48 Try.underlying27 I6.out Z6.out.1 Z6.out.2.1 Z6.out.2.2 rfl (by decide) (.slice vA vn vc) n6 cs rfl ((HO6.out.alloc _).alloc _) ⟨w6.heap.size + 1, 0, none⟩ 1 1 [.string L, .slice (some ⟨w6.heap.size, 0, none⟩) 1 1, .int .i64 0] rfl rfl (blk_news (by have h := Blk.new (w6.alloc (.cells #[.string L, .string ⟨#[]⟩, .int .i64 0, .int .i64 0] 76)) 74 #[.string L, .slice (some ⟨w6.heap.size, 0, none⟩) 1 1, .int .i64 0]; simpa using h)) (by intro u hu; simp only [List.mem_cons, List.not_mem_nil, or_false] at hu; rcases hu with rfl | rfl | rfl <;> rfl) (by have := HLN6.out; unfold maxLen; omega) (by have := HLN6.out; omega) (by have := HB6.out.size; simp; omega) ?_
                             intro v' w7 hown hgrow hnil hat
                             obtain ⟨vA', vn', vc', rfl, hvn'⟩ := own_form' hown
                             have hb7 : Below w5.heap.size w5 w7 := ((HB6.out.alloc HB6.out.size _).alloc (by have := HB6.out.size; simp; omega) _).grown hgrow (by have := HB6.out.size; simp; omega) (fun r e => (HO6.out.lt r e).1)
                             have hrf : Blk w7 w6.heap.size 76 #[.string L, .string ⟨#[]⟩, .int .i64 0, .int .i64 0] := ((Blk.new w6 _ _).alloc _).grown hgrow (fun e => by have := (HO6.out.lt _ e.symm).2; omega)
                             have HRF := Lib.hid hrf
                             clear hrf
                             have HVN' := Lib.hid hvn'
                             have HO7 := Lib.hid hown
                             have HB7 := Lib.hid hb7
                             have hx7 := HX5.out.below hb7 lx
                             have q7 := hx7.cell 5
                             have f7 := hx7.frozen 5
                             simp only [List.getElem?_toArray, List.getElem?_cons_zero, List.getElem?_cons_succ] at q7
                             have lx7 := hx7.lt
                             have HX7 := Lib.hid hx7
                             clear hown hgrow hnil hat hvn' hb7 hx7))
                        go_meet
                        have hx8 : Blk (w7.setCell ⟨gx, 5, none⟩ (.slice vA' vn' vc')) gx 29 [.slice A1 n1 c1, .slice A2 n2 c2, .slice A3 n3 c3, .slice A4 n4 c4, .slice A5 n5 c5, .slice vA' vn' vc'].toArray := HX7.out.put 5 _
                        have hb8 : Below w.heap.size w (w7.setCell ⟨gx, 5, none⟩ (.slice vA' vn' vc')) := (below_step HB5.out HB7.out).setCell (by have := HLX.out; exact this) _
                        have ho8 := own_far HO7.out (show (⟨gx, 5, none⟩ : Addr).block < w5.heap.size from lx) (.slice vA' vn' vc')
                        have hr8 := HRF.out.far (p := ⟨gx, 5, none⟩) (show w6.heap.size ≠ gx by have := HB6.out.size; omega) (.slice vA' vn' vc')
                        generalize (w7.setCell ⟨gx, 5, none⟩ (.slice vA' vn' vc')) = w8 at hx8 hb8 ho8 hr8 ⊢
                        have HS8 := Lib.hid (qSourceR_mono _ _ hb8 _ _ HS.out)
                        have HREF : Hid (SlB 4 48 qRefR w8 (.slice (some ⟨w6.heap.size, 0, none⟩) 1 1) [(⟨L, noStr, 0, 0⟩ : QRef)]) := Lib.hid (slB_blk (l := [(⟨L, noStr, 0, 0⟩ : QRef)]) (cs := [.string L, .string ⟨#[]⟩, .int .i64 0, .int .i64 0]) hr8 (CellsR.one rfl rfl) (by simp) (by unfold maxLen; simp))
                        have hnew : SlB 3 48 qPurposeR w8 (.slice vA' vn' vc') (s.purposes ++ [(⟨L, [⟨L, noStr, 0, 0⟩], 0⟩ : QPurpose)]) := slB_more ho8 (HC6.out.mono qPurposeR_mono hb8) rfl (show qPurposeR w8 _ (⟨L, [⟨L, noStr, 0, 0⟩], 0⟩ : QPurpose) from ⟨_, _, _, rfl, HREF.out⟩) (HLE6.out) (by have := HLN6.out; have := HLE6.out; omega)
                        have HSN : Hid (qSourceR w8 [.slice A1 n1 c1, .slice A2 n2 c2, .slice A3 n3 c3, .slice A4 n4 c4, .slice A5 n5 c5, .slice vA' vn' vc'] { s with purposes := s.purposes ++ [(⟨L, [⟨L, noStr, 0, 0⟩], 0⟩ : QPurpose)] }) := Lib.hid (let hp := src_parts HS8.out; src_whole hp.1 hp.2.1 hp.2.2.1 hp.2.2.2.1 hp.2.2.2.2.1 hnew)
                        have HRM : Hid (resolveP { s with purposes := s.purposes ++ [(⟨L, [⟨L, noStr, 0, 0⟩], 0⟩ : QPurpose)] } = (110, noSource)) := Lib.hid (miss4 htw.out HNI.out)
                        exact ⟨_, _, hx8, hb8, HSN.out, HRM.out⟩
                    case rest =>
                      as_aux_lemma =>
                        obtain ⟨csn, sn, hx8, hb8, hsn, hrm⟩ := hcut
                        obtain ⟨Y1, m1, d1, Y2, m2, d2, Y3, m3, d3, Y4, m4, d4, Y5, m5, d5, Y6, m6, d6, rfl, -⟩ := id hsn
                        obtain ⟨w8, rfl⟩ : ∃ x, x = wc := ⟨_, rfl⟩
                        have HSN := Lib.hid hsn
                        have HRM := Lib.hid hrm
                        have HB8 := Lib.hid hb8
                        obtain ⟨k0, k1, k2, k3, k4, k5⟩ := six_cells hx8 (Below.refl _ _)
                        clear hsn hrm hb8 hx8 HX5 HK5 HB5
                        go_wp2_with fail
                        with_reducible refine (resolve_src [.slice Y1 m1 d1, .slice Y2 m2 d2, .slice Y3 m3 d3, .slice Y4 m4 d4, .slice Y5 m5 d5, .slice Y6 m6 d6] sn w8 HSN.out).mono ?_
                        rintro e w9 ⟨cs9, rfl, hx9, hb9⟩
                        rw [HRM.out] at hx9 ⊢
                        have HX9 := Lib.hid hx9
                        obtain ⟨X1, p1, q1, X2, p2, q2, X3, p3, q3, X4, p4, q4, X5, p5, q5, X6, p6, q6, rfl, -⟩ := hx9
                        have HB9 := Lib.hid (below_step HB8.out hb9)
                        clear k0 k1 k2 k3 k4 k5 hb9 HB8 HSN HRM
                        go_upto_region 42 with fail
                        have hal : Below w9.heap.size w9 (w9.alloc (.cells #[.slice X1 p1 q1, .slice X2 p2 q2, .slice X3 p3 q3, .slice X4 p4 q4, .slice X5 p5 q5, .slice X6 p6 q6] 29)) := (Below.refl _ _).alloc (Nat.le_refl _) _
                        have hxa : Blk (w9.alloc (.cells #[.slice X1 p1 q1, .slice X2 p2 q2, .slice X3 p3 q3, .slice X4 p4 q4, .slice X5 p5 q5, .slice X6 p6 q6] 29)) w9.heap.size 29 #[.slice X1 p1 q1, .slice X2 p2 q2, .slice X3 p3 q3, .slice X4 p4 q4, .slice X5 p5 q5, .slice X6 p6 q6] := Blk.new _ _ _
                        have HBA := Lib.hid (below_step HB9.out hal)
                        have XS := Lib.hid (qSourceR_mono _ _ hal _ _ HX9.out)
                        obtain ⟨gy, hgy⟩ : ∃ g, g = w9.heap.size := ⟨_, rfl⟩
                        rw [← hgy] at hxa ⊢
                        generalize w9.alloc (.cells #[.slice X1 p1 q1, .slice X2 p2 q2, .slice X3 p3 q3, .slice X4 p4 q4, .slice X5 p5 q5, .slice X6 p6 q6] 29) = wA at hxa HBA XS ⊢
                        obtain ⟨k0, k1, k2, k3, k4, k5⟩ := six_cells hxa (Below.refl _ _)
                        clear hxa hgy hal HB9 HX9
                        go_wp2_with fail
                        with_reducible refine (same_src [.slice X1 p1 q1, .slice X2 p2 q2, .slice X3 p3 q3, .slice X4 p4 q4, .slice X5 p5 q5, .slice X6 p6 q6] [.slice none 0 0, .slice none 0 0, .slice none 0 0, .slice none 0 0, .slice none 0 0, .slice none 0 0] noSource wA XS.out (noSource_at _)).mono ?_
                        rintro e wB ⟨rfl, hbB⟩
                        have HBB := Lib.hid (below_step HBA.out hbB)
                        clear hbB k0 k1 k2 k3 k4 k5
                        go_wp2_with fail
                        go_ret
                        exact ⟨rfl, HBB.out⟩
end Go.Proofs.Ytkkkephjljiplaa
