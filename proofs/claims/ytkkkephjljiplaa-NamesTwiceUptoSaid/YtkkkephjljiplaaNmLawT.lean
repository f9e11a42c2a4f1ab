/- The law NamesTwice, where the input is not too great: it answers true. Written by gentwice.py. -/
import Derived.Test.YtkkkephjljiplaaNmMeQ
import Derived.Test.YtkkkephjljiplaaNmFew
import Derived.Deep.DeepCutAuto
import Derived.Deep.CutBlock
import Derived.Test.YtkkkephjljiplaaNmTwP
import Derived.Test.YtkkkephjljiplaaHide
import Derived.Deep.RegionHeld3
namespace Go.Proofs.Ytkkkephjljiplaa
open Go.RowKit

theorem Try.infoSource : (Try.prog.info? 29).map (fun i => (i.zero, i.size, i.bytes)) = some (some (.agg #[.slice none 0 0, .slice none 0 0, .slice none 0 0, .slice none 0 0, .slice none 0 0, .slice none 0 0]), 6, 144) := by kernel_rfl

theorem blk_news {w : World} {g : Nat} {t : TypeId} {cs : List Value} (h : Blk w g t cs.toArray) (j : Nat) (u : Value) (hu : cs[j]? = some u) : w.cell? ((⟨g, 0, none⟩ : Addr).add j) = some u := by
  rw [addr_plus, Nat.zero_add, h.cell j, List.getElem?_toArray]
  exact hu
theorem slB_more {α : Type} {sz bytes : Nat} {R : World → List Value → α → Prop} {w : World} {base : Nat} {e : TypeId} {v : Value} {n : Nat} {cs news : List Value} {l : List α} {x : α} (ho : w.ownsRow base e sz v (n + 1) (cs ++ news)) (hcs : CellsR sz R w cs l) (hl : news.length = sz) (hr : R w news x) (hn : n = l.length) (hb : (l.length + 1) * bytes ≤ 140737488355328) : SlB sz bytes R w v (l ++ [x]) :=
  ⟨slR_of_row ho (hcs.append (CellsR.one hl hr)) (by simp [hn]), by simpa using hb⟩
theorem resolve_src (cs : List Value) (s : QSource) (w : World) (h : qSourceR w cs s) : Calls Try.prog 12 #[.agg cs.toArray] w (RetResolve s w) := by
  obtain ⟨A1, n1, c1, A2, n2, c2, A3, n3, c3, A4, n4, c4, A5, n5, c5, A6, n6, c6, rfl, h1, h2, h3, h4, h5, h6⟩ := h
  exact resolve_any A1 A2 A3 A4 A5 A6 n1 c1 n2 c2 n3 c3 n4 c4 n5 c5 n6 c6 s w h1 h2 h3 h4 h5 h6

theorem two1x {s : QSource} {k : Nat} {u : QUnit} {x : ByteArray} (h : s.units[k]? = some u ∧ x = u.name) : resolveP { s with units := s.units ++ [⟨x, noStr, 0, 0, 0⟩] } = (111, noSource) := by
  obtain ⟨h, rfl⟩ := h
  exact two1 h
theorem two2x {s : QSource} {k : Nat} {u : QPurpose} {x : ByteArray} (h : s.purposes[k]? = some u ∧ x = u.name) : resolveP { s with purposes := s.purposes ++ [⟨x, [], 0⟩] } = (111, noSource) := by
  obtain ⟨h, rfl⟩ := h
  exact two2 h
theorem two3x {s : QSource} {k : Nat} {u : QSchema} {x : ByteArray} (h : s.schemas[k]? = some u ∧ x = u.name) : resolveP { s with schemas := s.schemas ++ [⟨x, noStr, 0, 0, [], []⟩] } = (111, noSource) := by
  obtain ⟨h, rfl⟩ := h
  exact two3 h

theorem slB_two {α : Type} {sz bytes : Nat} {R : World → List Value → α → Prop} {w : World} {base : Nat} {e : TypeId} {v : Value} {n : Nat} {cs news : List Value} {l r : List α} (ho : w.ownsRow base e sz v (n + 2) (cs ++ news)) (hcs : CellsR sz R w cs l) (hr : CellsR sz R w news r) (hn : n = l.length) (hb : (l.length + 2) * bytes ≤ 140737488355328) (h2 : r.length = 2) : SlB sz bytes R w v (l ++ r) :=
  ⟨slR_of_row ho (hcs.append hr) (by simp [hn, h2]), by rw [List.length_append, h2]; exact hb⟩
theorem zfields_cells (w : World) : CellsR 11 qFieldR w [.string ⟨#[122]⟩, .int .i64 0, .int .i64 0, .int .i64 0, .string ⟨#[]⟩, .int .i64 0, .slice none 0 0, .int .i64 0, .int .i64 0, .int .i64 0, .int .i64 0, .string ⟨#[122]⟩, .int .i64 0, .int .i64 0, .int .i64 0, .string ⟨#[]⟩, .int .i64 0, .slice none 0 0, .int .i64 0, .int .i64 0, .int .i64 0, .int .i64 0] [zField, zField] := cells_two (cs := [.string ⟨#[122]⟩, .int .i64 0, .int .i64 0, .int .i64 0, .string ⟨#[]⟩, .int .i64 0, .slice none 0 0, .int .i64 0, .int .i64 0, .int .i64 0, .int .i64 0]) (ds := [.string ⟨#[122]⟩, .int .i64 0, .int .i64 0, .int .i64 0, .string ⟨#[]⟩, .int .i64 0, .slice none 0 0, .int .i64 0, .int .i64 0, .int .i64 0, .int .i64 0]) ⟨none, 0, 0, rfl, nilB⟩ ⟨none, 0, 0, rfl, nilB⟩ rfl rfl
theorem zfroms_cells (w : World) : CellsR 8 qFromR w [.string ⟨#[122]⟩, .string ⟨#[]⟩, .int .i64 0, .string ⟨#[]⟩, .string ⟨#[]⟩, .int .i64 0, .int .i64 0, .int .i64 0, .string ⟨#[122]⟩, .string ⟨#[]⟩, .int .i64 0, .string ⟨#[]⟩, .string ⟨#[]⟩, .int .i64 0, .int .i64 0, .int .i64 0] [zFrom, zFrom] := cells_two (cs := [.string ⟨#[122]⟩, .string ⟨#[]⟩, .int .i64 0, .string ⟨#[]⟩, .string ⟨#[]⟩, .int .i64 0, .int .i64 0, .int .i64 0]) (ds := [.string ⟨#[122]⟩, .string ⟨#[]⟩, .int .i64 0, .string ⟨#[]⟩, .string ⟨#[]⟩, .int .i64 0, .int .i64 0, .int .i64 0]) rfl rfl rfl rfl
theorem slB_set {α : Type} {sz bytes : Nat} {R : World → List Value → α → Prop} {w : World} {base : Nat} {e : TypeId} {v u : Value} {n k j : Nat} {cs : List Value} {l : List α} {y : α} (ho : w.ownsRow base e sz v n (cs.set (k * sz + j) u)) (hcs : CellsR sz R w cs l) (hj : j < sz) (hk : k < l.length) (hr : R w ((chunk cs sz k).set j u) y) (hn : n = l.length) (hb : l.length * bytes ≤ 140737488355328) : SlB sz bytes R w v (l.set k y) :=
  ⟨slR_of_row ho (hcs.put hj hk hr) (by simp [hn]), by simpa using hb⟩

set_option maxHeartbeats 16000000 in
set_option maxRecDepth 100000 in
theorem twice_any_law (A1 A2 A3 A4 A5 A6 : Option Addr) (n1 c1 n2 c2 n3 c3 n4 c4 n5 c5 n6 c6 : Nat) (s : QSource) (a : Int) (ha0 : 0 ≤ a) (ha1 : a ≤ 255) (w : World) (h1 : SlB 1 16 strR w (.slice A1 n1 c1) s.issuers) (h2 : SlB 5 56 qUnitR w (.slice A2 n2 c2) s.units) (h3 : SlB 6 96 qSchemaR w (.slice A3 n3 c3) s.schemas) (h4 : SlB 5 96 qRuleR w (.slice A4 n4 c4) s.rules) (h5 : SlB 5 72 qConvertR w (.slice A5 n5 c5) s.converts) (h6 : SlB 3 48 qPurposeR w (.slice A6 n6 c6) s.purposes) (hbig : s.issuers.length ≤ 1048576 ∧ s.units.length ≤ 1048576 ∧ s.schemas.length ≤ 1048576 ∧ s.rules.length ≤ 1048576 ∧ s.converts.length ≤ 1048576 ∧ s.purposes.length ≤ 1048576) (hbf : ∀ y ∈ s.schemas, y.fields.length ≤ 1048576) (hbr : ∀ r ∈ s.rules, r.froms.length ≤ 1048576) :
    Calls Try.prog 7 #[.agg #[.slice A1 n1 c1, .slice A2 n2 c2, .slice A3 n3 c3, .slice A4 n4 c4, .slice A5 n5 c5, .slice A6 n6 c6], .int .u8 a] w fun e w' => e = .returned (.bool true) ∧ Below w.heap.size w w' := by
  have HLE1 := Lib.hid h1.1.len
  have HLE2 := Lib.hid h2.1.len
  have HLE3 := Lib.hid h3.1.len
  have HLE4 := Lib.hid h4.1.len
  have HLE5 := Lib.hid h5.1.len
  have HLE6 := Lib.hid h6.1.len
  have HLN1 : Hid (n1 ≤ 1048576) := Lib.hid (by have := h1.1.len; omega)
  have HLN2 : Hid (n2 ≤ 1048576) := Lib.hid (by have := h2.1.len; omega)
  have HLN3 : Hid (n3 ≤ 1048576) := Lib.hid (by have := h3.1.len; omega)
  have HLN4 : Hid (n4 ≤ 1048576) := Lib.hid (by have := h4.1.len; omega)
  have HLN5 : Hid (n5 ≤ 1048576) := Lib.hid (by have := h5.1.len; omega)
  have HLN6 : Hid (n6 ≤ 1048576) := Lib.hid (by have := h6.1.len; omega)
  have HBF := Lib.hid hbf
  have HBR := Lib.hid hbr
  have le1 := h1.1.le
  have le2 := h2.1.le
  have le3 := h3.1.le
  have le4 := h4.1.le
  have le6 := h6.1.le
  have HS := Lib.hid (src_whole h1 h2 h3 h4 h5 h6)
  clear h1 h2 h3 h4 h5 h6 hbig hbf hbr
  obtain ⟨j0, i0, z00, z01, z02⟩ := info_parts Try.infoSource
  have I0 := Lib.hid i0
  have Z0 := Lib.hid (And.intro z00 (And.intro z01 z02))
  clear i0 z00 z01 z02
  obtain ⟨j1, i1, z10, z11, z12⟩ := info_parts Try.infoStr
  have I1 := Lib.hid i1
  have Z1 := Lib.hid (And.intro z10 (And.intro z11 z12))
  clear i1 z10 z11 z12
  obtain ⟨j2, i2, z20, z21, z22⟩ := info_parts Try.infoUnit
  have I2 := Lib.hid i2
  have Z2 := Lib.hid (And.intro z20 (And.intro z21 z22))
  clear i2 z20 z21 z22
  obtain ⟨j3, i3, z30, z31, z32⟩ := info_parts Try.infoSchema
  have I3 := Lib.hid i3
  have Z3 := Lib.hid (And.intro z30 (And.intro z31 z32))
  clear i3 z30 z31 z32
  obtain ⟨j4, i4, z40, z41, z42⟩ := info_parts Try.infoRule
  have I4 := Lib.hid i4
  have Z4 := Lib.hid (And.intro z40 (And.intro z41 z42))
  clear i4 z40 z41 z42
  obtain ⟨j6, i6, z60, z61, z62⟩ := info_parts Try.infoPurpose
  have I6 := Lib.hid i6
  have Z6 := Lib.hid (And.intro z60 (And.intro z61 z62))
  clear i6 z60 z61 z62
  obtain ⟨j7, i7, z70, z71, z72⟩ := info_parts Try.infoField
  have I7 := Lib.hid i7
  have Z7 := Lib.hid (And.intro z70 (And.intro z71 z72))
  clear i7 z70 z71 z72
  obtain ⟨j8, i8, z80, z81, z82⟩ := info_parts Try.infoFrom
  have I8 := Lib.hid i8
  have Z8 := Lib.hid (And.intro z80 (And.intro z81 z82))
  clear i8 z80 z81 z82
  go_enter Try.func7, Try.ntmps7
  go_upto_region 1 with fail
  have hk : Blk (w.alloc (.cells #[.slice A1 n1 c1, .slice A2 n2 c2, .slice A3 n3 c3, .slice A4 n4 c4, .slice A5 n5 c5, .slice A6 n6 c6] 29)) w.heap.size 29 #[.slice A1 n1 c1, .slice A2 n2 c2, .slice A3 n3 c3, .slice A4 n4 c4, .slice A5 n5 c5, .slice A6 n6 c6] := Blk.new _ _ _
  have hb : Below w.heap.size w (w.alloc (.cells #[.slice A1 n1 c1, .slice A2 n2 c2, .slice A3 n3 c3, .slice A4 n4 c4, .slice A5 n5 c5, .slice A6 n6 c6] 29)) := (Below.refl _ _).alloc (Nat.le_refl _) _
  obtain ⟨g, hg⟩ : ∃ g, g = w.heap.size := ⟨_, rfl⟩
  rw [← hg] at hk ⊢
  generalize w.alloc (.cells #[.slice A1 n1 c1, .slice A2 n2 c2, .slice A3 n3 c3, .slice A4 n4 c4, .slice A5 n5 c5, .slice A6 n6 c6] 29) = wb at hk hb ⊢
  have HK := Lib.hid hk
  have HB := Lib.hid hb
  clear hk hb hg
  go_wp2_with fail
  refine (sane_any wb).mono ?_
  rintro e w1 ⟨rfl, hb1⟩
  have hk1 := HK.out.below hb1 HK.out.lt
  obtain ⟨k0, k1, k2, k3, k4, k5⟩ := six_cells hk1 (Below.refl _ _)
  have HK1 := Lib.hid hk1
  have HB1 := Lib.hid (below_step HB.out hb1)
  clear hk1 hb1 HK HB
  go_wp2_with fail
  have HP1 := Lib.hid (src_parts (qSourceR_mono _ _ HB1.out _ _ HS.out))
  refine (few_any A1 A2 A3 A4 A5 A6 n1 c1 n2 c2 n3 c3 n4 c4 n5 c5 n6 c6 s w1 HP1.out.2.2.1.1 HP1.out.2.2.2.1.1 HP1.out.2.2.2.2.1.1 HP1.out.2.2.2.2.2.1).mono ?_
  rintro e w2 ⟨⟨b, rfl⟩, hb2⟩
  clear k0 k1 k2 k3 k4 k5 HP1
  have HK2 := Lib.hid (HK1.out.below hb2 HK1.out.lt)
  have HB2 := Lib.hid (below_step HB1.out hb2)
  clear hb2 HB1 HK1
  cases b with
  | false =>
    go_wp2_with fail
    go_ret
    exact ⟨rfl, HB2.out⟩
  | true =>
    obtain ⟨k0, k1, k2, k3, k4, k5⟩ := six_cells HK2.out (Below.refl _ _)
    go_wp2_with fail
    have hsr := qSourceR_mono _ _ HB2.out _ _ HS.out
    with_reducible refine (resolve_src [.slice A1 n1 c1, .slice A2 n2 c2, .slice A3 n3 c3, .slice A4 n4 c4, .slice A5 n5 c5, .slice A6 n6 c6] s w2 hsr).mono ?_
    rintro e w3 ⟨cs, rfl, hx, hb3⟩
    obtain ⟨X1, p1, q1, X2, p2, q2, X3, p3, q3, X4, p4, q4, X5, p5, q5, X6, p6, q6, rfl, -⟩ := hx
    obtain ⟨ev, xv, hr⟩ : ∃ a b, resolveP s = (a, b) := ⟨_, _, rfl⟩
    rw [hr]
    have HR := Lib.hid hr
    have HB3 := Lib.hid (below_step HB2.out hb3)
    have HK3 := Lib.hid (HK2.out.below hb3 HK2.out.lt)
    clear k0 k1 k2 k3 k4 k5 hb3 HB2 HK2 hr hsr
    go_upto_region 6 with fail
    have hal : Below w3.heap.size w3 (w3.alloc (.cells #[.slice X1 p1 q1, .slice X2 p2 q2, .slice X3 p3 q3, .slice X4 p4 q4, .slice X5 p5 q5, .slice X6 p6 q6] 29)) := (Below.refl _ _).alloc (Nat.le_refl _) _
    have HB4 := Lib.hid (below_step HB3.out hal)
    have HK4 := Lib.hid (HK3.out.below hal HK3.out.lt)
    generalize w3.heap.size = gq
    generalize w3.alloc (.cells #[.slice X1 p1 q1, .slice X2 p2 q2, .slice X3 p3 q3, .slice X4 p4 q4, .slice X5 p5 q5, .slice X6 p6 q6] 29) = w4 at HB4 HK4 ⊢
    clear hal HB3 HK3
    have hrc := resolve_cases s
    rw [HR.out] at hrc
    rcases hrc with hrc | hrc | ⟨htw, x, hnum, hrc⟩
    · obtain rfl : ev = 111 := congrArg Prod.fst hrc
      clear hrc
      go_wp2_with fail
      go_ret
      exact ⟨rfl, HB4.out⟩
    · obtain rfl : ev = 110 := congrArg Prod.fst hrc
      clear hrc
      go_wp2_with fail
      go_ret
      exact ⟨rfl, HB4.out⟩
    obtain rfl : ev = 0 := congrArg Prod.fst hrc
    have htw := Lib.hid htw
    clear hrc hnum HR
    obtain ⟨k0, k1, k2, k3, k4, k5⟩ := six_cells HK4.out (Below.refl _ _)
    have lg := HK4.out.lt
    have HGL : Hid (g < w4.heap.size) := Lib.hid HK4.out.lt
    have HLL : Hid (w.heap.size ≤ w4.heap.size) := Lib.hid HB4.out.size
    go_upto_region 8 with fail
    obtain ⟨LL, hLL⟩ : ∃ x, x = w4.heap.size := ⟨_, rfl⟩
    have HLQ := Lib.hid hLL
    rw [← hLL] at HGL HLL
    clear hLL
    go_cut [7] from 36 to 36 (fun v7 wx => ∃ l : List QSource, Grow LL 29 6 qSourceR v7 l wx ∧ l.length ≤ 0 ∧ (∀ x ∈ l, resolveP x = (111, noSource)) ∧ Below w.heap.size w wx ∧ Blk wx g 29 #[.slice A1 n1 c1, .slice A2 n2 c2, .slice A3 n3 c3, .slice A4 n4 c4, .slice A5 n5 c5, .slice A6 n6 c6] ∧ LL ≤ wx.heap.size)
    case first =>
      go_wp2_with fail
      go_meet
      have hal : Below w4.heap.size w4 (w4.alloc (.cells #[] 29)) := (Below.refl _ _).alloc (Nat.le_refl _) _
      exact ⟨[], Grow.lit (Blk.new _ _ _) (by rw [HLQ.out]; exact Nat.le_refl _), Nat.le_refl _, by simp, below_step HB4.out hal, HK4.out.below hal HK4.out.lt, by rw [HLQ.out]; exact hal.size⟩
    case rest =>
      clear lg HLQ
      clear HB4 HK4 k0 k1 k2 k3 k4 k5
      obtain ⟨ll, hg, hj, ht, hbz, hkz, hlz⟩ := hcut
      obtain ⟨W0, rfl⟩ : ∃ x, x = wc := ⟨_, rfl⟩
      obtain ⟨B7, e7, rfl⟩ := hg.form
      have HG := Lib.hid hg
      have HJ := Lib.hid hj
      have HT := Lib.hid ht
      have HBz := Lib.hid hbz
      have HKz := Lib.hid hkz
      have HLZ := Lib.hid hlz
      clear hg hj ht hbz hkz hlz
      obtain ⟨k0, k1, k2, k3, k4, k5⟩ := six_cells HKz.out (Below.refl _ _)
      go_upto_if 41 with fail
      go_cut [7] from 9 to 61 (fun v7 wx => ∃ l : List QSource, Grow LL 29 6 qSourceR v7 l wx ∧ l.length ≤ 1 ∧ (∀ x ∈ l, resolveP x = (111, noSource)) ∧ Below w.heap.size w wx ∧ Blk wx g 29 #[.slice A1 n1 c1, .slice A2 n2 c2, .slice A3 n3 c3, .slice A4 n4 c4, .slice A5 n5 c5, .slice A6 n6 c6] ∧ LL ≤ wx.heap.size)
      case first =>
        · skip
          by_cases hn : 0 < n1
          · have hnk : (0 : Int) < (n1 : Int) := by omega
            have hnd : decide ((0 : Int) < (n1 : Int)) = true := by simp; omega
            go_upto_region 12 with fail
            have hal : Below W0.heap.size W0 (W0.alloc (.cells #[.slice A1 n1 c1, .slice A2 n2 c2, .slice A3 n3 c3, .slice A4 n4 c4, .slice A5 n5 c5, .slice A6 n6 c6] 29)) := (Below.refl _ _).alloc (Nat.le_refl _) _
            have hx5 : Blk (W0.alloc (.cells #[.slice A1 n1 c1, .slice A2 n2 c2, .slice A3 n3 c3, .slice A4 n4 c4, .slice A5 n5 c5, .slice A6 n6 c6] 29)) W0.heap.size 29 #[.slice A1 n1 c1, .slice A2 n2 c2, .slice A3 n3 c3, .slice A4 n4 c4, .slice A5 n5 c5, .slice A6 n6 c6] := Blk.new _ _ _
            obtain ⟨gx, hgx⟩ : ∃ g, g = W0.heap.size := ⟨_, rfl⟩
            have HGX := Lib.hid hgx
            rw [← hgx] at hx5 ⊢
            generalize W0.alloc (.cells #[.slice A1 n1 c1, .slice A2 n2 c2, .slice A3 n3 c3, .slice A4 n4 c4, .slice A5 n5 c5, .slice A6 n6 c6] 29) = w5 at hx5 hal ⊢
            have HAL := Lib.hid hal
            have HB5 := Lib.hid (below_step HBz.out hal)
            have HX5 := Lib.hid hx5
            have HP5 := Lib.hid (src_parts (qSourceR_mono _ _ HB5.out _ _ HS.out))
            clear hx5 hgx hal k0 k1 k2 k3 k4 k5
            obtain ⟨k0, k1, k2, k3, k4, k5⟩ := six_cells (HKz.out.below HAL.out HKz.out.lt) (Below.refl _ _)
            have lg : g < w5.heap.size := Nat.lt_of_lt_of_le HKz.out.lt HAL.out.size
            have lx := HX5.out.lt
            obtain ⟨k, hkt, hkn⟩ : ∃ k : Nat, (a.tmod (n1 : Int)) = (k : Int) ∧ k < n1 := ⟨(a.tmod (n1 : Int)).toNat, (Int.toNat_of_nonneg (Int.tmod_nonneg _ ha0)).symm, by
              have h1 := Int.tmod_nonneg (n1 : Int) ha0
              have h2 := Int.tmod_lt_of_pos a (show (0 : Int) < (n1 : Int) by omega)
              omega⟩
            have HPz := Lib.hid (src_parts (qSourceR_mono _ _ HBz.out _ _ HS.out))
            obtain ⟨b, off, x, rfl, hbl, hx, s0⟩ := str_at HPz.out.1.1 hkn
            have HX := Lib.hid hx
            clear hx HPz
            have h0k : (0 : Int) ≤ (k : Int) := by omega
            have hkni : (k : Int) < (n1 : Int) := by omega
            have hn0 : ¬ (n1 : Int) = 0 := by omega
            have hn1 : ¬ n1 = 0 := by omega
            have hwa : IntKind.i64.wrap a = a := IntWalk.i64_in _ (by omega)
            have HKS : Hid (∀ X : World, Below W0.heap.size W0 X → X.cell? ⟨g, 0, none⟩ = some (.slice (some ⟨b, off, none⟩) n1 c1) ∧ X.cell? ⟨b, off + k, none⟩ = some (.string x) ∧ Below W0.heap.size W0 X) := Lib.hid (fun X hX => ⟨(hX.cell (p := ⟨g, 0, none⟩) HKz.out.lt).trans (by rw [HKz.out.cell]; rfl), (hX.cell (p := ⟨b, off + k, none⟩) hbl).trans s0, hX⟩)
            have e0 := (HAL.out.cell (p := ⟨b, off + k, none⟩) hbl).trans s0
            clear s0
            go_cut [9] from 41 to 57 (fun x9 wx => x9 = .pointer (some ⟨gx, 0, none⟩) ∧ ∃ (cs : List Value) (x : QSource), Blk wx gx 29 cs.toArray ∧ Below W0.heap.size W0 wx ∧ (∀ S : List Nat, (∀ b ∈ S, LL ≤ b ∧ b < W0.heap.size) → qSourceR (hideL S wx) cs x) ∧ resolveP x = (111, noSource))
            case first =>
              · skip
                go_region_held3 (fun w' => w'.cell? ⟨g, 0, none⟩ = some (.slice (some ⟨b, off, none⟩) n1 c1) ∧ w'.cell? ⟨b, off + k, none⟩ = some (.string x) ∧ Below W0.heap.size W0 w')
                  (first | exact HKS.out _ (below_step HAL.out HB7.out) | exact HKS.out _ ((below_step HAL.out HB7.out).setCell (by have := HGX.out; show W0.heap.size ≤ gx; omega) _) | exact HKS.out _ ((below_step HAL.out HB6.out).alloc (by have := HAL.out.size; have := HB6.out.size; omega) _) | exact HKS.out _ (below_step HAL.out HB6.out) | exact HKS.out _ HAL.out | exact HKS.out _ (below_step HAL.out (((Below.refl _ _).alloc (Nat.le_refl _) _).drew)) | exact HKS.out _ (below_step HAL.out ((((Below.refl _ _).alloc (Nat.le_refl _) _).alloc (by simp) _).drew)) | exact HKS.out _ (below_step HAL.out (Below.refl _ _).drew))
                  (first
                    | (refine step_append_row _ (by rfl) (.tmp 43) (.tmp 45) 22 9 (by rfl) j1 _ 16 Try.underlying22 I1.out Z1.out.1 Z1.out.2.1 Z1.out.2.2 rfl (by decide) (R := fun _ => strR w) (fun _ => strR_one w) w5.heap.size (.slice (some ⟨w5.heap.size, 0, none⟩) 0 0) 0 [] (by rfl) ?_ (some ⟨b, off, none⟩) n1 c1 s.issuers (by rfl) ?_ ?_ ?_ ?_ ?_
                       · first | (with_reducible show World.ownsRow (World.drew (World.alloc w5 _)) _ _ _ _ _ _) | (with_reducible show World.ownsRow (World.alloc w5 _) _ _ _ _ _ _) | (with_reducible show World.ownsRow (World.drew (World.drew (World.alloc w5 _))) _ _ _ _ _ _)
                         exact own_of_blk (Blk.new w5 9 #[]).drew (Nat.le_refl _)
                       · exact (src_parts HS.out).1.1.fix (below_step HB5.out ((below_one _ _).drew))
                       · have := HLN1.out; unfold maxLen; omega
                       · have := HLN1.out; omega
                       · exact ((below_one _ _).drew).size
                       intro v1 w6 cs hcs1 ho1 hgr1 hat1
                       have hcs1 : CellsR 1 strR w cs s.issuers := ⟨hcs1.1, hcs1.2⟩
                       have hb6 : Below w5.heap.size w5 w6 := Below.grown ((below_one _ _).drew) hgr1 ((below_one _ _).drew).size (fun r e => Nat.le_of_eq (Option.some.inj e))
                       skip
                       rw [Nat.zero_add, List.nil_append] at ho1
                       obtain ⟨vA, vn, vc, rfl, hvn⟩ := own_form' ho1
                       have HVN := Lib.hid hvn
                       have HO6 := Lib.hid ho1
                       have HC6 := Lib.hid hcs1
                       have HB6 := Lib.hid hb6
                       clear hcs1 ho1 hgr1 hat1 hvn hb6)
                    | (refine step_append_row _ (by rfl) (.tmp 43) (.tmp 45) 22 9 (by rfl) j1 _ 16 Try.underlying22 I1.out Z1.out.1 Z1.out.2.1 Z1.out.2.2 rfl (by decide) (R := fun _ => strR w) (fun _ => strR_one w) w5.heap.size (.slice (some ⟨w5.heap.size, 0, none⟩) 0 0) 0 [] (by rfl) ?_ (some ⟨b, off, none⟩) n1 c1 s.issuers (by rfl) ?_ ?_ ?_ ?_ ?_
                       · first | (with_reducible show World.ownsRow (World.drew (World.alloc (World.alloc w5 _) _)) _ _ _ _ _ _) | (with_reducible show World.ownsRow (World.alloc (World.alloc w5 _) _) _ _ _ _ _ _) | (with_reducible show World.ownsRow (World.drew (World.drew (World.alloc (World.alloc w5 _) _))) _ _ _ _ _ _)
                         exact own_of_blk ((Blk.new w5 9 #[]).alloc _).drew (Nat.le_refl _)
                       · exact (src_parts HS.out).1.1.fix (below_step HB5.out ((below_two _ _ _).drew))
                       · have := HLN1.out; unfold maxLen; omega
                       · have := HLN1.out; omega
                       · exact ((below_two _ _ _).drew).size
                       intro v1 w6 cs hcs1 ho1 hgr1 hat1
                       have hcs1 : CellsR 1 strR w cs s.issuers := ⟨hcs1.1, hcs1.2⟩
                       have hb6 : Below w5.heap.size w5 w6 := Below.grown ((below_two _ _ _).drew) hgr1 ((below_two _ _ _).drew).size (fun r e => Nat.le_of_eq (Option.some.inj e))
                       have HBN : Hid (Blk w6 (w5.heap.size + 1) 9 #[.string x]) := Lib.hid (Blk.grown (blk_new2 w5 (.cells #[] 9) 9 #[.string x]).drew hgr1 (fun e => Nat.succ_ne_self _ (Option.some.inj e)))
                       rw [Nat.zero_add, List.nil_append] at ho1
                       obtain ⟨vA, vn, vc, rfl, hvn⟩ := own_form' ho1
                       have HVN := Lib.hid hvn
                       have HO6 := Lib.hid ho1
                       have HC6 := Lib.hid hcs1
                       have HB6 := Lib.hid hb6
                       clear hcs1 ho1 hgr1 hat1 hvn hb6)
                    | (refine step_append_row _ (by rfl) (.tmp 43) (.tmp 45) 22 9 (by rfl) j1 _ 16 Try.underlying22 I1.out Z1.out.1 Z1.out.2.1 Z1.out.2.2 rfl (by decide) (R := fun _ => strR w) (fun _ => strR_one w) w5.heap.size (.slice (some ⟨w5.heap.size + 1, 0, none⟩) 0 0) 0 [] (by rfl) ?_ (some ⟨b, off, none⟩) n1 c1 s.issuers (by rfl) ?_ ?_ ?_ ?_ ?_
                       · first | (with_reducible show World.ownsRow (World.drew (World.alloc (World.alloc w5 _) _)) _ _ _ _ _ _) | (with_reducible show World.ownsRow (World.alloc (World.alloc w5 _) _) _ _ _ _ _ _) | (with_reducible show World.ownsRow (World.drew (World.drew (World.alloc (World.alloc w5 _) _))) _ _ _ _ _ _)
                         exact own_of_blk (blk_new2 w5 (.cells #[.string x] 9) 9 #[]).drew (Nat.le_succ _)
                       · exact (src_parts HS.out).1.1.fix (below_step HB5.out ((below_two _ _ _).drew))
                       · have := HLN1.out; unfold maxLen; omega
                       · have := HLN1.out; omega
                       · exact ((below_two _ _ _).drew).size
                       intro v1 w6 cs hcs1 ho1 hgr1 hat1
                       have hcs1 : CellsR 1 strR w cs s.issuers := ⟨hcs1.1, hcs1.2⟩
                       have hb6 : Below w5.heap.size w5 w6 := Below.grown ((below_two _ _ _).drew) hgr1 ((below_two _ _ _).drew).size (fun r e => Nat.le_of_succ_le (Nat.le_of_eq (Option.some.inj e)))
                       have HBN : Hid (Blk w6 w5.heap.size 9 #[.string x]) := Lib.hid (Blk.grown ((Blk.new w5 9 #[.string x]).alloc _).drew hgr1 (fun e => Nat.succ_ne_self _ (Option.some.inj e).symm))
                       rw [Nat.zero_add, List.nil_append] at ho1
                       obtain ⟨vA, vn, vc, rfl, hvn⟩ := own_form' ho1
                       have HVN := Lib.hid hvn
                       have HO6 := Lib.hid ho1
                       have HC6 := Lib.hid hcs1
                       have HB6 := Lib.hid hb6
                       clear hcs1 ho1 hgr1 hat1 hvn hb6)
                    | (refine step_append_own_at _ (by rfl) (.tmp 46) (.tmp 55) 22 (by rfl) w5.heap.size 9 j1 _ 1 16 Try.underlying22 I1.out Z1.out.1 Z1.out.2.1 Z1.out.2.2 rfl (by decide) (.slice vA vn vc) n1 cs (by rfl) ?_ ⟨w6.heap.size, 0, none⟩ 1 1 [.string x] (by rfl) rfl ?_ (by intro u hu; simp only [List.mem_cons, List.not_mem_nil, or_false] at hu; rcases hu with rfl <;> rfl) ?_ ?_ ?_ ?_
                       · exact HO6.out.alloc _
                       · exact blk_news (Blk.new _ _ _)
                       · have := HLN1.out; unfold maxLen; omega
                       · have := HLN1.out; omega
                       · have := HB6.out.size; simp; omega
                       intro v' w7 hown hgrow hat
                       obtain ⟨vA', vn', vc', rfl, hvn'⟩ := own_form' hown
                       have hb7 : Below w5.heap.size w5 w7 := Below.grown (HB6.out.alloc HB6.out.size _) hgrow (by have := HB6.out.size; simp; omega) (fun r e => (HO6.out.lt r e).1)
                       have HVN' := Lib.hid hvn'
                       have HO7 := Lib.hid hown
                       have HB7 := Lib.hid hb7
                       have hx7 := HX5.out.below hb7 lx
                       have q7 := hx7.cell 0
                       have f7 := hx7.frozen 0
                       simp only [List.getElem?_toArray, List.getElem?_cons_zero] at q7
                       have lx7 := hx7.lt
                       have HX7 := Lib.hid hx7
                       clear hx7
                       clear hown hgrow hat hvn' hb7)
                    | (refine step_append_own_at _ (by rfl) (.tmp 46) (.tmp 55) 22 (by rfl) w5.heap.size 9 j1 _ 1 16 Try.underlying22 I1.out Z1.out.1 Z1.out.2.1 Z1.out.2.2 rfl (by decide) (.slice vA vn vc) n1 cs (by rfl) ?_ ⟨w5.heap.size + 1, 0, none⟩ 1 1 [.string x] (by rfl) rfl ?_ (by intro u hu; simp only [List.mem_cons, List.not_mem_nil, or_false] at hu; rcases hu with rfl <;> rfl) ?_ ?_ ?_ ?_
                       · exact HO6.out
                       · exact blk_news HBN.out
                       · have := HLN1.out; unfold maxLen; omega
                       · have := HLN1.out; omega
                       · have := HB6.out.size; simp; omega
                       intro v' w7 hown hgrow hat
                       obtain ⟨vA', vn', vc', rfl, hvn'⟩ := own_form' hown
                       have hb7 : Below w5.heap.size w5 w7 := Below.grown HB6.out hgrow (by have := HB6.out.size; simp; omega) (fun r e => (HO6.out.lt r e).1)
                       have HVN' := Lib.hid hvn'
                       have HO7 := Lib.hid hown
                       have HB7 := Lib.hid hb7
                       have hx7 := HX5.out.below hb7 lx
                       have q7 := hx7.cell 0
                       have f7 := hx7.frozen 0
                       simp only [List.getElem?_toArray, List.getElem?_cons_zero] at q7
                       have lx7 := hx7.lt
                       have HX7 := Lib.hid hx7
                       clear hx7
                       clear hown hgrow hat hvn' hb7)
                    | (refine step_append_own_at _ (by rfl) (.tmp 46) (.tmp 55) 22 (by rfl) w5.heap.size 9 j1 _ 1 16 Try.underlying22 I1.out Z1.out.1 Z1.out.2.1 Z1.out.2.2 rfl (by decide) (.slice vA vn vc) n1 cs (by rfl) ?_ ⟨w5.heap.size, 0, none⟩ 1 1 [.string x] (by rfl) rfl ?_ (by intro u hu; simp only [List.mem_cons, List.not_mem_nil, or_false] at hu; rcases hu with rfl <;> rfl) ?_ ?_ ?_ ?_
                       · exact HO6.out
                       · exact blk_news HBN.out
                       · have := HLN1.out; unfold maxLen; omega
                       · have := HLN1.out; omega
                       · have := HB6.out.size; simp; omega
                       intro v' w7 hown hgrow hat
                       obtain ⟨vA', vn', vc', rfl, hvn'⟩ := own_form' hown
                       have hb7 : Below w5.heap.size w5 w7 := Below.grown HB6.out hgrow (by have := HB6.out.size; simp; omega) (fun r e => (HO6.out.lt r e).1)
                       have HVN' := Lib.hid hvn'
                       have HO7 := Lib.hid hown
                       have HB7 := Lib.hid hb7
                       have hx7 := HX5.out.below hb7 lx
                       have q7 := hx7.cell 0
                       have f7 := hx7.frozen 0
                       simp only [List.getElem?_toArray, List.getElem?_cons_zero] at q7
                       have lx7 := hx7.lt
                       have HX7 := Lib.hid hx7
                       clear hx7
                       clear hown hgrow hat hvn' hb7)
                    | fail)
                all_goals
                  go_wp2_with fail
                  go_meet
                  have hx8 : Blk (w7.setCell ⟨gx, 0, none⟩ (.slice vA' vn' vc')) gx 29 [.slice vA' vn' vc', .slice A2 n2 c2, .slice A3 n3 c3, .slice A4 n4 c4, .slice A5 n5 c5, .slice A6 n6 c6].toArray := HX7.out.put 0 _
                  have hb8 : Below W0.heap.size W0 (w7.setCell ⟨gx, 0, none⟩ (.slice vA' vn' vc')) := (below_step HAL.out HB7.out).setCell (by have := HGX.out; show W0.heap.size ≤ gx; omega) _
                  have ho8 := own_far HO7.out (show (⟨gx, 0, none⟩ : Addr).block < w5.heap.size from lx) (.slice vA' vn' vc')
                  generalize (w7.setCell ⟨gx, 0, none⟩ (.slice vA' vn' vc')) = w8 at hx8 hb8 ho8 ⊢
                  refine ⟨rfl, _, { s with issuers := s.issuers ++ [(x : ByteArray)] }, hx8, hb8, fun S hS => ?_, two0 HX.out⟩
                  have hbS : Below w.heap.size w (hideL S w8) := hideL_old (below_step HBz.out hb8) (fun b hb => Nat.le_trans HLL.out (hS b hb).1)
                  have hp := src_parts (qSourceR_mono _ _ hbS _ _ HS.out)
                  have hnew : SlB 1 16 strR (hideL S w8) (.slice vA' vn' vc') (s.issuers ++ [(x : ByteArray)]) := slB_more (hideL_own ho8 (fun b hb => Nat.lt_of_lt_of_le (hS b hb).2 HAL.out.size)) (HC6.out.mono strR_mono hbS) rfl (show strR (hideL S w8) _ (x : ByteArray) from rfl) (HLE1.out) (by have := HLN1.out; have := HLE1.out; omega)
                  exact src_whole hnew hp.2.1 hp.2.2.1 hp.2.2.2.1 hp.2.2.2.2.1 hp.2.2.2.2.2
            case rest =>
              obtain ⟨rfl, csn, sn, hx8, hb8, hrd, hrm⟩ := hcut
              obtain ⟨w8, rfl⟩ : ∃ x, x = wc := ⟨_, rfl⟩
              obtain ⟨Y1, m1, d1, Y2, m2, d2, Y3, m3, d3, Y4, m4, d4, Y5, m5, d5, Y6, m6, d6, rfl, -⟩ := id (hrd [] (by simp))
              obtain ⟨csl, SL, hol, h2, h3, hc⟩ := HG.out
              have HOL := Lib.hid (own_below0 hol hb8)
              have HSL := Lib.hid (And.intro h2 h3)
              have HCL := Lib.hid (hc.mono qSourceR_mono (hideL_below hb8))
              have HRD := Lib.hid (CellsR.one (R := qSourceR) rfl (hrd SL h3))
              have HRM := Lib.hid hrm
              have HB8 := Lib.hid hb8
              have HK8 := Lib.hid (HKz.out.below hb8 HKz.out.lt)
              clear k0 k1 k2 k3 k4 k5 e0 hkt hwa hol h2 h3 hc hrd hrm hb8
              obtain ⟨y0, y1, y2, y3, y4, y5⟩ := six_cells hx8 (Below.refl _ _)
              clear hx8
              go_wp2_with (first
                | (at_builtin; go_loud (refine wpList_append_own_at _ rfl (.tmp 58) (.tmp 60) 77 rfl LL 29 j0 _ 6 144 Try.underlying77 I0.out Z0.out.1 Z0.out.2.1 Z0.out.2.2 rfl (by decide) (.slice B7 ll.length e7) ll.length csl rfl (HOL.out.alloc _) ⟨w8.heap.size, 0, none⟩ 1 1 [.slice Y1 m1 d1, .slice Y2 m2 d2, .slice Y3 m3 d3, .slice Y4 m4 d4, .slice Y5 m5 d5, .slice Y6 m6 d6] rfl rfl (blk_news (Blk.new _ _ _)) (by intro u hu; simp only [List.mem_cons, List.not_mem_nil, or_false] at hu; rcases hu with rfl | rfl | rfl | rfl | rfl | rfl <;> rfl) (by have := HJ.out; unfold maxLen; omega) (by have := HJ.out; omega) (by have := HLZ.out; have := HB8.out.size; simp; omega) ?_)
                   intro v' w9 hown hgrow hnil hat
                   obtain ⟨vA', vn', vc', rfl, hvn'⟩ := own_form' hown
                   have HVN' := Lib.hid hvn'
                   have HO9 := Lib.hid hown
                   have HG9 := Lib.hid hgrow
                   have HA9 := Lib.hid hat
                   clear hown hgrow hnil hat hvn'))
              go_meet
              have hal : Below w8.heap.size w8 (w8.alloc (.cells #[.slice Y1 m1 d1, .slice Y2 m2 d2, .slice Y3 m3 d3, .slice Y4 m4 d4, .slice Y5 m5 d5, .slice Y6 m6 d6] 29)) := (Below.refl _ _).alloc (Nat.le_refl _) _
              have hLw : LL ≤ w8.heap.size := Nat.le_trans HLZ.out HB8.out.size
              have hbig : Below LL (w8.alloc (.cells #[.slice Y1 m1 d1, .slice Y2 m2 d2, .slice Y3 m3 d3, .slice Y4 m4 d4, .slice Y5 m5 d5, .slice Y6 m6 d6] 29)) w9 := Below.grown (Below.refl _ _) HG9.out (by simp; omega) (fun r e => (HSL.out.2 r (HSL.out.1 r e)).1)
              have hb9 : Below w.heap.size w w9 := (below_step (below_step HBz.out HB8.out) hal).trans (hbig.mono HLL.out)
              have hk9 : Blk w9 g 29 #[.slice (some ⟨b, off, none⟩) n1 c1, .slice A2 n2 c2, .slice A3 n3 c3, .slice A4 n4 c4, .slice A5 n5 c5, .slice A6 n6 c6] := HK8.out.below ((hal.mono hLw).trans hbig) HGL.out
              have hl9 : LL ≤ w9.heap.size := Nat.le_trans hLw (Nat.le_trans hal.size hbig.size)
              exact ⟨ll ++ [sn], Grow.push HSL.out.1 (fun b hb => ⟨(HSL.out.2 b hb).1, Nat.lt_of_lt_of_le (HSL.out.2 b hb).2 (Nat.le_trans HB8.out.size hal.size)⟩) (HCL.out.mono qSourceR_mono (hideL_below hal)) qSourceR_mono HO9.out (by simp) HG9.out HA9.out (by simp; omega) (HRD.out.mono qSourceR_mono (hideL_below hal)), by have := HJ.out; rw [List.length_append]; simp only [List.length_cons, List.length_nil]; omega, fun z hz => (List.mem_append.1 hz).elim (HT.out z) (fun h => by rw [List.mem_singleton.1 h]; exact HRM.out), hb9, hk9, hl9⟩
          · have hnk : ¬ (0 : Int) < (n1 : Int) := by omega
            have hnd : decide ((0 : Int) < (n1 : Int)) = false := by simp; omega
            go_wp2_with fail
            go_meet
            exact ⟨ll, HG.out, by have := HJ.out; omega, HT.out, HBz.out, HKz.out, HLZ.out⟩
      case rest =>
        clear HG HJ HT HBz HKz HLZ k0 k1 k2 k3 k4 k5
        obtain ⟨ll, hg, hj, ht, hbz, hkz, hlz⟩ := hcut
        obtain ⟨W0, rfl⟩ : ∃ x, x = wc := ⟨_, rfl⟩
        obtain ⟨B7, e7, rfl⟩ := hg.form
        have HG := Lib.hid hg
        have HJ := Lib.hid hj
        have HT := Lib.hid ht
        have HBz := Lib.hid hbz
        have HKz := Lib.hid hkz
        have HLZ := Lib.hid hlz
        clear hg hj ht hbz hkz hlz
        obtain ⟨k0, k1, k2, k3, k4, k5⟩ := six_cells HKz.out (Below.refl _ _)
        go_upto_if 66 with fail
        go_cut [7] from 11 to 88 (fun v7 wx => ∃ l : List QSource, Grow LL 29 6 qSourceR v7 l wx ∧ l.length ≤ 2 ∧ (∀ x ∈ l, resolveP x = (111, noSource)) ∧ Below w.heap.size w wx ∧ Blk wx g 29 #[.slice A1 n1 c1, .slice A2 n2 c2, .slice A3 n3 c3, .slice A4 n4 c4, .slice A5 n5 c5, .slice A6 n6 c6] ∧ LL ≤ wx.heap.size)
        case first =>
          · skip
            by_cases hn : 0 < n2
            · have hnk : (0 : Int) < (n2 : Int) := by omega
              have hnd : decide ((0 : Int) < (n2 : Int)) = true := by simp; omega
              go_upto_region 17 with fail
              have hal : Below W0.heap.size W0 (W0.alloc (.cells #[.slice A1 n1 c1, .slice A2 n2 c2, .slice A3 n3 c3, .slice A4 n4 c4, .slice A5 n5 c5, .slice A6 n6 c6] 29)) := (Below.refl _ _).alloc (Nat.le_refl _) _
              have hx5 : Blk (W0.alloc (.cells #[.slice A1 n1 c1, .slice A2 n2 c2, .slice A3 n3 c3, .slice A4 n4 c4, .slice A5 n5 c5, .slice A6 n6 c6] 29)) W0.heap.size 29 #[.slice A1 n1 c1, .slice A2 n2 c2, .slice A3 n3 c3, .slice A4 n4 c4, .slice A5 n5 c5, .slice A6 n6 c6] := Blk.new _ _ _
              obtain ⟨gx, hgx⟩ : ∃ g, g = W0.heap.size := ⟨_, rfl⟩
              have HGX := Lib.hid hgx
              rw [← hgx] at hx5 ⊢
              generalize W0.alloc (.cells #[.slice A1 n1 c1, .slice A2 n2 c2, .slice A3 n3 c3, .slice A4 n4 c4, .slice A5 n5 c5, .slice A6 n6 c6] 29) = w5 at hx5 hal ⊢
              have HAL := Lib.hid hal
              have HB5 := Lib.hid (below_step HBz.out hal)
              have HX5 := Lib.hid hx5
              have HP5 := Lib.hid (src_parts (qSourceR_mono _ _ HB5.out _ _ HS.out))
              clear hx5 hgx hal k0 k1 k2 k3 k4 k5
              obtain ⟨k0, k1, k2, k3, k4, k5⟩ := six_cells (HKz.out.below HAL.out HKz.out.lt) (Below.refl _ _)
              have lg : g < w5.heap.size := Nat.lt_of_lt_of_le HKz.out.lt HAL.out.size
              have lx := HX5.out.lt
              obtain ⟨k, hkt, hkn⟩ : ∃ k : Nat, (a.tmod (n2 : Int)) = (k : Int) ∧ k < n2 := ⟨(a.tmod (n2 : Int)).toNat, (Int.toNat_of_nonneg (Int.tmod_nonneg _ ha0)).symm, by
                have h1 := Int.tmod_nonneg (n2 : Int) ha0
                have h2 := Int.tmod_lt_of_pos a (show (0 : Int) < (n2 : Int) by omega)
                omega⟩
              have HPz := Lib.hid (src_parts (qSourceR_mono _ _ HBz.out _ _ HS.out))
              obtain ⟨b, off, u, rfl, hbl, hx, s0, -⟩ := qUnit_at HPz.out.2.1.1 hkn
              obtain ⟨x, hxe⟩ : ∃ x, x = u.name := ⟨_, rfl⟩
              rw [← hxe] at s0
              have HX := Lib.hid (And.intro hx hxe)
              clear hx hxe HPz
              have h0k : (0 : Int) ≤ (k : Int) := by omega
              have hkni : (k : Int) < (n2 : Int) := by omega
              have hn0 : ¬ (n2 : Int) = 0 := by omega
              have hn1 : ¬ n2 = 0 := by omega
              have hwa : IntKind.i64.wrap a = a := IntWalk.i64_in _ (by omega)
              have HKS : Hid (∀ X : World, Below W0.heap.size W0 X → X.cell? ⟨g, 1, none⟩ = some (.slice (some ⟨b, off, none⟩) n2 c2) ∧ X.cell? ⟨b, off + k * 5, none⟩ = some (.string x) ∧ Below W0.heap.size W0 X) := Lib.hid (fun X hX => ⟨(hX.cell (p := ⟨g, 1, none⟩) HKz.out.lt).trans (by rw [HKz.out.cell]; rfl), (hX.cell (p := ⟨b, off + k * 5, none⟩) hbl).trans s0, hX⟩)
              have e0 := (HAL.out.cell (p := ⟨b, off + k * 5, none⟩) hbl).trans s0
              clear s0
              go_cut [11] from 66 to 84 (fun x9 wx => x9 = .pointer (some ⟨gx, 0, none⟩) ∧ ∃ (cs : List Value) (x : QSource), Blk wx gx 29 cs.toArray ∧ Below W0.heap.size W0 wx ∧ (∀ S : List Nat, (∀ b ∈ S, LL ≤ b ∧ b < W0.heap.size) → qSourceR (hideL S wx) cs x) ∧ resolveP x = (111, noSource))
              case first =>
                · skip
                  go_region_held3 (fun w' => w'.cell? ⟨g, 1, none⟩ = some (.slice (some ⟨b, off, none⟩) n2 c2) ∧ w'.cell? ⟨b, off + k * 5, none⟩ = some (.string x) ∧ Below W0.heap.size W0 w')
                    (first | exact HKS.out _ (below_step HAL.out HB7.out) | exact HKS.out _ ((below_step HAL.out HB7.out).setCell (by have := HGX.out; show W0.heap.size ≤ gx; omega) _) | exact HKS.out _ ((below_step HAL.out HB6.out).alloc (by have := HAL.out.size; have := HB6.out.size; omega) _) | exact HKS.out _ (below_step HAL.out HB6.out) | exact HKS.out _ HAL.out | exact HKS.out _ (below_step HAL.out (((Below.refl _ _).alloc (Nat.le_refl _) _).drew)) | exact HKS.out _ (below_step HAL.out ((((Below.refl _ _).alloc (Nat.le_refl _) _).alloc (by simp) _).drew)) | exact HKS.out _ (below_step HAL.out (Below.refl _ _).drew))
                    (first
                      | (refine step_append_row _ (by rfl) (.tmp 68) (.tmp 70) 23 47 (by rfl) j2 _ 56 Try.underlying23 I2.out Z2.out.1 Z2.out.2.1 Z2.out.2.2 rfl (by decide) (R := fun _ => qUnitR w) (fun _ => qUnitR_one w) w5.heap.size (.slice (some ⟨w5.heap.size, 0, none⟩) 0 0) 0 [] (by rfl) ?_ (some ⟨b, off, none⟩) n2 c2 s.units (by rfl) ?_ ?_ ?_ ?_ ?_
                         · first | (with_reducible show World.ownsRow (World.drew (World.alloc w5 _)) _ _ _ _ _ _) | (with_reducible show World.ownsRow (World.alloc w5 _) _ _ _ _ _ _) | (with_reducible show World.ownsRow (World.drew (World.drew (World.alloc w5 _))) _ _ _ _ _ _)
                           exact own_of_blk (Blk.new w5 47 #[]).drew (Nat.le_refl _)
                         · exact (src_parts HS.out).2.1.1.fix (below_step HB5.out ((below_one _ _).drew))
                         · have := HLN2.out; unfold maxLen; omega
                         · have := HLN2.out; omega
                         · exact ((below_one _ _).drew).size
                         intro v1 w6 cs hcs1 ho1 hgr1 hat1
                         have hcs1 : CellsR 5 qUnitR w cs s.units := ⟨hcs1.1, hcs1.2⟩
                         have hb6 : Below w5.heap.size w5 w6 := Below.grown ((below_one _ _).drew) hgr1 ((below_one _ _).drew).size (fun r e => Nat.le_of_eq (Option.some.inj e))
                         skip
                         rw [Nat.zero_add, List.nil_append] at ho1
                         obtain ⟨vA, vn, vc, rfl, hvn⟩ := own_form' ho1
                         have HVN := Lib.hid hvn
                         have HO6 := Lib.hid ho1
                         have HC6 := Lib.hid hcs1
                         have HB6 := Lib.hid hb6
                         clear hcs1 ho1 hgr1 hat1 hvn hb6)
                      | (refine step_append_row _ (by rfl) (.tmp 68) (.tmp 70) 23 47 (by rfl) j2 _ 56 Try.underlying23 I2.out Z2.out.1 Z2.out.2.1 Z2.out.2.2 rfl (by decide) (R := fun _ => qUnitR w) (fun _ => qUnitR_one w) w5.heap.size (.slice (some ⟨w5.heap.size, 0, none⟩) 0 0) 0 [] (by rfl) ?_ (some ⟨b, off, none⟩) n2 c2 s.units (by rfl) ?_ ?_ ?_ ?_ ?_
                         · first | (with_reducible show World.ownsRow (World.drew (World.alloc (World.alloc w5 _) _)) _ _ _ _ _ _) | (with_reducible show World.ownsRow (World.alloc (World.alloc w5 _) _) _ _ _ _ _ _) | (with_reducible show World.ownsRow (World.drew (World.drew (World.alloc (World.alloc w5 _) _))) _ _ _ _ _ _)
                           exact own_of_blk ((Blk.new w5 47 #[]).alloc _).drew (Nat.le_refl _)
                         · exact (src_parts HS.out).2.1.1.fix (below_step HB5.out ((below_two _ _ _).drew))
                         · have := HLN2.out; unfold maxLen; omega
                         · have := HLN2.out; omega
                         · exact ((below_two _ _ _).drew).size
                         intro v1 w6 cs hcs1 ho1 hgr1 hat1
                         have hcs1 : CellsR 5 qUnitR w cs s.units := ⟨hcs1.1, hcs1.2⟩
                         have hb6 : Below w5.heap.size w5 w6 := Below.grown ((below_two _ _ _).drew) hgr1 ((below_two _ _ _).drew).size (fun r e => Nat.le_of_eq (Option.some.inj e))
                         have HBN : Hid (Blk w6 (w5.heap.size + 1) 47 #[.string x, .string ⟨#[]⟩, .int .i64 0, .int .i64 0, .int .i64 0]) := Lib.hid (Blk.grown (blk_new2 w5 (.cells #[] 47) 47 #[.string x, .string ⟨#[]⟩, .int .i64 0, .int .i64 0, .int .i64 0]).drew hgr1 (fun e => Nat.succ_ne_self _ (Option.some.inj e)))
                         rw [Nat.zero_add, List.nil_append] at ho1
                         obtain ⟨vA, vn, vc, rfl, hvn⟩ := own_form' ho1
                         have HVN := Lib.hid hvn
                         have HO6 := Lib.hid ho1
                         have HC6 := Lib.hid hcs1
                         have HB6 := Lib.hid hb6
                         clear hcs1 ho1 hgr1 hat1 hvn hb6)
                      | (refine step_append_row _ (by rfl) (.tmp 68) (.tmp 70) 23 47 (by rfl) j2 _ 56 Try.underlying23 I2.out Z2.out.1 Z2.out.2.1 Z2.out.2.2 rfl (by decide) (R := fun _ => qUnitR w) (fun _ => qUnitR_one w) w5.heap.size (.slice (some ⟨w5.heap.size + 1, 0, none⟩) 0 0) 0 [] (by rfl) ?_ (some ⟨b, off, none⟩) n2 c2 s.units (by rfl) ?_ ?_ ?_ ?_ ?_
                         · first | (with_reducible show World.ownsRow (World.drew (World.alloc (World.alloc w5 _) _)) _ _ _ _ _ _) | (with_reducible show World.ownsRow (World.alloc (World.alloc w5 _) _) _ _ _ _ _ _) | (with_reducible show World.ownsRow (World.drew (World.drew (World.alloc (World.alloc w5 _) _))) _ _ _ _ _ _)
                           exact own_of_blk (blk_new2 w5 (.cells #[.string x, .string ⟨#[]⟩, .int .i64 0, .int .i64 0, .int .i64 0] 47) 47 #[]).drew (Nat.le_succ _)
                         · exact (src_parts HS.out).2.1.1.fix (below_step HB5.out ((below_two _ _ _).drew))
                         · have := HLN2.out; unfold maxLen; omega
                         · have := HLN2.out; omega
                         · exact ((below_two _ _ _).drew).size
                         intro v1 w6 cs hcs1 ho1 hgr1 hat1
                         have hcs1 : CellsR 5 qUnitR w cs s.units := ⟨hcs1.1, hcs1.2⟩
                         have hb6 : Below w5.heap.size w5 w6 := Below.grown ((below_two _ _ _).drew) hgr1 ((below_two _ _ _).drew).size (fun r e => Nat.le_of_succ_le (Nat.le_of_eq (Option.some.inj e)))
                         have HBN : Hid (Blk w6 w5.heap.size 47 #[.string x, .string ⟨#[]⟩, .int .i64 0, .int .i64 0, .int .i64 0]) := Lib.hid (Blk.grown ((Blk.new w5 47 #[.string x, .string ⟨#[]⟩, .int .i64 0, .int .i64 0, .int .i64 0]).alloc _).drew hgr1 (fun e => Nat.succ_ne_self _ (Option.some.inj e).symm))
                         rw [Nat.zero_add, List.nil_append] at ho1
                         obtain ⟨vA, vn, vc, rfl, hvn⟩ := own_form' ho1
                         have HVN := Lib.hid hvn
                         have HO6 := Lib.hid ho1
                         have HC6 := Lib.hid hcs1
                         have HB6 := Lib.hid hb6
                         clear hcs1 ho1 hgr1 hat1 hvn hb6)
                      | (refine step_append_own_at _ (by rfl) (.tmp 71) (.tmp 82) 23 (by rfl) w5.heap.size 47 j2 _ 5 56 Try.underlying23 I2.out Z2.out.1 Z2.out.2.1 Z2.out.2.2 rfl (by decide) (.slice vA vn vc) n2 cs (by rfl) ?_ ⟨w6.heap.size, 0, none⟩ 1 1 [.string x, .string ⟨#[]⟩, .int .i64 0, .int .i64 0, .int .i64 0] (by rfl) rfl ?_ (by intro u hu; simp only [List.mem_cons, List.not_mem_nil, or_false] at hu; rcases hu with rfl | rfl | rfl | rfl | rfl <;> rfl) ?_ ?_ ?_ ?_
                         · exact HO6.out.alloc _
                         · exact blk_news (Blk.new _ _ _)
                         · have := HLN2.out; unfold maxLen; omega
                         · have := HLN2.out; omega
                         · have := HB6.out.size; simp; omega
                         intro v' w7 hown hgrow hat
                         obtain ⟨vA', vn', vc', rfl, hvn'⟩ := own_form' hown
                         have hb7 : Below w5.heap.size w5 w7 := Below.grown (HB6.out.alloc HB6.out.size _) hgrow (by have := HB6.out.size; simp; omega) (fun r e => (HO6.out.lt r e).1)
                         have HVN' := Lib.hid hvn'
                         have HO7 := Lib.hid hown
                         have HB7 := Lib.hid hb7
                         have hx7 := HX5.out.below hb7 lx
                         have q7 := hx7.cell 1
                         have f7 := hx7.frozen 1
                         simp only [List.getElem?_toArray, List.getElem?_cons_zero, List.getElem?_cons_succ] at q7
                         have lx7 := hx7.lt
                         have HX7 := Lib.hid hx7
                         clear hx7
                         clear hown hgrow hat hvn' hb7)
                      | (refine step_append_own_at _ (by rfl) (.tmp 71) (.tmp 82) 23 (by rfl) w5.heap.size 47 j2 _ 5 56 Try.underlying23 I2.out Z2.out.1 Z2.out.2.1 Z2.out.2.2 rfl (by decide) (.slice vA vn vc) n2 cs (by rfl) ?_ ⟨w5.heap.size + 1, 0, none⟩ 1 1 [.string x, .string ⟨#[]⟩, .int .i64 0, .int .i64 0, .int .i64 0] (by rfl) rfl ?_ (by intro u hu; simp only [List.mem_cons, List.not_mem_nil, or_false] at hu; rcases hu with rfl | rfl | rfl | rfl | rfl <;> rfl) ?_ ?_ ?_ ?_
                         · exact HO6.out
                         · exact blk_news HBN.out
                         · have := HLN2.out; unfold maxLen; omega
                         · have := HLN2.out; omega
                         · have := HB6.out.size; simp; omega
                         intro v' w7 hown hgrow hat
                         obtain ⟨vA', vn', vc', rfl, hvn'⟩ := own_form' hown
                         have hb7 : Below w5.heap.size w5 w7 := Below.grown HB6.out hgrow (by have := HB6.out.size; simp; omega) (fun r e => (HO6.out.lt r e).1)
                         have HVN' := Lib.hid hvn'
                         have HO7 := Lib.hid hown
                         have HB7 := Lib.hid hb7
                         have hx7 := HX5.out.below hb7 lx
                         have q7 := hx7.cell 1
                         have f7 := hx7.frozen 1
                         simp only [List.getElem?_toArray, List.getElem?_cons_zero, List.getElem?_cons_succ] at q7
                         have lx7 := hx7.lt
                         have HX7 := Lib.hid hx7
                         clear hx7
                         clear hown hgrow hat hvn' hb7)
                      | (refine step_append_own_at _ (by rfl) (.tmp 71) (.tmp 82) 23 (by rfl) w5.heap.size 47 j2 _ 5 56 Try.underlying23 I2.out Z2.out.1 Z2.out.2.1 Z2.out.2.2 rfl (by decide) (.slice vA vn vc) n2 cs (by rfl) ?_ ⟨w5.heap.size, 0, none⟩ 1 1 [.string x, .string ⟨#[]⟩, .int .i64 0, .int .i64 0, .int .i64 0] (by rfl) rfl ?_ (by intro u hu; simp only [List.mem_cons, List.not_mem_nil, or_false] at hu; rcases hu with rfl | rfl | rfl | rfl | rfl <;> rfl) ?_ ?_ ?_ ?_
                         · exact HO6.out
                         · exact blk_news HBN.out
                         · have := HLN2.out; unfold maxLen; omega
                         · have := HLN2.out; omega
                         · have := HB6.out.size; simp; omega
                         intro v' w7 hown hgrow hat
                         obtain ⟨vA', vn', vc', rfl, hvn'⟩ := own_form' hown
                         have hb7 : Below w5.heap.size w5 w7 := Below.grown HB6.out hgrow (by have := HB6.out.size; simp; omega) (fun r e => (HO6.out.lt r e).1)
                         have HVN' := Lib.hid hvn'
                         have HO7 := Lib.hid hown
                         have HB7 := Lib.hid hb7
                         have hx7 := HX5.out.below hb7 lx
                         have q7 := hx7.cell 1
                         have f7 := hx7.frozen 1
                         simp only [List.getElem?_toArray, List.getElem?_cons_zero, List.getElem?_cons_succ] at q7
                         have lx7 := hx7.lt
                         have HX7 := Lib.hid hx7
                         clear hx7
                         clear hown hgrow hat hvn' hb7)
                      | fail)
                  all_goals
                    go_wp2_with fail
                    go_meet
                    have hx8 : Blk (w7.setCell ⟨gx, 1, none⟩ (.slice vA' vn' vc')) gx 29 [.slice A1 n1 c1, .slice vA' vn' vc', .slice A3 n3 c3, .slice A4 n4 c4, .slice A5 n5 c5, .slice A6 n6 c6].toArray := HX7.out.put 1 _
                    have hb8 : Below W0.heap.size W0 (w7.setCell ⟨gx, 1, none⟩ (.slice vA' vn' vc')) := (below_step HAL.out HB7.out).setCell (by have := HGX.out; show W0.heap.size ≤ gx; omega) _
                    have ho8 := own_far HO7.out (show (⟨gx, 1, none⟩ : Addr).block < w5.heap.size from lx) (.slice vA' vn' vc')
                    generalize (w7.setCell ⟨gx, 1, none⟩ (.slice vA' vn' vc')) = w8 at hx8 hb8 ho8 ⊢
                    refine ⟨rfl, _, { s with units := s.units ++ [(⟨x, noStr, 0, 0, 0⟩ : QUnit)] }, hx8, hb8, fun S hS => ?_, two1x HX.out⟩
                    have hbS : Below w.heap.size w (hideL S w8) := hideL_old (below_step HBz.out hb8) (fun b hb => Nat.le_trans HLL.out (hS b hb).1)
                    have hp := src_parts (qSourceR_mono _ _ hbS _ _ HS.out)
                    have hnew : SlB 5 56 qUnitR (hideL S w8) (.slice vA' vn' vc') (s.units ++ [(⟨x, noStr, 0, 0, 0⟩ : QUnit)]) := slB_more (hideL_own ho8 (fun b hb => Nat.lt_of_lt_of_le (hS b hb).2 HAL.out.size)) (HC6.out.mono qUnitR_mono hbS) rfl (show qUnitR (hideL S w8) _ (⟨x, noStr, 0, 0, 0⟩ : QUnit) from rfl) (HLE2.out) (by have := HLN2.out; have := HLE2.out; omega)
                    exact src_whole hp.1 hnew hp.2.2.1 hp.2.2.2.1 hp.2.2.2.2.1 hp.2.2.2.2.2
              case rest =>
                obtain ⟨rfl, csn, sn, hx8, hb8, hrd, hrm⟩ := hcut
                obtain ⟨w8, rfl⟩ : ∃ x, x = wc := ⟨_, rfl⟩
                obtain ⟨Y1, m1, d1, Y2, m2, d2, Y3, m3, d3, Y4, m4, d4, Y5, m5, d5, Y6, m6, d6, rfl, -⟩ := id (hrd [] (by simp))
                obtain ⟨csl, SL, hol, h2, h3, hc⟩ := HG.out
                have HOL := Lib.hid (own_below0 hol hb8)
                have HSL := Lib.hid (And.intro h2 h3)
                have HCL := Lib.hid (hc.mono qSourceR_mono (hideL_below hb8))
                have HRD := Lib.hid (CellsR.one (R := qSourceR) rfl (hrd SL h3))
                have HRM := Lib.hid hrm
                have HB8 := Lib.hid hb8
                have HK8 := Lib.hid (HKz.out.below hb8 HKz.out.lt)
                clear k0 k1 k2 k3 k4 k5 e0 hkt hwa hol h2 h3 hc hrd hrm hb8
                obtain ⟨y0, y1, y2, y3, y4, y5⟩ := six_cells hx8 (Below.refl _ _)
                clear hx8
                go_wp2_with (first
                  | (at_builtin; go_loud (refine wpList_append_own_at _ rfl (.tmp 85) (.tmp 87) 77 rfl LL 29 j0 _ 6 144 Try.underlying77 I0.out Z0.out.1 Z0.out.2.1 Z0.out.2.2 rfl (by decide) (.slice B7 ll.length e7) ll.length csl rfl (HOL.out.alloc _) ⟨w8.heap.size, 0, none⟩ 1 1 [.slice Y1 m1 d1, .slice Y2 m2 d2, .slice Y3 m3 d3, .slice Y4 m4 d4, .slice Y5 m5 d5, .slice Y6 m6 d6] rfl rfl (blk_news (Blk.new _ _ _)) (by intro u hu; simp only [List.mem_cons, List.not_mem_nil, or_false] at hu; rcases hu with rfl | rfl | rfl | rfl | rfl | rfl <;> rfl) (by have := HJ.out; unfold maxLen; omega) (by have := HJ.out; omega) (by have := HLZ.out; have := HB8.out.size; simp; omega) ?_)
                     intro v' w9 hown hgrow hnil hat
                     obtain ⟨vA', vn', vc', rfl, hvn'⟩ := own_form' hown
                     have HVN' := Lib.hid hvn'
                     have HO9 := Lib.hid hown
                     have HG9 := Lib.hid hgrow
                     have HA9 := Lib.hid hat
                     clear hown hgrow hnil hat hvn'))
                go_meet
                have hal : Below w8.heap.size w8 (w8.alloc (.cells #[.slice Y1 m1 d1, .slice Y2 m2 d2, .slice Y3 m3 d3, .slice Y4 m4 d4, .slice Y5 m5 d5, .slice Y6 m6 d6] 29)) := (Below.refl _ _).alloc (Nat.le_refl _) _
                have hLw : LL ≤ w8.heap.size := Nat.le_trans HLZ.out HB8.out.size
                have hbig : Below LL (w8.alloc (.cells #[.slice Y1 m1 d1, .slice Y2 m2 d2, .slice Y3 m3 d3, .slice Y4 m4 d4, .slice Y5 m5 d5, .slice Y6 m6 d6] 29)) w9 := Below.grown (Below.refl _ _) HG9.out (by simp; omega) (fun r e => (HSL.out.2 r (HSL.out.1 r e)).1)
                have hb9 : Below w.heap.size w w9 := (below_step (below_step HBz.out HB8.out) hal).trans (hbig.mono HLL.out)
                have hk9 : Blk w9 g 29 #[.slice A1 n1 c1, .slice (some ⟨b, off, none⟩) n2 c2, .slice A3 n3 c3, .slice A4 n4 c4, .slice A5 n5 c5, .slice A6 n6 c6] := HK8.out.below ((hal.mono hLw).trans hbig) HGL.out
                have hl9 : LL ≤ w9.heap.size := Nat.le_trans hLw (Nat.le_trans hal.size hbig.size)
                exact ⟨ll ++ [sn], Grow.push HSL.out.1 (fun b hb => ⟨(HSL.out.2 b hb).1, Nat.lt_of_lt_of_le (HSL.out.2 b hb).2 (Nat.le_trans HB8.out.size hal.size)⟩) (HCL.out.mono qSourceR_mono (hideL_below hal)) qSourceR_mono HO9.out (by simp) HG9.out HA9.out (by simp; omega) (HRD.out.mono qSourceR_mono (hideL_below hal)), by have := HJ.out; rw [List.length_append]; simp only [List.length_cons, List.length_nil]; omega, fun z hz => (List.mem_append.1 hz).elim (HT.out z) (fun h => by rw [List.mem_singleton.1 h]; exact HRM.out), hb9, hk9, hl9⟩
            · have hnk : ¬ (0 : Int) < (n2 : Int) := by omega
              have hnd : decide ((0 : Int) < (n2 : Int)) = false := by simp; omega
              go_wp2_with fail
              go_meet
              exact ⟨ll, HG.out, by have := HJ.out; omega, HT.out, HBz.out, HKz.out, HLZ.out⟩
        case rest =>
          clear HG HJ HT HBz HKz HLZ k0 k1 k2 k3 k4 k5
          obtain ⟨ll, hg, hj, ht, hbz, hkz, hlz⟩ := hcut
          obtain ⟨W0, rfl⟩ : ∃ x, x = wc := ⟨_, rfl⟩
          obtain ⟨B7, e7, rfl⟩ := hg.form
          have HG := Lib.hid hg
          have HJ := Lib.hid hj
          have HT := Lib.hid ht
          have HBz := Lib.hid hbz
          have HKz := Lib.hid hkz
          have HLZ := Lib.hid hlz
          clear hg hj ht hbz hkz hlz
          obtain ⟨k0, k1, k2, k3, k4, k5⟩ := six_cells HKz.out (Below.refl _ _)
          go_upto_if 93 with fail
          go_cut [7] from 13 to 115 (fun v7 wx => ∃ l : List QSource, Grow LL 29 6 qSourceR v7 l wx ∧ l.length ≤ 3 ∧ (∀ x ∈ l, resolveP x = (111, noSource)) ∧ Below w.heap.size w wx ∧ Blk wx g 29 #[.slice A1 n1 c1, .slice A2 n2 c2, .slice A3 n3 c3, .slice A4 n4 c4, .slice A5 n5 c5, .slice A6 n6 c6] ∧ LL ≤ wx.heap.size)
          case first =>
            · skip
              by_cases hn : 0 < n6
              · have hnk : (0 : Int) < (n6 : Int) := by omega
                have hnd : decide ((0 : Int) < (n6 : Int)) = true := by simp; omega
                go_upto_region 22 with fail
                have hal : Below W0.heap.size W0 (W0.alloc (.cells #[.slice A1 n1 c1, .slice A2 n2 c2, .slice A3 n3 c3, .slice A4 n4 c4, .slice A5 n5 c5, .slice A6 n6 c6] 29)) := (Below.refl _ _).alloc (Nat.le_refl _) _
                have hx5 : Blk (W0.alloc (.cells #[.slice A1 n1 c1, .slice A2 n2 c2, .slice A3 n3 c3, .slice A4 n4 c4, .slice A5 n5 c5, .slice A6 n6 c6] 29)) W0.heap.size 29 #[.slice A1 n1 c1, .slice A2 n2 c2, .slice A3 n3 c3, .slice A4 n4 c4, .slice A5 n5 c5, .slice A6 n6 c6] := Blk.new _ _ _
                obtain ⟨gx, hgx⟩ : ∃ g, g = W0.heap.size := ⟨_, rfl⟩
                have HGX := Lib.hid hgx
                rw [← hgx] at hx5 ⊢
                generalize W0.alloc (.cells #[.slice A1 n1 c1, .slice A2 n2 c2, .slice A3 n3 c3, .slice A4 n4 c4, .slice A5 n5 c5, .slice A6 n6 c6] 29) = w5 at hx5 hal ⊢
                have HAL := Lib.hid hal
                have HB5 := Lib.hid (below_step HBz.out hal)
                have HX5 := Lib.hid hx5
                have HP5 := Lib.hid (src_parts (qSourceR_mono _ _ HB5.out _ _ HS.out))
                clear hx5 hgx hal k0 k1 k2 k3 k4 k5
                obtain ⟨k0, k1, k2, k3, k4, k5⟩ := six_cells (HKz.out.below HAL.out HKz.out.lt) (Below.refl _ _)
                have lg : g < w5.heap.size := Nat.lt_of_lt_of_le HKz.out.lt HAL.out.size
                have lx := HX5.out.lt
                obtain ⟨k, hkt, hkn⟩ : ∃ k : Nat, (a.tmod (n6 : Int)) = (k : Int) ∧ k < n6 := ⟨(a.tmod (n6 : Int)).toNat, (Int.toNat_of_nonneg (Int.tmod_nonneg _ ha0)).symm, by
                  have h1 := Int.tmod_nonneg (n6 : Int) ha0
                  have h2 := Int.tmod_lt_of_pos a (show (0 : Int) < (n6 : Int) by omega)
                  omega⟩
                have HPz := Lib.hid (src_parts (qSourceR_mono _ _ HBz.out _ _ HS.out))
                obtain ⟨b, off, u, B1, m1, e1, rfl, hbl, hx, s0, -, -, -⟩ := qPurpose_at HPz.out.2.2.2.2.2.1 hkn
                obtain ⟨x, hxe⟩ : ∃ x, x = u.name := ⟨_, rfl⟩
                rw [← hxe] at s0
                have HX := Lib.hid (And.intro hx hxe)
                clear hx hxe HPz
                have h0k : (0 : Int) ≤ (k : Int) := by omega
                have hkni : (k : Int) < (n6 : Int) := by omega
                have hn0 : ¬ (n6 : Int) = 0 := by omega
                have hn1 : ¬ n6 = 0 := by omega
                have hwa : IntKind.i64.wrap a = a := IntWalk.i64_in _ (by omega)
                have HKS : Hid (∀ X : World, Below W0.heap.size W0 X → X.cell? ⟨g, 5, none⟩ = some (.slice (some ⟨b, off, none⟩) n6 c6) ∧ X.cell? ⟨b, off + k * 3, none⟩ = some (.string x) ∧ Below W0.heap.size W0 X) := Lib.hid (fun X hX => ⟨(hX.cell (p := ⟨g, 5, none⟩) HKz.out.lt).trans (by rw [HKz.out.cell]; rfl), (hX.cell (p := ⟨b, off + k * 3, none⟩) hbl).trans s0, hX⟩)
                have e0 := (HAL.out.cell (p := ⟨b, off + k * 3, none⟩) hbl).trans s0
                clear s0
                go_cut [13] from 93 to 111 (fun x9 wx => x9 = .pointer (some ⟨gx, 0, none⟩) ∧ ∃ (cs : List Value) (x : QSource), Blk wx gx 29 cs.toArray ∧ Below W0.heap.size W0 wx ∧ (∀ S : List Nat, (∀ b ∈ S, LL ≤ b ∧ b < W0.heap.size) → qSourceR (hideL S wx) cs x) ∧ resolveP x = (111, noSource))
                case first =>
                  · skip
                    go_region_held3 (fun w' => w'.cell? ⟨g, 5, none⟩ = some (.slice (some ⟨b, off, none⟩) n6 c6) ∧ w'.cell? ⟨b, off + k * 3, none⟩ = some (.string x) ∧ Below W0.heap.size W0 w')
                      (first | exact HKS.out _ (below_step HAL.out HB7.out) | exact HKS.out _ ((below_step HAL.out HB7.out).setCell (by have := HGX.out; show W0.heap.size ≤ gx; omega) _) | exact HKS.out _ ((below_step HAL.out HB6.out).alloc (by have := HAL.out.size; have := HB6.out.size; omega) _) | exact HKS.out _ (below_step HAL.out HB6.out) | exact HKS.out _ HAL.out | exact HKS.out _ (below_step HAL.out (((Below.refl _ _).alloc (Nat.le_refl _) _).drew)) | exact HKS.out _ (below_step HAL.out ((((Below.refl _ _).alloc (Nat.le_refl _) _).alloc (by simp) _).drew)) | exact HKS.out _ (below_step HAL.out (Below.refl _ _).drew))
                      (first
                        | (refine step_append_row _ (by rfl) (.tmp 95) (.tmp 97) 27 74 (by rfl) j6 _ 48 Try.underlying27 I6.out Z6.out.1 Z6.out.2.1 Z6.out.2.2 rfl (by decide) (R := fun _ => qPurposeR w) (fun _ => qPurposeR_one w) w5.heap.size (.slice (some ⟨w5.heap.size, 0, none⟩) 0 0) 0 [] (by rfl) ?_ (some ⟨b, off, none⟩) n6 c6 s.purposes (by rfl) ?_ ?_ ?_ ?_ ?_
                           · first | (with_reducible show World.ownsRow (World.drew (World.alloc w5 _)) _ _ _ _ _ _) | (with_reducible show World.ownsRow (World.alloc w5 _) _ _ _ _ _ _) | (with_reducible show World.ownsRow (World.drew (World.drew (World.alloc w5 _))) _ _ _ _ _ _)
                             exact own_of_blk (Blk.new w5 74 #[]).drew (Nat.le_refl _)
                           · exact (src_parts HS.out).2.2.2.2.2.1.fix (below_step HB5.out ((below_one _ _).drew))
                           · have := HLN6.out; unfold maxLen; omega
                           · have := HLN6.out; omega
                           · exact ((below_one _ _).drew).size
                           intro v1 w6 cs hcs1 ho1 hgr1 hat1
                           have hcs1 : CellsR 3 qPurposeR w cs s.purposes := ⟨hcs1.1, hcs1.2⟩
                           have hb6 : Below w5.heap.size w5 w6 := Below.grown ((below_one _ _).drew) hgr1 ((below_one _ _).drew).size (fun r e => Nat.le_of_eq (Option.some.inj e))
                           skip
                           rw [Nat.zero_add, List.nil_append] at ho1
                           obtain ⟨vA, vn, vc, rfl, hvn⟩ := own_form' ho1
                           have HVN := Lib.hid hvn
                           have HO6 := Lib.hid ho1
                           have HC6 := Lib.hid hcs1
                           have HB6 := Lib.hid hb6
                           clear hcs1 ho1 hgr1 hat1 hvn hb6)
                        | (refine step_append_row _ (by rfl) (.tmp 95) (.tmp 97) 27 74 (by rfl) j6 _ 48 Try.underlying27 I6.out Z6.out.1 Z6.out.2.1 Z6.out.2.2 rfl (by decide) (R := fun _ => qPurposeR w) (fun _ => qPurposeR_one w) w5.heap.size (.slice (some ⟨w5.heap.size, 0, none⟩) 0 0) 0 [] (by rfl) ?_ (some ⟨b, off, none⟩) n6 c6 s.purposes (by rfl) ?_ ?_ ?_ ?_ ?_
                           · first | (with_reducible show World.ownsRow (World.drew (World.alloc (World.alloc w5 _) _)) _ _ _ _ _ _) | (with_reducible show World.ownsRow (World.alloc (World.alloc w5 _) _) _ _ _ _ _ _) | (with_reducible show World.ownsRow (World.drew (World.drew (World.alloc (World.alloc w5 _) _))) _ _ _ _ _ _)
                             exact own_of_blk ((Blk.new w5 74 #[]).alloc _).drew (Nat.le_refl _)
                           · exact (src_parts HS.out).2.2.2.2.2.1.fix (below_step HB5.out ((below_two _ _ _).drew))
                           · have := HLN6.out; unfold maxLen; omega
                           · have := HLN6.out; omega
                           · exact ((below_two _ _ _).drew).size
                           intro v1 w6 cs hcs1 ho1 hgr1 hat1
                           have hcs1 : CellsR 3 qPurposeR w cs s.purposes := ⟨hcs1.1, hcs1.2⟩
                           have hb6 : Below w5.heap.size w5 w6 := Below.grown ((below_two _ _ _).drew) hgr1 ((below_two _ _ _).drew).size (fun r e => Nat.le_of_eq (Option.some.inj e))
                           have HBN : Hid (Blk w6 (w5.heap.size + 1) 74 #[.string x, .slice none 0 0, .int .i64 0]) := Lib.hid (Blk.grown (blk_new2 w5 (.cells #[] 74) 74 #[.string x, .slice none 0 0, .int .i64 0]).drew hgr1 (fun e => Nat.succ_ne_self _ (Option.some.inj e)))
                           rw [Nat.zero_add, List.nil_append] at ho1
                           obtain ⟨vA, vn, vc, rfl, hvn⟩ := own_form' ho1
                           have HVN := Lib.hid hvn
                           have HO6 := Lib.hid ho1
                           have HC6 := Lib.hid hcs1
                           have HB6 := Lib.hid hb6
                           clear hcs1 ho1 hgr1 hat1 hvn hb6)
                        | (refine step_append_row _ (by rfl) (.tmp 95) (.tmp 97) 27 74 (by rfl) j6 _ 48 Try.underlying27 I6.out Z6.out.1 Z6.out.2.1 Z6.out.2.2 rfl (by decide) (R := fun _ => qPurposeR w) (fun _ => qPurposeR_one w) w5.heap.size (.slice (some ⟨w5.heap.size + 1, 0, none⟩) 0 0) 0 [] (by rfl) ?_ (some ⟨b, off, none⟩) n6 c6 s.purposes (by rfl) ?_ ?_ ?_ ?_ ?_
                           · first | (with_reducible show World.ownsRow (World.drew (World.alloc (World.alloc w5 _) _)) _ _ _ _ _ _) | (with_reducible show World.ownsRow (World.alloc (World.alloc w5 _) _) _ _ _ _ _ _) | (with_reducible show World.ownsRow (World.drew (World.drew (World.alloc (World.alloc w5 _) _))) _ _ _ _ _ _)
                             exact own_of_blk (blk_new2 w5 (.cells #[.string x, .slice none 0 0, .int .i64 0] 74) 74 #[]).drew (Nat.le_succ _)
                           · exact (src_parts HS.out).2.2.2.2.2.1.fix (below_step HB5.out ((below_two _ _ _).drew))
                           · have := HLN6.out; unfold maxLen; omega
                           · have := HLN6.out; omega
                           · exact ((below_two _ _ _).drew).size
                           intro v1 w6 cs hcs1 ho1 hgr1 hat1
                           have hcs1 : CellsR 3 qPurposeR w cs s.purposes := ⟨hcs1.1, hcs1.2⟩
                           have hb6 : Below w5.heap.size w5 w6 := Below.grown ((below_two _ _ _).drew) hgr1 ((below_two _ _ _).drew).size (fun r e => Nat.le_of_succ_le (Nat.le_of_eq (Option.some.inj e)))
                           have HBN : Hid (Blk w6 w5.heap.size 74 #[.string x, .slice none 0 0, .int .i64 0]) := Lib.hid (Blk.grown ((Blk.new w5 74 #[.string x, .slice none 0 0, .int .i64 0]).alloc _).drew hgr1 (fun e => Nat.succ_ne_self _ (Option.some.inj e).symm))
                           rw [Nat.zero_add, List.nil_append] at ho1
                           obtain ⟨vA, vn, vc, rfl, hvn⟩ := own_form' ho1
                           have HVN := Lib.hid hvn
                           have HO6 := Lib.hid ho1
                           have HC6 := Lib.hid hcs1
                           have HB6 := Lib.hid hb6
                           clear hcs1 ho1 hgr1 hat1 hvn hb6)
                        | (refine step_append_own_at _ (by rfl) (.tmp 98) (.tmp 109) 27 (by rfl) w5.heap.size 74 j6 _ 3 48 Try.underlying27 I6.out Z6.out.1 Z6.out.2.1 Z6.out.2.2 rfl (by decide) (.slice vA vn vc) n6 cs (by rfl) ?_ ⟨w6.heap.size, 0, none⟩ 1 1 [.string x, .slice none 0 0, .int .i64 0] (by rfl) rfl ?_ (by intro u hu; simp only [List.mem_cons, List.not_mem_nil, or_false] at hu; rcases hu with rfl | rfl | rfl <;> rfl) ?_ ?_ ?_ ?_
                           · exact HO6.out.alloc _
                           · exact blk_news (Blk.new _ _ _)
                           · have := HLN6.out; unfold maxLen; omega
                           · have := HLN6.out; omega
                           · have := HB6.out.size; simp; omega
                           intro v' w7 hown hgrow hat
                           obtain ⟨vA', vn', vc', rfl, hvn'⟩ := own_form' hown
                           have hb7 : Below w5.heap.size w5 w7 := Below.grown (HB6.out.alloc HB6.out.size _) hgrow (by have := HB6.out.size; simp; omega) (fun r e => (HO6.out.lt r e).1)
                           have HVN' := Lib.hid hvn'
                           have HO7 := Lib.hid hown
                           have HB7 := Lib.hid hb7
                           have hx7 := HX5.out.below hb7 lx
                           have q7 := hx7.cell 5
                           have f7 := hx7.frozen 5
                           simp only [List.getElem?_toArray, List.getElem?_cons_zero, List.getElem?_cons_succ] at q7
                           have lx7 := hx7.lt
                           have HX7 := Lib.hid hx7
                           clear hx7
                           clear hown hgrow hat hvn' hb7)
                        | (refine step_append_own_at _ (by rfl) (.tmp 98) (.tmp 109) 27 (by rfl) w5.heap.size 74 j6 _ 3 48 Try.underlying27 I6.out Z6.out.1 Z6.out.2.1 Z6.out.2.2 rfl (by decide) (.slice vA vn vc) n6 cs (by rfl) ?_ ⟨w5.heap.size + 1, 0, none⟩ 1 1 [.string x, .slice none 0 0, .int .i64 0] (by rfl) rfl ?_ (by intro u hu; simp only [List.mem_cons, List.not_mem_nil, or_false] at hu; rcases hu with rfl | rfl | rfl <;> rfl) ?_ ?_ ?_ ?_
                           · exact HO6.out
                           · exact blk_news HBN.out
                           · have := HLN6.out; unfold maxLen; omega
                           · have := HLN6.out; omega
                           · have := HB6.out.size; simp; omega
                           intro v' w7 hown hgrow hat
                           obtain ⟨vA', vn', vc', rfl, hvn'⟩ := own_form' hown
                           have hb7 : Below w5.heap.size w5 w7 := Below.grown HB6.out hgrow (by have := HB6.out.size; simp; omega) (fun r e => (HO6.out.lt r e).1)
                           have HVN' := Lib.hid hvn'
                           have HO7 := Lib.hid hown
                           have HB7 := Lib.hid hb7
                           have hx7 := HX5.out.below hb7 lx
                           have q7 := hx7.cell 5
                           have f7 := hx7.frozen 5
                           simp only [List.getElem?_toArray, List.getElem?_cons_zero, List.getElem?_cons_succ] at q7
                           have lx7 := hx7.lt
                           have HX7 := Lib.hid hx7
                           clear hx7
                           clear hown hgrow hat hvn' hb7)
                        | (refine step_append_own_at _ (by rfl) (.tmp 98) (.tmp 109) 27 (by rfl) w5.heap.size 74 j6 _ 3 48 Try.underlying27 I6.out Z6.out.1 Z6.out.2.1 Z6.out.2.2 rfl (by decide) (.slice vA vn vc) n6 cs (by rfl) ?_ ⟨w5.heap.size, 0, none⟩ 1 1 [.string x, .slice none 0 0, .int .i64 0] (by rfl) rfl ?_ (by intro u hu; simp only [List.mem_cons, List.not_mem_nil, or_false] at hu; rcases hu with rfl | rfl | rfl <;> rfl) ?_ ?_ ?_ ?_
                           · exact HO6.out
                           · exact blk_news HBN.out
                           · have := HLN6.out; unfold maxLen; omega
                           · have := HLN6.out; omega
                           · have := HB6.out.size; simp; omega
                           intro v' w7 hown hgrow hat
                           obtain ⟨vA', vn', vc', rfl, hvn'⟩ := own_form' hown
                           have hb7 : Below w5.heap.size w5 w7 := Below.grown HB6.out hgrow (by have := HB6.out.size; simp; omega) (fun r e => (HO6.out.lt r e).1)
                           have HVN' := Lib.hid hvn'
                           have HO7 := Lib.hid hown
                           have HB7 := Lib.hid hb7
                           have hx7 := HX5.out.below hb7 lx
                           have q7 := hx7.cell 5
                           have f7 := hx7.frozen 5
                           simp only [List.getElem?_toArray, List.getElem?_cons_zero, List.getElem?_cons_succ] at q7
                           have lx7 := hx7.lt
                           have HX7 := Lib.hid hx7
                           clear hx7
                           clear hown hgrow hat hvn' hb7)
                        | fail)
                    all_goals
                      go_wp2_with fail
                      go_meet
                      have hx8 : Blk (w7.setCell ⟨gx, 5, none⟩ (.slice vA' vn' vc')) gx 29 [.slice A1 n1 c1, .slice A2 n2 c2, .slice A3 n3 c3, .slice A4 n4 c4, .slice A5 n5 c5, .slice vA' vn' vc'].toArray := HX7.out.put 5 _
                      have hb8 : Below W0.heap.size W0 (w7.setCell ⟨gx, 5, none⟩ (.slice vA' vn' vc')) := (below_step HAL.out HB7.out).setCell (by have := HGX.out; show W0.heap.size ≤ gx; omega) _
                      have ho8 := own_far HO7.out (show (⟨gx, 5, none⟩ : Addr).block < w5.heap.size from lx) (.slice vA' vn' vc')
                      generalize (w7.setCell ⟨gx, 5, none⟩ (.slice vA' vn' vc')) = w8 at hx8 hb8 ho8 ⊢
                      refine ⟨rfl, _, { s with purposes := s.purposes ++ [(⟨x, [], 0⟩ : QPurpose)] }, hx8, hb8, fun S hS => ?_, two2x HX.out⟩
                      have hbS : Below w.heap.size w (hideL S w8) := hideL_old (below_step HBz.out hb8) (fun b hb => Nat.le_trans HLL.out (hS b hb).1)
                      have hp := src_parts (qSourceR_mono _ _ hbS _ _ HS.out)
                      have hnew : SlB 3 48 qPurposeR (hideL S w8) (.slice vA' vn' vc') (s.purposes ++ [(⟨x, [], 0⟩ : QPurpose)]) := slB_more (hideL_own ho8 (fun b hb => Nat.lt_of_lt_of_le (hS b hb).2 HAL.out.size)) (HC6.out.mono qPurposeR_mono hbS) rfl (show qPurposeR (hideL S w8) _ (⟨x, [], 0⟩ : QPurpose) from ⟨none, 0, 0, rfl, nilB⟩) (HLE6.out) (by have := HLN6.out; have := HLE6.out; omega)
                      exact src_whole hp.1 hp.2.1 hp.2.2.1 hp.2.2.2.1 hp.2.2.2.2.1 hnew
                case rest =>
                  obtain ⟨rfl, csn, sn, hx8, hb8, hrd, hrm⟩ := hcut
                  obtain ⟨w8, rfl⟩ : ∃ x, x = wc := ⟨_, rfl⟩
                  obtain ⟨Y1, m1, d1, Y2, m2, d2, Y3, m3, d3, Y4, m4, d4, Y5, m5, d5, Y6, m6, d6, rfl, -⟩ := id (hrd [] (by simp))
                  obtain ⟨csl, SL, hol, h2, h3, hc⟩ := HG.out
                  have HOL := Lib.hid (own_below0 hol hb8)
                  have HSL := Lib.hid (And.intro h2 h3)
                  have HCL := Lib.hid (hc.mono qSourceR_mono (hideL_below hb8))
                  have HRD := Lib.hid (CellsR.one (R := qSourceR) rfl (hrd SL h3))
                  have HRM := Lib.hid hrm
                  have HB8 := Lib.hid hb8
                  have HK8 := Lib.hid (HKz.out.below hb8 HKz.out.lt)
                  clear k0 k1 k2 k3 k4 k5 e0 hkt hwa hol h2 h3 hc hrd hrm hb8
                  obtain ⟨y0, y1, y2, y3, y4, y5⟩ := six_cells hx8 (Below.refl _ _)
                  clear hx8
                  go_wp2_with (first
                    | (at_builtin; go_loud (refine wpList_append_own_at _ rfl (.tmp 112) (.tmp 114) 77 rfl LL 29 j0 _ 6 144 Try.underlying77 I0.out Z0.out.1 Z0.out.2.1 Z0.out.2.2 rfl (by decide) (.slice B7 ll.length e7) ll.length csl rfl (HOL.out.alloc _) ⟨w8.heap.size, 0, none⟩ 1 1 [.slice Y1 m1 d1, .slice Y2 m2 d2, .slice Y3 m3 d3, .slice Y4 m4 d4, .slice Y5 m5 d5, .slice Y6 m6 d6] rfl rfl (blk_news (Blk.new _ _ _)) (by intro u hu; simp only [List.mem_cons, List.not_mem_nil, or_false] at hu; rcases hu with rfl | rfl | rfl | rfl | rfl | rfl <;> rfl) (by have := HJ.out; unfold maxLen; omega) (by have := HJ.out; omega) (by have := HLZ.out; have := HB8.out.size; simp; omega) ?_)
                       intro v' w9 hown hgrow hnil hat
                       obtain ⟨vA', vn', vc', rfl, hvn'⟩ := own_form' hown
                       have HVN' := Lib.hid hvn'
                       have HO9 := Lib.hid hown
                       have HG9 := Lib.hid hgrow
                       have HA9 := Lib.hid hat
                       clear hown hgrow hnil hat hvn'))
                  go_meet
                  have hal : Below w8.heap.size w8 (w8.alloc (.cells #[.slice Y1 m1 d1, .slice Y2 m2 d2, .slice Y3 m3 d3, .slice Y4 m4 d4, .slice Y5 m5 d5, .slice Y6 m6 d6] 29)) := (Below.refl _ _).alloc (Nat.le_refl _) _
                  have hLw : LL ≤ w8.heap.size := Nat.le_trans HLZ.out HB8.out.size
                  have hbig : Below LL (w8.alloc (.cells #[.slice Y1 m1 d1, .slice Y2 m2 d2, .slice Y3 m3 d3, .slice Y4 m4 d4, .slice Y5 m5 d5, .slice Y6 m6 d6] 29)) w9 := Below.grown (Below.refl _ _) HG9.out (by simp; omega) (fun r e => (HSL.out.2 r (HSL.out.1 r e)).1)
                  have hb9 : Below w.heap.size w w9 := (below_step (below_step HBz.out HB8.out) hal).trans (hbig.mono HLL.out)
                  have hk9 : Blk w9 g 29 #[.slice A1 n1 c1, .slice A2 n2 c2, .slice A3 n3 c3, .slice A4 n4 c4, .slice A5 n5 c5, .slice (some ⟨b, off, none⟩) n6 c6] := HK8.out.below ((hal.mono hLw).trans hbig) HGL.out
                  have hl9 : LL ≤ w9.heap.size := Nat.le_trans hLw (Nat.le_trans hal.size hbig.size)
                  exact ⟨ll ++ [sn], Grow.push HSL.out.1 (fun b hb => ⟨(HSL.out.2 b hb).1, Nat.lt_of_lt_of_le (HSL.out.2 b hb).2 (Nat.le_trans HB8.out.size hal.size)⟩) (HCL.out.mono qSourceR_mono (hideL_below hal)) qSourceR_mono HO9.out (by simp) HG9.out HA9.out (by simp; omega) (HRD.out.mono qSourceR_mono (hideL_below hal)), by have := HJ.out; rw [List.length_append]; simp only [List.length_cons, List.length_nil]; omega, fun z hz => (List.mem_append.1 hz).elim (HT.out z) (fun h => by rw [List.mem_singleton.1 h]; exact HRM.out), hb9, hk9, hl9⟩
              · have hnk : ¬ (0 : Int) < (n6 : Int) := by omega
                have hnd : decide ((0 : Int) < (n6 : Int)) = false := by simp; omega
                go_wp2_with fail
                go_meet
                exact ⟨ll, HG.out, by have := HJ.out; omega, HT.out, HBz.out, HKz.out, HLZ.out⟩
          case rest =>
            clear HG HJ HT HBz HKz HLZ k0 k1 k2 k3 k4 k5
            obtain ⟨ll, hg, hj, ht, hbz, hkz, hlz⟩ := hcut
            obtain ⟨W0, rfl⟩ : ∃ x, x = wc := ⟨_, rfl⟩
            obtain ⟨B7, e7, rfl⟩ := hg.form
            have HG := Lib.hid hg
            have HJ := Lib.hid hj
            have HT := Lib.hid ht
            have HBz := Lib.hid hbz
            have HKz := Lib.hid hkz
            have HLZ := Lib.hid hlz
            clear hg hj ht hbz hkz hlz
            obtain ⟨k0, k1, k2, k3, k4, k5⟩ := six_cells HKz.out (Below.refl _ _)
            go_upto_if 120 with fail
            go_cut [7] from 15 to 167 (fun v7 wx => ∃ l : List QSource, Grow LL 29 6 qSourceR v7 l wx ∧ l.length ≤ 5 ∧ (∀ x ∈ l, resolveP x = (111, noSource)) ∧ Below w.heap.size w wx ∧ Blk wx g 29 #[.slice A1 n1 c1, .slice A2 n2 c2, .slice A3 n3 c3, .slice A4 n4 c4, .slice A5 n5 c5, .slice A6 n6 c6] ∧ LL ≤ wx.heap.size)
            case first =>
              · skip
                by_cases hn : 0 < n3
                · have hnk : (0 : Int) < (n3 : Int) := by omega
                  have hnd : decide ((0 : Int) < (n3 : Int)) = true := by simp; omega
                  obtain ⟨k, hkt, hkn⟩ : ∃ k : Nat, (a.tmod (n3 : Int)) = (k : Int) ∧ k < n3 := ⟨(a.tmod (n3 : Int)).toNat, (Int.toNat_of_nonneg (Int.tmod_nonneg _ ha0)).symm, by
                    have h1 := Int.tmod_nonneg (n3 : Int) ha0
                    have h2 := Int.tmod_lt_of_pos a (show (0 : Int) < (n3 : Int) by omega)
                    omega⟩
                  have hke : a % (n3 : Int) = (k : Int) := by rw [← hkt, Int.tmod_eq_emod_of_nonneg ha0]
                  obtain ⟨b, off, u, B1, m1, e1, B2, m2, e2, rfl, hbl, hx, s0, -, -, -, s4, -, hfl, -⟩ := qSchema_at (src_parts HS.out).2.2.1.1 hkn
                  obtain ⟨x, hxe⟩ : ∃ x, x = u.name := ⟨_, rfl⟩
                  rw [← hxe] at s0
                  have HX := Lib.hid (And.intro hx hxe)
                  have HFL := Lib.hid hfl
                  have HLM : Hid (m1 ≤ 1048576) := Lib.hid (by rw [hfl.1.len]; exact HBF.out u (List.mem_of_getElem? hx))
                  have mle := hfl.1.le
                  have HBL := Lib.hid hbl
                  have HE0 := Lib.hid s0
                  have HE4 := Lib.hid s4
                  clear hx hxe hfl hbl s0 s4
                  have h0k : (0 : Int) ≤ (k : Int) := by omega
                  have hkni : (k : Int) < (n3 : Int) := by omega
                  have hn0 : ¬ (n3 : Int) = 0 := by omega
                  have hn1 : ¬ n3 = 0 := by omega
                  go_upto_region 27 with fail
                  have HKS : Hid (∀ X : World, Below W0.heap.size W0 X → X.cell? ⟨g, 0, none⟩ = some (.slice A1 n1 c1) ∧ X.cell? ⟨g, 1, none⟩ = some (.slice A2 n2 c2) ∧ X.cell? ⟨g, 2, none⟩ = some (.slice (some ⟨b, off, none⟩) n3 c3) ∧ X.cell? ⟨g, 3, none⟩ = some (.slice A4 n4 c4) ∧ X.cell? ⟨g, 4, none⟩ = some (.slice A5 n5 c5) ∧ X.cell? ⟨g, 5, none⟩ = some (.slice A6 n6 c6) ∧ Below W0.heap.size W0 X) := Lib.hid (fun X hX => by
                    obtain ⟨a0, a1, a2, a3, a4, a5⟩ := six_cells HKz.out hX
                    exact ⟨a0, a1, a2, a3, a4, a5, hX⟩)
                  go_cut [16, 17] from 120 to 126 (fun x16 x17 wx => ∃ gx gy, x16 = .pointer (some ⟨gx, 0, none⟩) ∧ x17 = .pointer (some ⟨gy, 0, none⟩) ∧ gx ≠ gy ∧ W0.heap.size ≤ gx ∧ W0.heap.size ≤ gy ∧ Blk wx gx 29 #[.slice A1 n1 c1, .slice A2 n2 c2, .slice (some ⟨b, off, none⟩) n3 c3, .slice A4 n4 c4, .slice A5 n5 c5, .slice A6 n6 c6] ∧ Blk wx gy 29 #[.slice A1 n1 c1, .slice A2 n2 c2, .slice (some ⟨b, off, none⟩) n3 c3, .slice A4 n4 c4, .slice A5 n5 c5, .slice A6 n6 c6] ∧ Below W0.heap.size W0 wx)
                  case first =>
                    go_region_held3 (fun w' => w'.cell? ⟨g, 0, none⟩ = some (.slice A1 n1 c1) ∧ w'.cell? ⟨g, 1, none⟩ = some (.slice A2 n2 c2) ∧ w'.cell? ⟨g, 2, none⟩ = some (.slice (some ⟨b, off, none⟩) n3 c3) ∧ w'.cell? ⟨g, 3, none⟩ = some (.slice A4 n4 c4) ∧ w'.cell? ⟨g, 4, none⟩ = some (.slice A5 n5 c5) ∧ w'.cell? ⟨g, 5, none⟩ = some (.slice A6 n6 c6) ∧ Below W0.heap.size W0 w')
                      (first | exact HKS.out _ (Below.refl _ _) | exact HKS.out _ (Below.refl _ _).drew | exact HKS.out _ ((Below.refl _ _).drew.alloc (by simp) _) | exact HKS.out _ (((Below.refl _ _).drew.alloc (by simp) _).alloc (by simp) _))
                      (fail)
                    all_goals
                      go_wp2_with fail
                      go_meet
                      refine ⟨_, _, rfl, rfl, by omega, by omega, by omega, ?_, ?_, ((Below.refl _ _).drew.alloc (by simp) _).alloc (by simp) _⟩
                      · first | exact ((Blk.new _ _ _).alloc _).drew | exact (blk_new2 _ _ _ _).drew
                      · first | exact ((Blk.new _ _ _).alloc _).drew | exact (blk_new2 _ _ _ _).drew
                  case rest =>
                    obtain ⟨gx, gy, rfl, rfl, hxy, hgx, hgy, hx5, hy5, hal⟩ := hcut
                    obtain ⟨w5, rfl⟩ : ∃ x, x = wc := ⟨_, rfl⟩
                    have HXY := Lib.hid hxy
                    have HGX := Lib.hid hgx
                    have HGY := Lib.hid hgy
                    have HAL := Lib.hid hal
                    have HX5 := Lib.hid hx5
                    have HY5 := Lib.hid hy5
                    have HB5 := Lib.hid (below_step HBz.out hal)
                    have lx := hx5.lt
                    have ly := hy5.lt
                    clear HKS hxy hgx hgy hal hx5 hy5 k0 k1 k2 k3 k4 k5
                    obtain ⟨k0, k1, k2, k3, k4, k5⟩ := six_cells (HKz.out.below HAL.out HKz.out.lt) (Below.refl _ _)
                    have lg : g < w5.heap.size := Nat.lt_of_lt_of_le HKz.out.lt HAL.out.size
                    have e0 := (HB5.out.cell (p := ⟨b, off + k * 6, none⟩) HBL.out).trans HE0.out
                    have HKS : Hid (∀ X : World, Below W0.heap.size W0 X → X.cell? ⟨g, 2, none⟩ = some (.slice (some ⟨b, off, none⟩) n3 c3) ∧ X.cell? ⟨b, off + k * 6, none⟩ = some (.string x) ∧ Below W0.heap.size W0 X) := Lib.hid (fun X hX => ⟨(hX.cell (p := ⟨g, 2, none⟩) HKz.out.lt).trans (by rw [HKz.out.cell]; rfl), ((below_step HBz.out hX).cell (p := ⟨b, off + k * 6, none⟩) HBL.out).trans HE0.out, hX⟩)
                    go_upto_region 28 with fail
                    go_cut [16] from 127 to 140 (fun x16 wx => x16 = .pointer (some ⟨gx, 0, none⟩) ∧ ∃ (vA : Option Addr) (vn vc : Nat) (cs : List Value), Blk wx gx 29 #[.slice A1 n1 c1, .slice A2 n2 c2, .slice vA vn vc, .slice A4 n4 c4, .slice A5 n5 c5, .slice A6 n6 c6] ∧ Blk wx gy 29 #[.slice A1 n1 c1, .slice A2 n2 c2, .slice (some ⟨b, off, none⟩) n3 c3, .slice A4 n4 c4, .slice A5 n5 c5, .slice A6 n6 c6] ∧ Below W0.heap.size W0 wx ∧ w5.heap.size ≤ wx.heap.size ∧ wx.ownsRow w5.heap.size 40 6 (.slice vA vn vc) (n3 + 1) (cs ++ [.string x, .string ⟨#[]⟩, .int .i64 0, .int .i64 0, .slice none 0 0, .slice none 0 0]) ∧ CellsR 6 qSchemaR w cs s.schemas)
                    case first =>
                      · skip
                        go_region_held3 (fun w' => w'.cell? ⟨g, 2, none⟩ = some (.slice (some ⟨b, off, none⟩) n3 c3) ∧ w'.cell? ⟨b, off + k * 6, none⟩ = some (.string x) ∧ Below W0.heap.size W0 w')
                          (first | exact HKS.out _ (below_step HAL.out HB7.out) | exact HKS.out _ ((below_step HAL.out HB7.out).setCell HGX.out _) | exact HKS.out _ ((below_step HAL.out HB6.out).alloc (by have := HAL.out.size; have := HB6.out.size; omega) _) | exact HKS.out _ (below_step HAL.out HB6.out) | exact HKS.out _ HAL.out | exact HKS.out _ (below_step HAL.out (((Below.refl _ _).alloc (Nat.le_refl _) _).drew)) | exact HKS.out _ (below_step HAL.out ((((Below.refl _ _).alloc (Nat.le_refl _) _).alloc (by simp) _).drew)) | exact HKS.out _ (below_step HAL.out (Below.refl _ _).drew))
                          (first
                            | (refine step_append_row _ (by rfl) (.tmp 127) (.tmp 129) 24 40 (by rfl) j3 _ 96 Try.underlying24 I3.out Z3.out.1 Z3.out.2.1 Z3.out.2.2 rfl (by decide) (R := fun _ => qSchemaR w) (fun _ => qSchemaR_one w) w5.heap.size (.slice (some ⟨w5.heap.size, 0, none⟩) 0 0) 0 [] (by rfl) ?_ (some ⟨b, off, none⟩) n3 c3 s.schemas (by rfl) ?_ ?_ ?_ ?_ ?_
                               · first | (with_reducible show World.ownsRow (World.drew (World.alloc w5 _)) _ _ _ _ _ _) | (with_reducible show World.ownsRow (World.alloc w5 _) _ _ _ _ _ _) | (with_reducible show World.ownsRow (World.drew (World.drew (World.alloc w5 _))) _ _ _ _ _ _)
                                 exact own_of_blk (Blk.new w5 40 #[]).drew (Nat.le_refl _)
                               · exact (src_parts HS.out).2.2.1.1.fix (below_step HB5.out ((below_one _ _).drew))
                               · have := HLN3.out; unfold maxLen; omega
                               · have := HLN3.out; omega
                               · exact ((below_one _ _).drew).size
                               intro v1 w6 cs hcs1 ho1 hgr1 hat1
                               have hcs1 : CellsR 6 qSchemaR w cs s.schemas := ⟨hcs1.1, hcs1.2⟩
                               have hb6 : Below w5.heap.size w5 w6 := Below.grown ((below_one _ _).drew) hgr1 ((below_one _ _).drew).size (fun r e => Nat.le_of_eq (Option.some.inj e))
                               skip
                               rw [Nat.zero_add, List.nil_append] at ho1
                               obtain ⟨vA, vn, vc, rfl, hvn⟩ := own_form' ho1
                               have HVN := Lib.hid hvn
                               have HO6 := Lib.hid ho1
                               have HC6 := Lib.hid hcs1
                               have HB6 := Lib.hid hb6
                               clear hcs1 ho1 hgr1 hat1 hvn hb6)
                            | (refine step_append_row _ (by rfl) (.tmp 127) (.tmp 129) 24 40 (by rfl) j3 _ 96 Try.underlying24 I3.out Z3.out.1 Z3.out.2.1 Z3.out.2.2 rfl (by decide) (R := fun _ => qSchemaR w) (fun _ => qSchemaR_one w) w5.heap.size (.slice (some ⟨w5.heap.size, 0, none⟩) 0 0) 0 [] (by rfl) ?_ (some ⟨b, off, none⟩) n3 c3 s.schemas (by rfl) ?_ ?_ ?_ ?_ ?_
                               · first | (with_reducible show World.ownsRow (World.drew (World.alloc (World.alloc w5 _) _)) _ _ _ _ _ _) | (with_reducible show World.ownsRow (World.alloc (World.alloc w5 _) _) _ _ _ _ _ _) | (with_reducible show World.ownsRow (World.drew (World.drew (World.alloc (World.alloc w5 _) _))) _ _ _ _ _ _)
                                 exact own_of_blk ((Blk.new w5 40 #[]).alloc _).drew (Nat.le_refl _)
                               · exact (src_parts HS.out).2.2.1.1.fix (below_step HB5.out ((below_two _ _ _).drew))
                               · have := HLN3.out; unfold maxLen; omega
                               · have := HLN3.out; omega
                               · exact ((below_two _ _ _).drew).size
                               intro v1 w6 cs hcs1 ho1 hgr1 hat1
                               have hcs1 : CellsR 6 qSchemaR w cs s.schemas := ⟨hcs1.1, hcs1.2⟩
                               have hb6 : Below w5.heap.size w5 w6 := Below.grown ((below_two _ _ _).drew) hgr1 ((below_two _ _ _).drew).size (fun r e => Nat.le_of_eq (Option.some.inj e))
                               have HBN : Hid (Blk w6 (w5.heap.size + 1) 40 #[.string x, .string ⟨#[]⟩, .int .i64 0, .int .i64 0, .slice none 0 0, .slice none 0 0]) := Lib.hid (Blk.grown (blk_new2 w5 (.cells #[] 40) 40 #[.string x, .string ⟨#[]⟩, .int .i64 0, .int .i64 0, .slice none 0 0, .slice none 0 0]).drew hgr1 (fun e => Nat.succ_ne_self _ (Option.some.inj e)))
                               rw [Nat.zero_add, List.nil_append] at ho1
                               obtain ⟨vA, vn, vc, rfl, hvn⟩ := own_form' ho1
                               have HVN := Lib.hid hvn
                               have HO6 := Lib.hid ho1
                               have HC6 := Lib.hid hcs1
                               have HB6 := Lib.hid hb6
                               clear hcs1 ho1 hgr1 hat1 hvn hb6)
                            | (refine step_append_row _ (by rfl) (.tmp 127) (.tmp 129) 24 40 (by rfl) j3 _ 96 Try.underlying24 I3.out Z3.out.1 Z3.out.2.1 Z3.out.2.2 rfl (by decide) (R := fun _ => qSchemaR w) (fun _ => qSchemaR_one w) w5.heap.size (.slice (some ⟨w5.heap.size + 1, 0, none⟩) 0 0) 0 [] (by rfl) ?_ (some ⟨b, off, none⟩) n3 c3 s.schemas (by rfl) ?_ ?_ ?_ ?_ ?_
                               · first | (with_reducible show World.ownsRow (World.drew (World.alloc (World.alloc w5 _) _)) _ _ _ _ _ _) | (with_reducible show World.ownsRow (World.alloc (World.alloc w5 _) _) _ _ _ _ _ _) | (with_reducible show World.ownsRow (World.drew (World.drew (World.alloc (World.alloc w5 _) _))) _ _ _ _ _ _)
                                 exact own_of_blk (blk_new2 w5 (.cells #[.string x, .string ⟨#[]⟩, .int .i64 0, .int .i64 0, .slice none 0 0, .slice none 0 0] 40) 40 #[]).drew (Nat.le_succ _)
                               · exact (src_parts HS.out).2.2.1.1.fix (below_step HB5.out ((below_two _ _ _).drew))
                               · have := HLN3.out; unfold maxLen; omega
                               · have := HLN3.out; omega
                               · exact ((below_two _ _ _).drew).size
                               intro v1 w6 cs hcs1 ho1 hgr1 hat1
                               have hcs1 : CellsR 6 qSchemaR w cs s.schemas := ⟨hcs1.1, hcs1.2⟩
                               have hb6 : Below w5.heap.size w5 w6 := Below.grown ((below_two _ _ _).drew) hgr1 ((below_two _ _ _).drew).size (fun r e => Nat.le_of_succ_le (Nat.le_of_eq (Option.some.inj e)))
                               have HBN : Hid (Blk w6 w5.heap.size 40 #[.string x, .string ⟨#[]⟩, .int .i64 0, .int .i64 0, .slice none 0 0, .slice none 0 0]) := Lib.hid (Blk.grown ((Blk.new w5 40 #[.string x, .string ⟨#[]⟩, .int .i64 0, .int .i64 0, .slice none 0 0, .slice none 0 0]).alloc _).drew hgr1 (fun e => Nat.succ_ne_self _ (Option.some.inj e).symm))
                               rw [Nat.zero_add, List.nil_append] at ho1
                               obtain ⟨vA, vn, vc, rfl, hvn⟩ := own_form' ho1
                               have HVN := Lib.hid hvn
                               have HO6 := Lib.hid ho1
                               have HC6 := Lib.hid hcs1
                               have HB6 := Lib.hid hb6
                               clear hcs1 ho1 hgr1 hat1 hvn hb6)
                            | (refine step_append_own_at _ (by rfl) (.tmp 130) (.tmp 138) 24 (by rfl) w5.heap.size 40 j3 _ 6 96 Try.underlying24 I3.out Z3.out.1 Z3.out.2.1 Z3.out.2.2 rfl (by decide) (.slice vA vn vc) n3 cs (by rfl) ?_ ⟨w6.heap.size, 0, none⟩ 1 1 [.string x, .string ⟨#[]⟩, .int .i64 0, .int .i64 0, .slice none 0 0, .slice none 0 0] (by rfl) rfl ?_ (by intro u hu; simp only [List.mem_cons, List.not_mem_nil, or_false] at hu; rcases hu with rfl | rfl | rfl | rfl | rfl | rfl <;> rfl) ?_ ?_ ?_ ?_
                               · exact HO6.out.alloc _
                               · exact blk_news (Blk.new _ _ _)
                               · have := HLN3.out; unfold maxLen; omega
                               · have := HLN3.out; omega
                               · have := HB6.out.size; simp; omega
                               intro v' w7 hown hgrow hat
                               obtain ⟨vA', vn', vc', rfl, hvn'⟩ := own_form' hown
                               have hb7 : Below w5.heap.size w5 w7 := Below.grown (HB6.out.alloc HB6.out.size _) hgrow (by have := HB6.out.size; simp; omega) (fun r e => (HO6.out.lt r e).1)
                               have HVN' := Lib.hid hvn'
                               have HO7 := Lib.hid hown
                               have HB7 := Lib.hid hb7
                               have hx7 := HX5.out.below hb7 lx
                               have hy7 := HY5.out.below hb7 ly
                               have q7 := hx7.cell 2
                               have f7 := hx7.frozen 2
                               simp only [List.getElem?_toArray, List.getElem?_cons_zero, List.getElem?_cons_succ] at q7
                               have lx7 := hx7.lt
                               have HX7 := Lib.hid hx7
                               have HY7 := Lib.hid hy7
                               clear hx7 hy7
                               clear hown hgrow hat hvn' hb7)
                            | (refine step_append_own_at _ (by rfl) (.tmp 130) (.tmp 138) 24 (by rfl) w5.heap.size 40 j3 _ 6 96 Try.underlying24 I3.out Z3.out.1 Z3.out.2.1 Z3.out.2.2 rfl (by decide) (.slice vA vn vc) n3 cs (by rfl) ?_ ⟨w5.heap.size + 1, 0, none⟩ 1 1 [.string x, .string ⟨#[]⟩, .int .i64 0, .int .i64 0, .slice none 0 0, .slice none 0 0] (by rfl) rfl ?_ (by intro u hu; simp only [List.mem_cons, List.not_mem_nil, or_false] at hu; rcases hu with rfl | rfl | rfl | rfl | rfl | rfl <;> rfl) ?_ ?_ ?_ ?_
                               · exact HO6.out
                               · exact blk_news HBN.out
                               · have := HLN3.out; unfold maxLen; omega
                               · have := HLN3.out; omega
                               · have := HB6.out.size; simp; omega
                               intro v' w7 hown hgrow hat
                               obtain ⟨vA', vn', vc', rfl, hvn'⟩ := own_form' hown
                               have hb7 : Below w5.heap.size w5 w7 := Below.grown HB6.out hgrow (by have := HB6.out.size; simp; omega) (fun r e => (HO6.out.lt r e).1)
                               have HVN' := Lib.hid hvn'
                               have HO7 := Lib.hid hown
                               have HB7 := Lib.hid hb7
                               have hx7 := HX5.out.below hb7 lx
                               have hy7 := HY5.out.below hb7 ly
                               have q7 := hx7.cell 2
                               have f7 := hx7.frozen 2
                               simp only [List.getElem?_toArray, List.getElem?_cons_zero, List.getElem?_cons_succ] at q7
                               have lx7 := hx7.lt
                               have HX7 := Lib.hid hx7
                               have HY7 := Lib.hid hy7
                               clear hx7 hy7
                               clear hown hgrow hat hvn' hb7)
                            | (refine step_append_own_at _ (by rfl) (.tmp 130) (.tmp 138) 24 (by rfl) w5.heap.size 40 j3 _ 6 96 Try.underlying24 I3.out Z3.out.1 Z3.out.2.1 Z3.out.2.2 rfl (by decide) (.slice vA vn vc) n3 cs (by rfl) ?_ ⟨w5.heap.size, 0, none⟩ 1 1 [.string x, .string ⟨#[]⟩, .int .i64 0, .int .i64 0, .slice none 0 0, .slice none 0 0] (by rfl) rfl ?_ (by intro u hu; simp only [List.mem_cons, List.not_mem_nil, or_false] at hu; rcases hu with rfl | rfl | rfl | rfl | rfl | rfl <;> rfl) ?_ ?_ ?_ ?_
                               · exact HO6.out
                               · exact blk_news HBN.out
                               · have := HLN3.out; unfold maxLen; omega
                               · have := HLN3.out; omega
                               · have := HB6.out.size; simp; omega
                               intro v' w7 hown hgrow hat
                               obtain ⟨vA', vn', vc', rfl, hvn'⟩ := own_form' hown
                               have hb7 : Below w5.heap.size w5 w7 := Below.grown HB6.out hgrow (by have := HB6.out.size; simp; omega) (fun r e => (HO6.out.lt r e).1)
                               have HVN' := Lib.hid hvn'
                               have HO7 := Lib.hid hown
                               have HB7 := Lib.hid hb7
                               have hx7 := HX5.out.below hb7 lx
                               have hy7 := HY5.out.below hb7 ly
                               have q7 := hx7.cell 2
                               have f7 := hx7.frozen 2
                               simp only [List.getElem?_toArray, List.getElem?_cons_zero, List.getElem?_cons_succ] at q7
                               have lx7 := hx7.lt
                               have HX7 := Lib.hid hx7
                               have HY7 := Lib.hid hy7
                               clear hx7 hy7
                               clear hown hgrow hat hvn' hb7)
                            | fail)
                        all_goals
                          go_wp2_with fail
                          go_meet
                          have hx8 : Blk (w7.setCell ⟨gx, 2, none⟩ (.slice vA' vn' vc')) gx 29 [.slice A1 n1 c1, .slice A2 n2 c2, .slice vA' vn' vc', .slice A4 n4 c4, .slice A5 n5 c5, .slice A6 n6 c6].toArray := HX7.out.put 2 _
                          have hy8 : Blk (w7.setCell ⟨gx, 2, none⟩ (.slice vA' vn' vc')) gy 29 _ := HY7.out.far (p := ⟨gx, 2, none⟩) (Ne.symm HXY.out) _
                          have hb8 : Below W0.heap.size W0 (w7.setCell ⟨gx, 2, none⟩ (.slice vA' vn' vc')) := (below_step HAL.out HB7.out).setCell HGX.out _
                          have ho8 := own_far HO7.out (show (⟨gx, 2, none⟩ : Addr).block < w5.heap.size from lx) (.slice vA' vn' vc')
                          exact ⟨rfl, _, _, _, _, hx8, hy8, hb8, by simpa using HB7.out.size, ho8, HC6.out⟩
                    case rest =>
                      obtain ⟨rfl, xA, xn, xc, csx, hx8, hy8, hb8, hz8, ho8, hc8⟩ := hcut
                      obtain ⟨w8, rfl⟩ : ∃ x, x = wc := ⟨_, rfl⟩
                      have HZ8 := Lib.hid hz8
                      have HX8 := Lib.hid hx8
                      have HY8 := Lib.hid hy8
                      have HB8 := Lib.hid hb8
                      have HO8 := Lib.hid ho8
                      have HC8 := Lib.hid hc8
                      have HBW := Lib.hid (below_step HBz.out hb8)
                      clear hx8 hy8 hb8 hz8 ho8 hc8 k0 k1 k2 k3 k4 k5 e0 lg HKS
                      obtain ⟨k0, k1, k2, k3, k4, k5⟩ := six_cells (HKz.out.below HB8.out HKz.out.lt) (Below.refl _ _)
                      have lg : g < w8.heap.size := Nat.lt_of_lt_of_le HKz.out.lt HB8.out.size
                      have ly8 := HY8.out.lt
                      go_upto_region 30 with (first
                        | (at_builtin; refine wpList_append_row _ rfl (.tmp 141) (.tmp 143) 24 40 rfl j3 _ 96 Try.underlying24 I3.out Z3.out.1 Z3.out.2.1 Z3.out.2.2 rfl (by decide) (R := fun _ => qSchemaR w) (fun _ => qSchemaR_one w) w8.heap.size (.slice (some ⟨w8.heap.size, 0, none⟩) 0 0) 0 [] rfl (World.ownsRow_lit w8 #[] 0 (Nat.le_refl _) (Nat.zero_le _) rfl) (some ⟨b, off, none⟩) n3 c3 s.schemas rfl ((src_parts HS.out).2.2.1.1.fix (HBW.out.alloc HBW.out.size _)) (by have := HLN3.out; unfold maxLen; omega) (by have := HLN3.out; omega) (by simp) ?_
                           intro v1 w6 cy hcs1 ho1 hgr1 hat1
                           have hcs1 : CellsR 6 qSchemaR w cy s.schemas := ⟨hcs1.1, hcs1.2⟩
                           have hb6 : Below w8.heap.size w8 w6 := ((Below.refl _ _).alloc (Nat.le_refl _) _).grown hgr1 (by simp) (by simp [Value.ownBlock])
                           rw [Nat.zero_add, List.nil_append] at ho1
                           obtain ⟨yA, yn, yc, rfl, hvn⟩ := own_form' ho1
                           have HYN := Lib.hid hvn
                           have HOY := Lib.hid ho1
                           have HCY := Lib.hid hcs1
                           have HB6 := Lib.hid hb6
                           clear hcs1 ho1 hgr1 hat1 hvn hb6
                           have hy9 := HY8.out.below HB6.out ly8
                           have q9 := hy9.cell 2
                           have f9 := hy9.frozen 2
                           simp only [List.getElem?_toArray, List.getElem?_cons_zero, List.getElem?_cons_succ] at q9
                           have ly9 := hy9.lt
                           have HY9 := Lib.hid hy9
                           clear hy9))
                      obtain rfl : n3 = yn := by have := HYN.out; omega
                      obtain ⟨G, rfl, hG⟩ : ∃ G, yA = some ⟨G, 0, none⟩ ∧ w8.heap.size ≤ G := by
                        rcases own_row HOY.out with ⟨_, h0⟩ | ⟨G, cap, h, hG, _⟩
                        · exfalso; omega
                        · injection h with h1 h2 h3
                          exact ⟨G, h1, hG⟩
                      have hyb : Blk (w6.setCell ⟨gy, 2, none⟩ (.slice (some ⟨G, 0, none⟩) n3 yc)) gy 29 #[.slice A1 n1 c1, .slice A2 n2 c2, .slice (some ⟨G, 0, none⟩) n3 yc, .slice A4 n4 c4, .slice A5 n5 c5, .slice A6 n6 c6] := HY9.out.put 2 _
                      have hxb : Blk (w6.setCell ⟨gy, 2, none⟩ (.slice (some ⟨G, 0, none⟩) n3 yc)) gx 29 _ := (HX8.out.below HB6.out HX8.out.lt).far (p := ⟨gy, 2, none⟩) HXY.out _
                      have hbb : Below W0.heap.size W0 (w6.setCell ⟨gy, 2, none⟩ (.slice (some ⟨G, 0, none⟩) n3 yc)) := (below_step HB8.out HB6.out).setCell HGY.out _
                      have hox := own_far (own_below0 HO8.out HB6.out) (show (⟨gy, 2, none⟩ : Addr).block < w5.heap.size from ly) (.slice (some ⟨G, 0, none⟩) n3 yc)
                      have hoy := own_far HOY.out (show (⟨gy, 2, none⟩ : Addr).block < w8.heap.size from ly8) (.slice (some ⟨G, 0, none⟩) n3 yc)
                      have HXL : Hid (∀ r, (Value.slice xA xn xc).ownBlock = some r → r < w8.heap.size) := Lib.hid (fun r e => (HO8.out.lt r e).2)
                      generalize w6.setCell ⟨gy, 2, none⟩ (.slice (some ⟨G, 0, none⟩) n3 yc) = wB at hyb hxb hbb hox hoy ⊢
                      have HYB := Lib.hid hyb
                      have HXB := Lib.hid hxb
                      have HAB := Lib.hid hbb
                      have HBB := Lib.hid (below_step HBz.out hbb)
                      have HOX := Lib.hid hox
                      have HOZ := Lib.hid hoy
                      have lG := own_lt hoy
                      have HGG := Lib.hid hG
                      have hcy := HCY.out.chunk HX.out.1
                      obtain ⟨D1, r1, v1, D2, r2, v2, hch, hd1, hd2⟩ := hcy
                      have HCH := Lib.hid hch
                      have HD2 := Lib.hid hd2
                      clear hyb hxb hbb hox hoy hG hch hd1 hd2 k0 k1 k2 k3 k4 k5 lg q9 f9 ly9 HY9 HOY HYN HB6
                      have HKS : Hid (∀ X : World, Below wB.heap.size wB X → X.cell? ⟨gy, 2, none⟩ = some (.slice (some ⟨G, 0, none⟩) n3 yc) ∧ X.cell? ⟨g, 2, none⟩ = some (.slice (some ⟨b, off, none⟩) n3 c3) ∧ X.cell? ⟨b, off + k * 6 + 4, none⟩ = some (.slice B1 m1 e1)) := Lib.hid (fun X hX => ⟨(hX.cell (p := ⟨gy, 2, none⟩) HYB.out.lt).trans (by rw [HYB.out.cell]; rfl), ((below_step HAB.out hX).cell (p := ⟨g, 2, none⟩) HKz.out.lt).trans (by rw [HKz.out.cell]; rfl), ((below_step HBB.out hX).cell (p := ⟨b, off + k * 6 + 4, none⟩) HBL.out).trans HE4.out⟩)
                      have HKT : Hid (∀ (X : World) (z : Value), Below wB.heap.size wB X → (X.setCell ⟨G, k * 6 + 4, none⟩ z).cell? ⟨gy, 2, none⟩ = some (.slice (some ⟨G, 0, none⟩) n3 yc) ∧ (X.setCell ⟨G, k * 6 + 4, none⟩ z).cell? ⟨g, 2, none⟩ = some (.slice (some ⟨b, off, none⟩) n3 c3) ∧ (X.setCell ⟨G, k * 6 + 4, none⟩ z).cell? ⟨b, off + k * 6 + 4, none⟩ = some (.slice B1 m1 e1)) := Lib.hid (fun X z hX => by
                        obtain ⟨a1, a2, a3⟩ := HKS.out X hX
                        have hG1 : w8.heap.size ≤ G := HGG.out
                        have hy1 := HY8.out.lt
                        have hz1 := HB8.out.size
                        have hz2 := HKz.out.lt
                        have hz3 := HBL.out
                        have hz4 := HBz.out.size
                        exact ⟨(World.cell?_setCell_far _ _ _ _ (show G ≠ gy by omega)).trans a1, (World.cell?_setCell_far _ _ _ _ (show G ≠ g by omega)).trans a2, (World.cell?_setCell_far _ _ _ _ (show G ≠ b by omega)).trans a3⟩)
                      go_cut [17] from 146 to 162 (fun x17 wx => x17 = .pointer (some ⟨gy, 0, none⟩) ∧ ∃ (cx cy : List Value) (sx sy : QSource), Blk wx gx 29 cx.toArray ∧ Blk wx gy 29 cy.toArray ∧ Below W0.heap.size W0 wx ∧ (∀ S : List Nat, (∀ b ∈ S, LL ≤ b ∧ b < W0.heap.size) → qSourceR (hideL S wx) cx sx ∧ qSourceR (hideL S wx) cy sy) ∧ resolveP sx = (111, noSource) ∧ resolveP sy = (111, noSource))
                      case first =>
                        · skip
                          go_region_held3 (fun w' => w'.cell? ⟨gy, 2, none⟩ = some (.slice (some ⟨G, 0, none⟩) n3 yc) ∧ w'.cell? ⟨g, 2, none⟩ = some (.slice (some ⟨b, off, none⟩) n3 c3) ∧ w'.cell? ⟨b, off + k * 6 + 4, none⟩ = some (.slice B1 m1 e1))
                            (first | exact HKS.out _ HB7.out | exact HKT.out _ _ HB7.out | exact HKS.out _ (HB6.out.alloc HB6.out.size _) | exact HKS.out _ HB6.out | exact HKS.out _ (Below.refl _ _) | exact HKS.out _ (((Below.refl _ _).alloc (Nat.le_refl _) _).drew) | exact HKS.out _ ((((Below.refl _ _).alloc (Nat.le_refl _) _).alloc (by simp) _).drew) | exact HKS.out _ (Below.refl _ _).drew)
                            (first
                              | (refine step_append_row _ (by rfl) (.tmp 149) (.tmp 155) 37 45 (by rfl) j7 _ 120 Try.underlying37 I7.out Z7.out.1 Z7.out.2.1 Z7.out.2.2 rfl (by decide) (R := fun _ => qFieldR w) (fun _ => qFieldR_one w) wB.heap.size (.slice (some ⟨wB.heap.size, 0, none⟩) 0 0) 0 [] (by rfl) ?_ B1 m1 e1 u.fields (by rfl) ?_ ?_ ?_ ?_ ?_
                                 · first | (with_reducible show World.ownsRow (World.drew (World.alloc wB _)) _ _ _ _ _ _) | (with_reducible show World.ownsRow (World.alloc wB _) _ _ _ _ _ _) | (with_reducible show World.ownsRow (World.drew (World.drew (World.alloc wB _))) _ _ _ _ _ _)
                                   exact own_of_blk (Blk.new wB 45 #[]).drew (Nat.le_refl _)
                                 · exact HFL.out.1.fix (below_step HBB.out ((below_one _ _).drew))
                                 · have := HLM.out; unfold maxLen; omega
                                 · have := HLM.out; omega
                                 · exact ((below_one _ _).drew).size
                                 intro v1 w6 cs hcs1 ho1 hgr1 hat1
                                 have hcs1 : CellsR 11 qFieldR w cs u.fields := ⟨hcs1.1, hcs1.2⟩
                                 have hb6 : Below wB.heap.size wB w6 := Below.grown ((below_one _ _).drew) hgr1 ((below_one _ _).drew).size (fun r e => Nat.le_of_eq (Option.some.inj e))
                                 skip
                                 rw [Nat.zero_add, List.nil_append] at ho1
                                 obtain ⟨vA, vn, vc, rfl, hvn⟩ := own_form' ho1
                                 have HVN := Lib.hid hvn
                                 have HO6 := Lib.hid ho1
                                 have HC6 := Lib.hid hcs1
                                 have HB6 := Lib.hid hb6
                                 clear hcs1 ho1 hgr1 hat1 hvn hb6)
                              | (refine step_append_row _ (by rfl) (.tmp 149) (.tmp 155) 37 45 (by rfl) j7 _ 120 Try.underlying37 I7.out Z7.out.1 Z7.out.2.1 Z7.out.2.2 rfl (by decide) (R := fun _ => qFieldR w) (fun _ => qFieldR_one w) wB.heap.size (.slice (some ⟨wB.heap.size, 0, none⟩) 0 0) 0 [] (by rfl) ?_ B1 m1 e1 u.fields (by rfl) ?_ ?_ ?_ ?_ ?_
                                 · first | (with_reducible show World.ownsRow (World.drew (World.alloc (World.alloc wB _) _)) _ _ _ _ _ _) | (with_reducible show World.ownsRow (World.alloc (World.alloc wB _) _) _ _ _ _ _ _) | (with_reducible show World.ownsRow (World.drew (World.drew (World.alloc (World.alloc wB _) _))) _ _ _ _ _ _)
                                   exact own_of_blk ((Blk.new wB 45 #[]).alloc _).drew (Nat.le_refl _)
                                 · exact HFL.out.1.fix (below_step HBB.out ((below_two _ _ _).drew))
                                 · have := HLM.out; unfold maxLen; omega
                                 · have := HLM.out; omega
                                 · exact ((below_two _ _ _).drew).size
                                 intro v1 w6 cs hcs1 ho1 hgr1 hat1
                                 have hcs1 : CellsR 11 qFieldR w cs u.fields := ⟨hcs1.1, hcs1.2⟩
                                 have hb6 : Below wB.heap.size wB w6 := Below.grown ((below_two _ _ _).drew) hgr1 ((below_two _ _ _).drew).size (fun r e => Nat.le_of_eq (Option.some.inj e))
                                 have HBN : Hid (Blk w6 (wB.heap.size + 1) 45 #[.string ⟨#[122]⟩, .int .i64 0, .int .i64 0, .int .i64 0, .string ⟨#[]⟩, .int .i64 0, .slice none 0 0, .int .i64 0, .int .i64 0, .int .i64 0, .int .i64 0, .string ⟨#[122]⟩, .int .i64 0, .int .i64 0, .int .i64 0, .string ⟨#[]⟩, .int .i64 0, .slice none 0 0, .int .i64 0, .int .i64 0, .int .i64 0, .int .i64 0]) := Lib.hid (Blk.grown (blk_new2 wB (.cells #[] 45) 45 #[.string ⟨#[122]⟩, .int .i64 0, .int .i64 0, .int .i64 0, .string ⟨#[]⟩, .int .i64 0, .slice none 0 0, .int .i64 0, .int .i64 0, .int .i64 0, .int .i64 0, .string ⟨#[122]⟩, .int .i64 0, .int .i64 0, .int .i64 0, .string ⟨#[]⟩, .int .i64 0, .slice none 0 0, .int .i64 0, .int .i64 0, .int .i64 0, .int .i64 0]).drew hgr1 (fun e => Nat.succ_ne_self _ (Option.some.inj e)))
                                 rw [Nat.zero_add, List.nil_append] at ho1
                                 obtain ⟨vA, vn, vc, rfl, hvn⟩ := own_form' ho1
                                 have HVN := Lib.hid hvn
                                 have HO6 := Lib.hid ho1
                                 have HC6 := Lib.hid hcs1
                                 have HB6 := Lib.hid hb6
                                 clear hcs1 ho1 hgr1 hat1 hvn hb6)
                              | (refine step_append_row _ (by rfl) (.tmp 149) (.tmp 155) 37 45 (by rfl) j7 _ 120 Try.underlying37 I7.out Z7.out.1 Z7.out.2.1 Z7.out.2.2 rfl (by decide) (R := fun _ => qFieldR w) (fun _ => qFieldR_one w) wB.heap.size (.slice (some ⟨wB.heap.size + 1, 0, none⟩) 0 0) 0 [] (by rfl) ?_ B1 m1 e1 u.fields (by rfl) ?_ ?_ ?_ ?_ ?_
                                 · first | (with_reducible show World.ownsRow (World.drew (World.alloc (World.alloc wB _) _)) _ _ _ _ _ _) | (with_reducible show World.ownsRow (World.alloc (World.alloc wB _) _) _ _ _ _ _ _) | (with_reducible show World.ownsRow (World.drew (World.drew (World.alloc (World.alloc wB _) _))) _ _ _ _ _ _)
                                   exact own_of_blk (blk_new2 wB (.cells #[.string ⟨#[122]⟩, .int .i64 0, .int .i64 0, .int .i64 0, .string ⟨#[]⟩, .int .i64 0, .slice none 0 0, .int .i64 0, .int .i64 0, .int .i64 0, .int .i64 0, .string ⟨#[122]⟩, .int .i64 0, .int .i64 0, .int .i64 0, .string ⟨#[]⟩, .int .i64 0, .slice none 0 0, .int .i64 0, .int .i64 0, .int .i64 0, .int .i64 0] 45) 45 #[]).drew (Nat.le_succ _)
                                 · exact HFL.out.1.fix (below_step HBB.out ((below_two _ _ _).drew))
                                 · have := HLM.out; unfold maxLen; omega
                                 · have := HLM.out; omega
                                 · exact ((below_two _ _ _).drew).size
                                 intro v1 w6 cs hcs1 ho1 hgr1 hat1
                                 have hcs1 : CellsR 11 qFieldR w cs u.fields := ⟨hcs1.1, hcs1.2⟩
                                 have hb6 : Below wB.heap.size wB w6 := Below.grown ((below_two _ _ _).drew) hgr1 ((below_two _ _ _).drew).size (fun r e => Nat.le_of_succ_le (Nat.le_of_eq (Option.some.inj e)))
                                 have HBN : Hid (Blk w6 wB.heap.size 45 #[.string ⟨#[122]⟩, .int .i64 0, .int .i64 0, .int .i64 0, .string ⟨#[]⟩, .int .i64 0, .slice none 0 0, .int .i64 0, .int .i64 0, .int .i64 0, .int .i64 0, .string ⟨#[122]⟩, .int .i64 0, .int .i64 0, .int .i64 0, .string ⟨#[]⟩, .int .i64 0, .slice none 0 0, .int .i64 0, .int .i64 0, .int .i64 0, .int .i64 0]) := Lib.hid (Blk.grown ((Blk.new wB 45 #[.string ⟨#[122]⟩, .int .i64 0, .int .i64 0, .int .i64 0, .string ⟨#[]⟩, .int .i64 0, .slice none 0 0, .int .i64 0, .int .i64 0, .int .i64 0, .int .i64 0, .string ⟨#[122]⟩, .int .i64 0, .int .i64 0, .int .i64 0, .string ⟨#[]⟩, .int .i64 0, .slice none 0 0, .int .i64 0, .int .i64 0, .int .i64 0, .int .i64 0]).alloc _).drew hgr1 (fun e => Nat.succ_ne_self _ (Option.some.inj e).symm))
                                 rw [Nat.zero_add, List.nil_append] at ho1
                                 obtain ⟨vA, vn, vc, rfl, hvn⟩ := own_form' ho1
                                 have HVN := Lib.hid hvn
                                 have HO6 := Lib.hid ho1
                                 have HC6 := Lib.hid hcs1
                                 have HB6 := Lib.hid hb6
                                 clear hcs1 ho1 hgr1 hat1 hvn hb6)
                              | (refine step_append_own_at _ (by rfl) (.tmp 156) (.tmp 159) 37 (by rfl) wB.heap.size 45 j7 _ 11 120 Try.underlying37 I7.out Z7.out.1 Z7.out.2.1 Z7.out.2.2 rfl (by decide) (.slice vA vn vc) m1 cs (by rfl) ?_ ⟨w6.heap.size, 0, none⟩ 2 2 [.string ⟨#[122]⟩, .int .i64 0, .int .i64 0, .int .i64 0, .string ⟨#[]⟩, .int .i64 0, .slice none 0 0, .int .i64 0, .int .i64 0, .int .i64 0, .int .i64 0, .string ⟨#[122]⟩, .int .i64 0, .int .i64 0, .int .i64 0, .string ⟨#[]⟩, .int .i64 0, .slice none 0 0, .int .i64 0, .int .i64 0, .int .i64 0, .int .i64 0] (by rfl) rfl ?_ (by intro u hu; simp only [List.mem_cons, List.not_mem_nil, or_false] at hu; rcases hu with rfl | rfl | rfl | rfl | rfl | rfl | rfl | rfl | rfl | rfl | rfl | rfl | rfl | rfl | rfl | rfl | rfl | rfl | rfl | rfl | rfl | rfl <;> rfl) ?_ ?_ ?_ ?_
                                 · exact HO6.out.alloc _
                                 · exact blk_news (Blk.new _ _ _)
                                 · have := HLM.out; unfold maxLen; omega
                                 · have := HLM.out; omega
                                 · have := HB6.out.size; simp; omega
                                 intro v' w7 hown hgrow hat
                                 obtain ⟨vA', vn', vc', rfl, hvn'⟩ := own_form' hown
                                 have hb7 : Below wB.heap.size wB w7 := Below.grown (HB6.out.alloc HB6.out.size _) hgrow (by have := HB6.out.size; simp; omega) (fun r e => (HO6.out.lt r e).1)
                                 have HVN' := Lib.hid hvn'
                                 have HO7 := Lib.hid hown
                                 have HB7 := Lib.hid hb7
                                 have hyr := own_below0 HOZ.out hb7
                                 have q7 := own_cell hyr hkn (by omega) HCH.out (j := 4) rfl
                                 have f7 := hyr.frozenAt (k * 6 + 4)
                                 have HYR := Lib.hid hyr
                                 have lG7 := own_lt hyr
                                 clear hyr
                                 clear hown hgrow hat hvn' hb7)
                              | (refine step_append_own_at _ (by rfl) (.tmp 156) (.tmp 159) 37 (by rfl) wB.heap.size 45 j7 _ 11 120 Try.underlying37 I7.out Z7.out.1 Z7.out.2.1 Z7.out.2.2 rfl (by decide) (.slice vA vn vc) m1 cs (by rfl) ?_ ⟨wB.heap.size + 1, 0, none⟩ 2 2 [.string ⟨#[122]⟩, .int .i64 0, .int .i64 0, .int .i64 0, .string ⟨#[]⟩, .int .i64 0, .slice none 0 0, .int .i64 0, .int .i64 0, .int .i64 0, .int .i64 0, .string ⟨#[122]⟩, .int .i64 0, .int .i64 0, .int .i64 0, .string ⟨#[]⟩, .int .i64 0, .slice none 0 0, .int .i64 0, .int .i64 0, .int .i64 0, .int .i64 0] (by rfl) rfl ?_ (by intro u hu; simp only [List.mem_cons, List.not_mem_nil, or_false] at hu; rcases hu with rfl | rfl | rfl | rfl | rfl | rfl | rfl | rfl | rfl | rfl | rfl | rfl | rfl | rfl | rfl | rfl | rfl | rfl | rfl | rfl | rfl | rfl <;> rfl) ?_ ?_ ?_ ?_
                                 · exact HO6.out
                                 · exact blk_news HBN.out
                                 · have := HLM.out; unfold maxLen; omega
                                 · have := HLM.out; omega
                                 · have := HB6.out.size; simp; omega
                                 intro v' w7 hown hgrow hat
                                 obtain ⟨vA', vn', vc', rfl, hvn'⟩ := own_form' hown
                                 have hb7 : Below wB.heap.size wB w7 := Below.grown HB6.out hgrow (by have := HB6.out.size; simp; omega) (fun r e => (HO6.out.lt r e).1)
                                 have HVN' := Lib.hid hvn'
                                 have HO7 := Lib.hid hown
                                 have HB7 := Lib.hid hb7
                                 have hyr := own_below0 HOZ.out hb7
                                 have q7 := own_cell hyr hkn (by omega) HCH.out (j := 4) rfl
                                 have f7 := hyr.frozenAt (k * 6 + 4)
                                 have HYR := Lib.hid hyr
                                 have lG7 := own_lt hyr
                                 clear hyr
                                 clear hown hgrow hat hvn' hb7)
                              | (refine step_append_own_at _ (by rfl) (.tmp 156) (.tmp 159) 37 (by rfl) wB.heap.size 45 j7 _ 11 120 Try.underlying37 I7.out Z7.out.1 Z7.out.2.1 Z7.out.2.2 rfl (by decide) (.slice vA vn vc) m1 cs (by rfl) ?_ ⟨wB.heap.size, 0, none⟩ 2 2 [.string ⟨#[122]⟩, .int .i64 0, .int .i64 0, .int .i64 0, .string ⟨#[]⟩, .int .i64 0, .slice none 0 0, .int .i64 0, .int .i64 0, .int .i64 0, .int .i64 0, .string ⟨#[122]⟩, .int .i64 0, .int .i64 0, .int .i64 0, .string ⟨#[]⟩, .int .i64 0, .slice none 0 0, .int .i64 0, .int .i64 0, .int .i64 0, .int .i64 0] (by rfl) rfl ?_ (by intro u hu; simp only [List.mem_cons, List.not_mem_nil, or_false] at hu; rcases hu with rfl | rfl | rfl | rfl | rfl | rfl | rfl | rfl | rfl | rfl | rfl | rfl | rfl | rfl | rfl | rfl | rfl | rfl | rfl | rfl | rfl | rfl <;> rfl) ?_ ?_ ?_ ?_
                                 · exact HO6.out
                                 · exact blk_news HBN.out
                                 · have := HLM.out; unfold maxLen; omega
                                 · have := HLM.out; omega
                                 · have := HB6.out.size; simp; omega
                                 intro v' w7 hown hgrow hat
                                 obtain ⟨vA', vn', vc', rfl, hvn'⟩ := own_form' hown
                                 have hb7 : Below wB.heap.size wB w7 := Below.grown HB6.out hgrow (by have := HB6.out.size; simp; omega) (fun r e => (HO6.out.lt r e).1)
                                 have HVN' := Lib.hid hvn'
                                 have HO7 := Lib.hid hown
                                 have HB7 := Lib.hid hb7
                                 have hyr := own_below0 HOZ.out hb7
                                 have q7 := own_cell hyr hkn (by omega) HCH.out (j := 4) rfl
                                 have f7 := hyr.frozenAt (k * 6 + 4)
                                 have HYR := Lib.hid hyr
                                 have lG7 := own_lt hyr
                                 clear hyr
                                 clear hown hgrow hat hvn' hb7)
                              | fail)
                          all_goals
                            go_wp2_with fail
                            go_meet
                            have hb9 : Below W0.heap.size W0 (w7.setCell ⟨G, k * 6 + 4, none⟩ (.slice vA' vn' vc')) := (below_step HAB.out HB7.out).setCell (show W0.heap.size ≤ G by have := HGG.out; have := HB8.out.size; omega) _
                            have hbw := below_step HBz.out hb9
                            have hx9 := (HXB.out.below HB7.out HXB.out.lt).far (p := ⟨G, k * 6 + 4, none⟩) (show gx ≠ G by have := HX8.out.lt; have := HGG.out; omega) (.slice vA' vn' vc')
                            have hy9 := (HYB.out.below HB7.out HYB.out.lt).far (p := ⟨G, k * 6 + 4, none⟩) (show gy ≠ G by have := HY8.out.lt; have := HGG.out; omega) (.slice vA' vn' vc')
                            have hgn := grown_near (World.grownBy.refl w7 (some G)) (k * 6 + 4) (.slice vA' vn' vc')
                            have hox := (own_below0 HOX.out HB7.out).kept hgn (.inr (fun e => by have := HXL.out G e; have := HGG.out; omega))
                            have hoy := (HYR.out.stored (k * 6 + 4) (.slice vA' vn' vc')).1
                            have hof := own_far HO7.out (show (⟨G, k * 6 + 4, none⟩ : Addr).block < wB.heap.size from lG) (.slice vA' vn' vc')
                            generalize (w7.setCell ⟨G, k * 6 + 4, none⟩ (.slice vA' vn' vc')) = w9 at hb9 hbw hx9 hy9 hox hoy hof ⊢
                            refine ⟨rfl, _, _, { s with schemas := s.schemas ++ [(⟨x, noStr, 0, 0, [], []⟩ : QSchema)] }, { s with schemas := s.schemas.set k { u with fields := u.fields ++ [zField, zField] } }, hx9, hy9, hb9, fun S hS => ?_, two3x HX.out, two4 HX.out.1⟩
                            have hbS : Below w.heap.size w (hideL S w9) := hideL_old hbw (fun b hb => Nat.le_trans HLL.out (hS b hb).1)
                            have hp := src_parts (qSourceR_mono _ _ hbS _ _ HS.out)
                            have hnx : SlB 6 96 qSchemaR (hideL S w9) (.slice xA xn xc) (s.schemas ++ [(⟨x, noStr, 0, 0, [], []⟩ : QSchema)]) := slB_more (hideL_own hox (fun b hb => Nat.lt_of_lt_of_le (hS b hb).2 HAL.out.size)) (HC8.out.mono qSchemaR_mono hbS) rfl (show qSchemaR (hideL S w9) _ (⟨x, noStr, 0, 0, [], []⟩ : QSchema) from ⟨none, 0, 0, none, 0, 0, rfl, nilB, nilB⟩) (HLE3.out) (by have := HLN3.out; have := HLE3.out; omega)
                            have hSB : ∀ b ∈ S, b < wB.heap.size := fun b hb => Nat.lt_of_lt_of_le (hS b hb).2 HAB.out.size
                            have hnf : SlB 11 120 qFieldR (hideL S w9) (.slice vA' vn' vc') (u.fields ++ [zField, zField]) := slB_two (hideL_own hof hSB) (HC6.out.mono qFieldR_mono hbS) (zfields_cells _) (HFL.out.1.len) (by have := HLM.out; have := HFL.out.1.len; omega) rfl
                            have hny : SlB 6 96 qSchemaR (hideL S w9) (.slice (some ⟨G, 0, none⟩) n3 yc) (s.schemas.set k { u with fields := u.fields ++ [zField, zField] }) := slB_set (hideL_own hoy (fun b hb => Nat.lt_of_lt_of_le (hS b hb).2 HB8.out.size)) (HCY.out.mono qSchemaR_mono hbS) (by omega) (by rw [← HLE3.out]; exact hkn) (by rw [HCH.out]; exact ⟨_, _, _, _, _, _, rfl, hnf, HD2.out.mono qDepR_mono hbS⟩) (HLE3.out) (by have := HLN3.out; have := HLE3.out; omega)
                            exact ⟨src_whole hp.1 hp.2.1 hnx hp.2.2.2.1 hp.2.2.2.2.1 hp.2.2.2.2.2, src_whole hp.1 hp.2.1 hny hp.2.2.2.1 hp.2.2.2.2.1 hp.2.2.2.2.2⟩
                      case rest =>
                        obtain ⟨rfl, csn, csm, sn, sm, hx8, hy8, hb8, hrd, hrm, hrn⟩ := hcut
                        clear HB8 HX8 HY8 HO8 HC8 HZ8 HBW HXL HYB HXB HAB HBB HOX HOZ HGG HCH HD2 HKS HKT HX5 HY5 HAL HB5 HCY
                        obtain ⟨w8, rfl⟩ : ∃ x, x = wc := ⟨_, rfl⟩
                        obtain ⟨Y1, m1, d1, Y2, m2, d2, Y3, m3, d3, Y4, m4, d4, Y5, m5, d5, Y6, m6, d6, rfl, -⟩ := id (hrd [] (by simp)).1
                        obtain ⟨Z1, r1, u1, Z2, r2, u2, Z3, r3, u3, Z4, r4, u4, Z5, r5, u5, Z6, r6, u6, rfl, -⟩ := id (hrd [] (by simp)).2
                        obtain ⟨csl, SL, hol, h2, h3, hc⟩ := HG.out
                        have HOL := Lib.hid (own_below0 hol hb8)
                        have HSL := Lib.hid (And.intro h2 h3)
                        have HCL := Lib.hid (hc.mono qSourceR_mono (hideL_below hb8))
                        have HRD : Hid (CellsR 6 qSourceR (hideL SL w8) ([.slice Y1 m1 d1, .slice Y2 m2 d2, .slice Y3 m3 d3, .slice Y4 m4 d4, .slice Y5 m5 d5, .slice Y6 m6 d6] ++ [.slice Z1 r1 u1, .slice Z2 r2 u2, .slice Z3 r3 u3, .slice Z4 r4 u4, .slice Z5 r5 u5, .slice Z6 r6 u6]) [sn, sm]) := Lib.hid (cells_two (hrd SL h3).1 (hrd SL h3).2 rfl rfl)
                        have HRM := Lib.hid hrm
                        have HRN := Lib.hid hrn
                        have HB8 := Lib.hid hb8
                        have HK8 := Lib.hid (HKz.out.below hb8 HKz.out.lt)
                        clear hkt hol h2 h3 hc hrd hrm hrn hb8
                        obtain ⟨y0, y1, y2, y3, y4, y5⟩ := six_cells hx8 (Below.refl _ _)
                        obtain ⟨z0, z1, z2, z3, z4, z5⟩ := six_cells hy8 (Below.refl _ _)
                        clear hx8 hy8
                        go_wp2_with (first
                          | (at_builtin; go_loud (refine wpList_append_own_at _ rfl (.tmp 163) (.tmp 166) 77 rfl LL 29 j0 _ 6 144 Try.underlying77 I0.out Z0.out.1 Z0.out.2.1 Z0.out.2.2 rfl (by decide) (.slice B7 ll.length e7) ll.length csl rfl (HOL.out.alloc _) ⟨w8.heap.size, 0, none⟩ 2 2 [.slice Y1 m1 d1, .slice Y2 m2 d2, .slice Y3 m3 d3, .slice Y4 m4 d4, .slice Y5 m5 d5, .slice Y6 m6 d6, .slice Z1 r1 u1, .slice Z2 r2 u2, .slice Z3 r3 u3, .slice Z4 r4 u4, .slice Z5 r5 u5, .slice Z6 r6 u6] rfl rfl (blk_news (Blk.new _ _ _)) (by intro u hu; simp only [List.mem_cons, List.not_mem_nil, or_false] at hu; rcases hu with rfl | rfl | rfl | rfl | rfl | rfl | rfl | rfl | rfl | rfl | rfl | rfl <;> rfl) (by have := HJ.out; unfold maxLen; omega) (by have := HJ.out; omega) (by have := HLZ.out; have := HB8.out.size; simp; omega) ?_)
                             intro v' w9 hown hgrow hnil hat
                             obtain ⟨vA', vn', vc', rfl, hvn'⟩ := own_form' hown
                             have HVN' := Lib.hid hvn'
                             have HO9 := Lib.hid hown
                             have HG9 := Lib.hid hgrow
                             have HA9 := Lib.hid hat
                             clear hown hgrow hnil hat hvn'))
                        go_meet
                        have hal : Below w8.heap.size w8 (w8.alloc (.cells #[.slice Y1 m1 d1, .slice Y2 m2 d2, .slice Y3 m3 d3, .slice Y4 m4 d4, .slice Y5 m5 d5, .slice Y6 m6 d6, .slice Z1 r1 u1, .slice Z2 r2 u2, .slice Z3 r3 u3, .slice Z4 r4 u4, .slice Z5 r5 u5, .slice Z6 r6 u6] 29)) := (Below.refl _ _).alloc (Nat.le_refl _) _
                        have hLw : LL ≤ w8.heap.size := Nat.le_trans HLZ.out HB8.out.size
                        have hbig : Below LL (w8.alloc (.cells #[.slice Y1 m1 d1, .slice Y2 m2 d2, .slice Y3 m3 d3, .slice Y4 m4 d4, .slice Y5 m5 d5, .slice Y6 m6 d6, .slice Z1 r1 u1, .slice Z2 r2 u2, .slice Z3 r3 u3, .slice Z4 r4 u4, .slice Z5 r5 u5, .slice Z6 r6 u6] 29)) w9 := Below.grown (Below.refl _ _) HG9.out (by simp; omega) (fun r e => (HSL.out.2 r (HSL.out.1 r e)).1)
                        have hb9 : Below w.heap.size w w9 := (below_step (below_step HBz.out HB8.out) hal).trans (hbig.mono HLL.out)
                        have hk9 : Blk w9 g 29 #[.slice A1 n1 c1, .slice A2 n2 c2, .slice (some ⟨b, off, none⟩) n3 c3, .slice A4 n4 c4, .slice A5 n5 c5, .slice A6 n6 c6] := HK8.out.below ((hal.mono hLw).trans hbig) HGL.out
                        have hl9 : LL ≤ w9.heap.size := Nat.le_trans hLw (Nat.le_trans hal.size hbig.size)
                        exact ⟨ll ++ [sn, sm], Grow.push HSL.out.1 (fun b hb => ⟨(HSL.out.2 b hb).1, Nat.lt_of_lt_of_le (HSL.out.2 b hb).2 (Nat.le_trans HB8.out.size hal.size)⟩) (HCL.out.mono qSourceR_mono (hideL_below hal)) qSourceR_mono HO9.out (by simp) HG9.out HA9.out (by simp; omega) (HRD.out.mono qSourceR_mono (hideL_below hal)), by have := HJ.out; rw [List.length_append]; simp only [List.length_cons, List.length_nil]; omega, fun z hz => (List.mem_append.1 hz).elim (HT.out z) (fun h => by rcases List.mem_cons.1 h with rfl | h; exact HRM.out; rw [List.mem_singleton.1 h]; exact HRN.out), hb9, hk9, hl9⟩
                · have hnk : ¬ (0 : Int) < (n3 : Int) := by omega
                  have hnd : decide ((0 : Int) < (n3 : Int)) = false := by simp; omega
                  go_wp2_with fail
                  go_meet
                  exact ⟨ll, HG.out, by have := HJ.out; omega, HT.out, HBz.out, HKz.out, HLZ.out⟩
            case rest =>
              clear HG HJ HT HBz HKz HLZ k0 k1 k2 k3 k4 k5
              obtain ⟨ll, hg, hj, ht, hbz, hkz, hlz⟩ := hcut
              obtain ⟨W0, rfl⟩ : ∃ x, x = wc := ⟨_, rfl⟩
              obtain ⟨B7, e7, rfl⟩ := hg.form
              have HG := Lib.hid hg
              have HJ := Lib.hid hj
              have HT := Lib.hid ht
              have HBz := Lib.hid hbz
              have HKz := Lib.hid hkz
              have HLZ := Lib.hid hlz
              clear hg hj ht hbz hkz hlz
              obtain ⟨k0, k1, k2, k3, k4, k5⟩ := six_cells HKz.out (Below.refl _ _)
              go_upto_if 172 with fail
              go_cut [7] from 19 to 203 (fun v7 wx => ∃ l : List QSource, Grow LL 29 6 qSourceR v7 l wx ∧ l.length ≤ 6 ∧ (∀ x ∈ l, resolveP x = (111, noSource)) ∧ Below w.heap.size w wx ∧ Blk wx g 29 #[.slice A1 n1 c1, .slice A2 n2 c2, .slice A3 n3 c3, .slice A4 n4 c4, .slice A5 n5 c5, .slice A6 n6 c6] ∧ LL ≤ wx.heap.size)
              case first =>
                · skip
                  by_cases hn : 0 < n4
                  · have hnk : (0 : Int) < (n4 : Int) := by omega
                    have hnd : decide ((0 : Int) < (n4 : Int)) = true := by simp; omega
                    obtain ⟨k, hkt, hkn⟩ : ∃ k : Nat, (a.tmod (n4 : Int)) = (k : Int) ∧ k < n4 := ⟨(a.tmod (n4 : Int)).toNat, (Int.toNat_of_nonneg (Int.tmod_nonneg _ ha0)).symm, by
                      have h1 := Int.tmod_nonneg (n4 : Int) ha0
                      have h2 := Int.tmod_lt_of_pos a (show (0 : Int) < (n4 : Int) by omega)
                      omega⟩
                    have hke : a % (n4 : Int) = (k : Int) := by rw [← hkt, Int.tmod_eq_emod_of_nonneg ha0]
                    obtain ⟨b, off, u, B1, m1, e1, B2, m2, e2, B3, m3, e3, rfl, hbl, hx, -, -, s2, -, -, hfl, -⟩ := qRule_at (src_parts HS.out).2.2.2.1.1 hkn
                    have HX := Lib.hid hx
                    have HFL := Lib.hid hfl
                    have HLM : Hid (m1 ≤ 1048576) := Lib.hid (by rw [hfl.1.len]; exact HBR.out u (List.mem_of_getElem? hx))
                    have mle := hfl.1.le
                    have HBL := Lib.hid hbl
                    have HE2 := Lib.hid s2
                    clear hx hfl hbl s2
                    have h0k : (0 : Int) ≤ (k : Int) := by omega
                    have hkni : (k : Int) < (n4 : Int) := by omega
                    have hn0 : ¬ (n4 : Int) = 0 := by omega
                    have hn1 : ¬ n4 = 0 := by omega
                    go_upto_region 36 with fail
                    have hal : Below W0.heap.size W0 (W0.alloc (.cells #[.slice A1 n1 c1, .slice A2 n2 c2, .slice A3 n3 c3, .slice (some ⟨b, off, none⟩) n4 c4, .slice A5 n5 c5, .slice A6 n6 c6] 29)) := (Below.refl _ _).alloc (Nat.le_refl _) _
                    have hx5 : Blk (W0.alloc (.cells #[.slice A1 n1 c1, .slice A2 n2 c2, .slice A3 n3 c3, .slice (some ⟨b, off, none⟩) n4 c4, .slice A5 n5 c5, .slice A6 n6 c6] 29)) W0.heap.size 29 #[.slice A1 n1 c1, .slice A2 n2 c2, .slice A3 n3 c3, .slice (some ⟨b, off, none⟩) n4 c4, .slice A5 n5 c5, .slice A6 n6 c6] := Blk.new _ _ _
                    obtain ⟨gx, hgx⟩ : ∃ g, g = W0.heap.size := ⟨_, rfl⟩
                    have HGX := Lib.hid hgx
                    rw [← hgx] at hx5 ⊢
                    generalize W0.alloc (.cells #[.slice A1 n1 c1, .slice A2 n2 c2, .slice A3 n3 c3, .slice (some ⟨b, off, none⟩) n4 c4, .slice A5 n5 c5, .slice A6 n6 c6] 29) = w5 at hx5 hal ⊢
                    have HAL := Lib.hid hal
                    have HB5 := Lib.hid (below_step HBz.out hal)
                    have HX5 := Lib.hid hx5
                    have HP5 := Lib.hid (src_parts (qSourceR_mono _ _ HB5.out _ _ HS.out))
                    clear hx5 hgx hal k0 k1 k2 k3 k4 k5
                    obtain ⟨k0, k1, k2, k3, k4, k5⟩ := six_cells (HKz.out.below HAL.out HKz.out.lt) (Below.refl _ _)
                    have lg : g < w5.heap.size := Nat.lt_of_lt_of_le HKz.out.lt HAL.out.size
                    have lx := HX5.out.lt
                    go_upto_region 37 with (first
                      | (at_builtin; refine wpList_append_row _ rfl (.tmp 178) (.tmp 180) 25 56 rfl j4 _ 96 Try.underlying25 I4.out Z4.out.1 Z4.out.2.1 Z4.out.2.2 rfl (by decide) (R := fun _ => qRuleR w) (fun _ => qRuleR_one w) w5.heap.size (.slice (some ⟨w5.heap.size, 0, none⟩) 0 0) 0 [] rfl (World.ownsRow_lit w5 #[] 0 (Nat.le_refl _) (Nat.zero_le _) rfl) (some ⟨b, off, none⟩) n4 c4 s.rules rfl ((src_parts HS.out).2.2.2.1.1.fix (HB5.out.alloc HB5.out.size _)) (by have := HLN4.out; unfold maxLen; omega) (by have := HLN4.out; omega) (by simp) ?_
                         intro v1 w6 cy hcs1 ho1 hgr1 hat1
                         have hcs1 : CellsR 5 qRuleR w cy s.rules := ⟨hcs1.1, hcs1.2⟩
                         have hb6 : Below w5.heap.size w5 w6 := ((Below.refl _ _).alloc (Nat.le_refl _) _).grown hgr1 (by simp) (by simp [Value.ownBlock])
                         rw [Nat.zero_add, List.nil_append] at ho1
                         obtain ⟨yA, yn, yc, rfl, hvn⟩ := own_form' ho1
                         have HYN := Lib.hid hvn
                         have HOY := Lib.hid ho1
                         have HCY := Lib.hid hcs1
                         have HB6 := Lib.hid hb6
                         clear hcs1 ho1 hgr1 hat1 hvn hb6
                         have hy9 := HX5.out.below HB6.out lx
                         have q9 := hy9.cell 3
                         have f9 := hy9.frozen 3
                         simp only [List.getElem?_toArray, List.getElem?_cons_zero, List.getElem?_cons_succ] at q9
                         have ly9 := hy9.lt
                         have HY9 := Lib.hid hy9
                         clear hy9))
                    obtain rfl : n4 = yn := by have := HYN.out; omega
                    obtain ⟨G, rfl, hG⟩ : ∃ G, yA = some ⟨G, 0, none⟩ ∧ w5.heap.size ≤ G := by
                      rcases own_row HOY.out with ⟨_, h0⟩ | ⟨G, cap, h, hG, _⟩
                      · exfalso; omega
                      · injection h with h1 h2 h3
                        exact ⟨G, h1, hG⟩
                    have hyb : Blk (w6.setCell ⟨gx, 3, none⟩ (.slice (some ⟨G, 0, none⟩) n4 yc)) gx 29 #[.slice A1 n1 c1, .slice A2 n2 c2, .slice A3 n3 c3, .slice (some ⟨G, 0, none⟩) n4 yc, .slice A5 n5 c5, .slice A6 n6 c6] := HY9.out.put 3 _
                    have hbb : Below W0.heap.size W0 (w6.setCell ⟨gx, 3, none⟩ (.slice (some ⟨G, 0, none⟩) n4 yc)) := (below_step HAL.out HB6.out).setCell (by have := HGX.out; show W0.heap.size ≤ gx; omega) _
                    have hoy := own_far HOY.out (show (⟨gx, 3, none⟩ : Addr).block < w5.heap.size from lx) (.slice (some ⟨G, 0, none⟩) n4 yc)
                    generalize (w6.setCell ⟨gx, 3, none⟩ (.slice (some ⟨G, 0, none⟩) n4 yc)) = wB at hyb hbb hoy ⊢
                    have HYB := Lib.hid hyb
                    have HAB := Lib.hid hbb
                    have HBB := Lib.hid (below_step HBz.out hbb)
                    have HOZ := Lib.hid hoy
                    have lG := own_lt hoy
                    have HGG := Lib.hid hG
                    have hcy := HCY.out.chunk HX.out
                    obtain ⟨D1, r1, v1, D2, r2, v2, D3, r3, v3, hch, hd1, hd2, hd3⟩ := hcy
                    have HCH := Lib.hid hch
                    have HD2 := Lib.hid hd2
                    have HD3 := Lib.hid hd3
                    clear hyb hbb hoy hG hch hd1 hd2 hd3 k0 k1 k2 k3 k4 k5 lg q9 f9 ly9 HY9 HOY HYN HB6
                    have HKS : Hid (∀ X : World, Below wB.heap.size wB X → X.cell? ⟨gx, 3, none⟩ = some (.slice (some ⟨G, 0, none⟩) n4 yc) ∧ X.cell? ⟨g, 3, none⟩ = some (.slice (some ⟨b, off, none⟩) n4 c4) ∧ X.cell? ⟨b, off + k * 5 + 2, none⟩ = some (.slice B1 m1 e1)) := Lib.hid (fun X hX => ⟨(hX.cell (p := ⟨gx, 3, none⟩) HYB.out.lt).trans (by rw [HYB.out.cell]; rfl), ((below_step HAB.out hX).cell (p := ⟨g, 3, none⟩) HKz.out.lt).trans (by rw [HKz.out.cell]; rfl), ((below_step HBB.out hX).cell (p := ⟨b, off + k * 5 + 2, none⟩) HBL.out).trans HE2.out⟩)
                    have HKT : Hid (∀ (X : World) (z : Value), Below wB.heap.size wB X → (X.setCell ⟨G, k * 5 + 2, none⟩ z).cell? ⟨gx, 3, none⟩ = some (.slice (some ⟨G, 0, none⟩) n4 yc) ∧ (X.setCell ⟨G, k * 5 + 2, none⟩ z).cell? ⟨g, 3, none⟩ = some (.slice (some ⟨b, off, none⟩) n4 c4) ∧ (X.setCell ⟨G, k * 5 + 2, none⟩ z).cell? ⟨b, off + k * 5 + 2, none⟩ = some (.slice B1 m1 e1)) := Lib.hid (fun X z hX => by
                      obtain ⟨a1, a2, a3⟩ := HKS.out X hX
                      have hG1 : w5.heap.size ≤ G := HGG.out
                      have hy1 := HX5.out.lt
                      have hz1 := HAL.out.size
                      have hz2 := HKz.out.lt
                      have hz3 := HBL.out
                      have hz4 := HBz.out.size
                      exact ⟨(World.cell?_setCell_far _ _ _ _ (show G ≠ gx by omega)).trans a1, (World.cell?_setCell_far _ _ _ _ (show G ≠ g by omega)).trans a2, (World.cell?_setCell_far _ _ _ _ (show G ≠ b by omega)).trans a3⟩)
                    go_cut [20] from 183 to 199 (fun x9 wx => x9 = .pointer (some ⟨gx, 0, none⟩) ∧ ∃ (cs : List Value) (x : QSource), Blk wx gx 29 cs.toArray ∧ Below W0.heap.size W0 wx ∧ (∀ S : List Nat, (∀ b ∈ S, LL ≤ b ∧ b < W0.heap.size) → qSourceR (hideL S wx) cs x) ∧ resolveP x = (111, noSource))
                    case first =>
                      go_region_held3 (fun w' => w'.cell? ⟨gx, 3, none⟩ = some (.slice (some ⟨G, 0, none⟩) n4 yc) ∧ w'.cell? ⟨g, 3, none⟩ = some (.slice (some ⟨b, off, none⟩) n4 c4) ∧ w'.cell? ⟨b, off + k * 5 + 2, none⟩ = some (.slice B1 m1 e1))
                        (first | exact HKS.out _ HB7.out | exact HKT.out _ _ HB7.out | exact HKS.out _ (HB6.out.alloc HB6.out.size _) | exact HKS.out _ HB6.out | exact HKS.out _ (Below.refl _ _) | exact HKS.out _ (((Below.refl _ _).alloc (Nat.le_refl _) _).drew) | exact HKS.out _ ((((Below.refl _ _).alloc (Nat.le_refl _) _).alloc (by simp) _).drew) | exact HKS.out _ (Below.refl _ _).drew)
                        (first
                          | (refine step_append_row _ (by rfl) (.tmp 186) (.tmp 192) 52 61 (by rfl) j8 _ 96 Try.underlying52 I8.out Z8.out.1 Z8.out.2.1 Z8.out.2.2 rfl (by decide) (R := fun _ => qFromR w) (fun _ => qFromR_one w) wB.heap.size (.slice (some ⟨wB.heap.size, 0, none⟩) 0 0) 0 [] (by rfl) ?_ B1 m1 e1 u.froms (by rfl) ?_ ?_ ?_ ?_ ?_
                             · first | (with_reducible show World.ownsRow (World.drew (World.alloc wB _)) _ _ _ _ _ _) | (with_reducible show World.ownsRow (World.alloc wB _) _ _ _ _ _ _) | (with_reducible show World.ownsRow (World.drew (World.drew (World.alloc wB _))) _ _ _ _ _ _)
                               exact own_of_blk (Blk.new wB 61 #[]).drew (Nat.le_refl _)
                             · exact HFL.out.1.fix (below_step HBB.out ((below_one _ _).drew))
                             · have := HLM.out; unfold maxLen; omega
                             · have := HLM.out; omega
                             · exact ((below_one _ _).drew).size
                             intro v1 w6 cs hcs1 ho1 hgr1 hat1
                             have hcs1 : CellsR 8 qFromR w cs u.froms := ⟨hcs1.1, hcs1.2⟩
                             have hb6 : Below wB.heap.size wB w6 := Below.grown ((below_one _ _).drew) hgr1 ((below_one _ _).drew).size (fun r e => Nat.le_of_eq (Option.some.inj e))
                             skip
                             rw [Nat.zero_add, List.nil_append] at ho1
                             obtain ⟨vA, vn, vc, rfl, hvn⟩ := own_form' ho1
                             have HVN := Lib.hid hvn
                             have HO6 := Lib.hid ho1
                             have HC6 := Lib.hid hcs1
                             have HB6 := Lib.hid hb6
                             clear hcs1 ho1 hgr1 hat1 hvn hb6)
                          | (refine step_append_row _ (by rfl) (.tmp 186) (.tmp 192) 52 61 (by rfl) j8 _ 96 Try.underlying52 I8.out Z8.out.1 Z8.out.2.1 Z8.out.2.2 rfl (by decide) (R := fun _ => qFromR w) (fun _ => qFromR_one w) wB.heap.size (.slice (some ⟨wB.heap.size, 0, none⟩) 0 0) 0 [] (by rfl) ?_ B1 m1 e1 u.froms (by rfl) ?_ ?_ ?_ ?_ ?_
                             · first | (with_reducible show World.ownsRow (World.drew (World.alloc (World.alloc wB _) _)) _ _ _ _ _ _) | (with_reducible show World.ownsRow (World.alloc (World.alloc wB _) _) _ _ _ _ _ _) | (with_reducible show World.ownsRow (World.drew (World.drew (World.alloc (World.alloc wB _) _))) _ _ _ _ _ _)
                               exact own_of_blk ((Blk.new wB 61 #[]).alloc _).drew (Nat.le_refl _)
                             · exact HFL.out.1.fix (below_step HBB.out ((below_two _ _ _).drew))
                             · have := HLM.out; unfold maxLen; omega
                             · have := HLM.out; omega
                             · exact ((below_two _ _ _).drew).size
                             intro v1 w6 cs hcs1 ho1 hgr1 hat1
                             have hcs1 : CellsR 8 qFromR w cs u.froms := ⟨hcs1.1, hcs1.2⟩
                             have hb6 : Below wB.heap.size wB w6 := Below.grown ((below_two _ _ _).drew) hgr1 ((below_two _ _ _).drew).size (fun r e => Nat.le_of_eq (Option.some.inj e))
                             have HBN : Hid (Blk w6 (wB.heap.size + 1) 61 #[.string ⟨#[122]⟩, .string ⟨#[]⟩, .int .i64 0, .string ⟨#[]⟩, .string ⟨#[]⟩, .int .i64 0, .int .i64 0, .int .i64 0, .string ⟨#[122]⟩, .string ⟨#[]⟩, .int .i64 0, .string ⟨#[]⟩, .string ⟨#[]⟩, .int .i64 0, .int .i64 0, .int .i64 0]) := Lib.hid (Blk.grown (blk_new2 wB (.cells #[] 61) 61 #[.string ⟨#[122]⟩, .string ⟨#[]⟩, .int .i64 0, .string ⟨#[]⟩, .string ⟨#[]⟩, .int .i64 0, .int .i64 0, .int .i64 0, .string ⟨#[122]⟩, .string ⟨#[]⟩, .int .i64 0, .string ⟨#[]⟩, .string ⟨#[]⟩, .int .i64 0, .int .i64 0, .int .i64 0]).drew hgr1 (fun e => Nat.succ_ne_self _ (Option.some.inj e)))
                             rw [Nat.zero_add, List.nil_append] at ho1
                             obtain ⟨vA, vn, vc, rfl, hvn⟩ := own_form' ho1
                             have HVN := Lib.hid hvn
                             have HO6 := Lib.hid ho1
                             have HC6 := Lib.hid hcs1
                             have HB6 := Lib.hid hb6
                             clear hcs1 ho1 hgr1 hat1 hvn hb6)
                          | (refine step_append_row _ (by rfl) (.tmp 186) (.tmp 192) 52 61 (by rfl) j8 _ 96 Try.underlying52 I8.out Z8.out.1 Z8.out.2.1 Z8.out.2.2 rfl (by decide) (R := fun _ => qFromR w) (fun _ => qFromR_one w) wB.heap.size (.slice (some ⟨wB.heap.size + 1, 0, none⟩) 0 0) 0 [] (by rfl) ?_ B1 m1 e1 u.froms (by rfl) ?_ ?_ ?_ ?_ ?_
                             · first | (with_reducible show World.ownsRow (World.drew (World.alloc (World.alloc wB _) _)) _ _ _ _ _ _) | (with_reducible show World.ownsRow (World.alloc (World.alloc wB _) _) _ _ _ _ _ _) | (with_reducible show World.ownsRow (World.drew (World.drew (World.alloc (World.alloc wB _) _))) _ _ _ _ _ _)
                               exact own_of_blk (blk_new2 wB (.cells #[.string ⟨#[122]⟩, .string ⟨#[]⟩, .int .i64 0, .string ⟨#[]⟩, .string ⟨#[]⟩, .int .i64 0, .int .i64 0, .int .i64 0, .string ⟨#[122]⟩, .string ⟨#[]⟩, .int .i64 0, .string ⟨#[]⟩, .string ⟨#[]⟩, .int .i64 0, .int .i64 0, .int .i64 0] 61) 61 #[]).drew (Nat.le_succ _)
                             · exact HFL.out.1.fix (below_step HBB.out ((below_two _ _ _).drew))
                             · have := HLM.out; unfold maxLen; omega
                             · have := HLM.out; omega
                             · exact ((below_two _ _ _).drew).size
                             intro v1 w6 cs hcs1 ho1 hgr1 hat1
                             have hcs1 : CellsR 8 qFromR w cs u.froms := ⟨hcs1.1, hcs1.2⟩
                             have hb6 : Below wB.heap.size wB w6 := Below.grown ((below_two _ _ _).drew) hgr1 ((below_two _ _ _).drew).size (fun r e => Nat.le_of_succ_le (Nat.le_of_eq (Option.some.inj e)))
                             have HBN : Hid (Blk w6 wB.heap.size 61 #[.string ⟨#[122]⟩, .string ⟨#[]⟩, .int .i64 0, .string ⟨#[]⟩, .string ⟨#[]⟩, .int .i64 0, .int .i64 0, .int .i64 0, .string ⟨#[122]⟩, .string ⟨#[]⟩, .int .i64 0, .string ⟨#[]⟩, .string ⟨#[]⟩, .int .i64 0, .int .i64 0, .int .i64 0]) := Lib.hid (Blk.grown ((Blk.new wB 61 #[.string ⟨#[122]⟩, .string ⟨#[]⟩, .int .i64 0, .string ⟨#[]⟩, .string ⟨#[]⟩, .int .i64 0, .int .i64 0, .int .i64 0, .string ⟨#[122]⟩, .string ⟨#[]⟩, .int .i64 0, .string ⟨#[]⟩, .string ⟨#[]⟩, .int .i64 0, .int .i64 0, .int .i64 0]).alloc _).drew hgr1 (fun e => Nat.succ_ne_self _ (Option.some.inj e).symm))
                             rw [Nat.zero_add, List.nil_append] at ho1
                             obtain ⟨vA, vn, vc, rfl, hvn⟩ := own_form' ho1
                             have HVN := Lib.hid hvn
                             have HO6 := Lib.hid ho1
                             have HC6 := Lib.hid hcs1
                             have HB6 := Lib.hid hb6
                             clear hcs1 ho1 hgr1 hat1 hvn hb6)
                          | (refine step_append_own_at _ (by rfl) (.tmp 193) (.tmp 196) 52 (by rfl) wB.heap.size 61 j8 _ 8 96 Try.underlying52 I8.out Z8.out.1 Z8.out.2.1 Z8.out.2.2 rfl (by decide) (.slice vA vn vc) m1 cs (by rfl) ?_ ⟨w6.heap.size, 0, none⟩ 2 2 [.string ⟨#[122]⟩, .string ⟨#[]⟩, .int .i64 0, .string ⟨#[]⟩, .string ⟨#[]⟩, .int .i64 0, .int .i64 0, .int .i64 0, .string ⟨#[122]⟩, .string ⟨#[]⟩, .int .i64 0, .string ⟨#[]⟩, .string ⟨#[]⟩, .int .i64 0, .int .i64 0, .int .i64 0] (by rfl) rfl ?_ (by intro u hu; simp only [List.mem_cons, List.not_mem_nil, or_false] at hu; rcases hu with rfl | rfl | rfl | rfl | rfl | rfl | rfl | rfl | rfl | rfl | rfl | rfl | rfl | rfl | rfl | rfl <;> rfl) ?_ ?_ ?_ ?_
                             · exact HO6.out.alloc _
                             · exact blk_news (Blk.new _ _ _)
                             · have := HLM.out; unfold maxLen; omega
                             · have := HLM.out; omega
                             · have := HB6.out.size; simp; omega
                             intro v' w7 hown hgrow hat
                             obtain ⟨vA', vn', vc', rfl, hvn'⟩ := own_form' hown
                             have hb7 : Below wB.heap.size wB w7 := Below.grown (HB6.out.alloc HB6.out.size _) hgrow (by have := HB6.out.size; simp; omega) (fun r e => (HO6.out.lt r e).1)
                             have HVN' := Lib.hid hvn'
                             have HO7 := Lib.hid hown
                             have HB7 := Lib.hid hb7
                             have hyr := own_below0 HOZ.out hb7
                             have q7 := own_cell hyr hkn (by omega) HCH.out (j := 2) rfl
                             have f7 := hyr.frozenAt (k * 5 + 2)
                             have HYR := Lib.hid hyr
                             have lG7 := own_lt hyr
                             clear hyr
                             clear hown hgrow hat hvn' hb7)
                          | (refine step_append_own_at _ (by rfl) (.tmp 193) (.tmp 196) 52 (by rfl) wB.heap.size 61 j8 _ 8 96 Try.underlying52 I8.out Z8.out.1 Z8.out.2.1 Z8.out.2.2 rfl (by decide) (.slice vA vn vc) m1 cs (by rfl) ?_ ⟨wB.heap.size + 1, 0, none⟩ 2 2 [.string ⟨#[122]⟩, .string ⟨#[]⟩, .int .i64 0, .string ⟨#[]⟩, .string ⟨#[]⟩, .int .i64 0, .int .i64 0, .int .i64 0, .string ⟨#[122]⟩, .string ⟨#[]⟩, .int .i64 0, .string ⟨#[]⟩, .string ⟨#[]⟩, .int .i64 0, .int .i64 0, .int .i64 0] (by rfl) rfl ?_ (by intro u hu; simp only [List.mem_cons, List.not_mem_nil, or_false] at hu; rcases hu with rfl | rfl | rfl | rfl | rfl | rfl | rfl | rfl | rfl | rfl | rfl | rfl | rfl | rfl | rfl | rfl <;> rfl) ?_ ?_ ?_ ?_
                             · exact HO6.out
                             · exact blk_news HBN.out
                             · have := HLM.out; unfold maxLen; omega
                             · have := HLM.out; omega
                             · have := HB6.out.size; simp; omega
                             intro v' w7 hown hgrow hat
                             obtain ⟨vA', vn', vc', rfl, hvn'⟩ := own_form' hown
                             have hb7 : Below wB.heap.size wB w7 := Below.grown HB6.out hgrow (by have := HB6.out.size; simp; omega) (fun r e => (HO6.out.lt r e).1)
                             have HVN' := Lib.hid hvn'
                             have HO7 := Lib.hid hown
                             have HB7 := Lib.hid hb7
                             have hyr := own_below0 HOZ.out hb7
                             have q7 := own_cell hyr hkn (by omega) HCH.out (j := 2) rfl
                             have f7 := hyr.frozenAt (k * 5 + 2)
                             have HYR := Lib.hid hyr
                             have lG7 := own_lt hyr
                             clear hyr
                             clear hown hgrow hat hvn' hb7)
                          | (refine step_append_own_at _ (by rfl) (.tmp 193) (.tmp 196) 52 (by rfl) wB.heap.size 61 j8 _ 8 96 Try.underlying52 I8.out Z8.out.1 Z8.out.2.1 Z8.out.2.2 rfl (by decide) (.slice vA vn vc) m1 cs (by rfl) ?_ ⟨wB.heap.size, 0, none⟩ 2 2 [.string ⟨#[122]⟩, .string ⟨#[]⟩, .int .i64 0, .string ⟨#[]⟩, .string ⟨#[]⟩, .int .i64 0, .int .i64 0, .int .i64 0, .string ⟨#[122]⟩, .string ⟨#[]⟩, .int .i64 0, .string ⟨#[]⟩, .string ⟨#[]⟩, .int .i64 0, .int .i64 0, .int .i64 0] (by rfl) rfl ?_ (by intro u hu; simp only [List.mem_cons, List.not_mem_nil, or_false] at hu; rcases hu with rfl | rfl | rfl | rfl | rfl | rfl | rfl | rfl | rfl | rfl | rfl | rfl | rfl | rfl | rfl | rfl <;> rfl) ?_ ?_ ?_ ?_
                             · exact HO6.out
                             · exact blk_news HBN.out
                             · have := HLM.out; unfold maxLen; omega
                             · have := HLM.out; omega
                             · have := HB6.out.size; simp; omega
                             intro v' w7 hown hgrow hat
                             obtain ⟨vA', vn', vc', rfl, hvn'⟩ := own_form' hown
                             have hb7 : Below wB.heap.size wB w7 := Below.grown HB6.out hgrow (by have := HB6.out.size; simp; omega) (fun r e => (HO6.out.lt r e).1)
                             have HVN' := Lib.hid hvn'
                             have HO7 := Lib.hid hown
                             have HB7 := Lib.hid hb7
                             have hyr := own_below0 HOZ.out hb7
                             have q7 := own_cell hyr hkn (by omega) HCH.out (j := 2) rfl
                             have f7 := hyr.frozenAt (k * 5 + 2)
                             have HYR := Lib.hid hyr
                             have lG7 := own_lt hyr
                             clear hyr
                             clear hown hgrow hat hvn' hb7)
                          | fail)
                      all_goals
                        go_wp2_with fail
                        go_meet
                        have hb9 : Below W0.heap.size W0 (w7.setCell ⟨G, k * 5 + 2, none⟩ (.slice vA' vn' vc')) := (below_step HAB.out HB7.out).setCell (show W0.heap.size ≤ G by have := HGG.out; have := HAL.out.size; omega) _
                        have hbw := below_step HBz.out hb9
                        have hy9 := (HYB.out.below HB7.out HYB.out.lt).far (p := ⟨G, k * 5 + 2, none⟩) (show gx ≠ G by have := HX5.out.lt; have := HGG.out; omega) (.slice vA' vn' vc')
                        have hoy := (HYR.out.stored (k * 5 + 2) (.slice vA' vn' vc')).1
                        have hof := own_far HO7.out (show (⟨G, k * 5 + 2, none⟩ : Addr).block < wB.heap.size from lG) (.slice vA' vn' vc')
                        generalize (w7.setCell ⟨G, k * 5 + 2, none⟩ (.slice vA' vn' vc')) = w9 at hb9 hbw hy9 hoy hof ⊢
                        refine ⟨rfl, _, { s with rules := s.rules.set k { u with froms := u.froms ++ [zFrom, zFrom] } }, hy9, hb9, fun S hS => ?_, two5 HX.out⟩
                        have hbS : Below w.heap.size w (hideL S w9) := hideL_old hbw (fun b hb => Nat.le_trans HLL.out (hS b hb).1)
                        have hp := src_parts (qSourceR_mono _ _ hbS _ _ HS.out)
                        have hSB : ∀ b ∈ S, b < wB.heap.size := fun b hb => Nat.lt_of_lt_of_le (hS b hb).2 HAB.out.size
                        have hnf : SlB 8 96 qFromR (hideL S w9) (.slice vA' vn' vc') (u.froms ++ [zFrom, zFrom]) := slB_two (hideL_own hof hSB) (HC6.out.mono qFromR_mono hbS) (zfroms_cells _) (HFL.out.1.len) (by have := HLM.out; have := HFL.out.1.len; omega) rfl
                        have hny : SlB 5 96 qRuleR (hideL S w9) (.slice (some ⟨G, 0, none⟩) n4 yc) (s.rules.set k { u with froms := u.froms ++ [zFrom, zFrom] }) := slB_set (hideL_own hoy (fun b hb => Nat.lt_of_lt_of_le (hS b hb).2 HAL.out.size)) (HCY.out.mono qRuleR_mono hbS) (by omega) (by rw [← HLE4.out]; exact hkn) (by rw [HCH.out]; exact ⟨_, _, _, _, _, _, _, _, _, rfl, hnf, HD2.out.mono qAtomR_mono hbS, HD3.out.mono qSetR_mono hbS⟩) (HLE4.out) (by have := HLN4.out; have := HLE4.out; omega)
                        exact src_whole hp.1 hp.2.1 hp.2.2.1 hny hp.2.2.2.2.1 hp.2.2.2.2.2
                    case rest =>
                      obtain ⟨rfl, csn, sn, hx8, hb8, hrd, hrm⟩ := hcut
                      clear HYB HAB HBB HOZ HGG HCH HD2 HD3 HKS HKT HX5 HAL HB5 HCY
                      obtain ⟨w8, rfl⟩ : ∃ x, x = wc := ⟨_, rfl⟩
                      obtain ⟨Y1, m1, d1, Y2, m2, d2, Y3, m3, d3, Y4, m4, d4, Y5, m5, d5, Y6, m6, d6, rfl, -⟩ := id (hrd [] (by simp))
                      obtain ⟨csl, SL, hol, h2, h3, hc⟩ := HG.out
                      have HOL := Lib.hid (own_below0 hol hb8)
                      have HSL := Lib.hid (And.intro h2 h3)
                      have HCL := Lib.hid (hc.mono qSourceR_mono (hideL_below hb8))
                      have HRD := Lib.hid (CellsR.one (R := qSourceR) rfl (hrd SL h3))
                      have HRM := Lib.hid hrm
                      have HB8 := Lib.hid hb8
                      have HK8 := Lib.hid (HKz.out.below hb8 HKz.out.lt)
                      clear hkt hke hol h2 h3 hc hrd hrm hb8
                      obtain ⟨y0, y1, y2, y3, y4, y5⟩ := six_cells hx8 (Below.refl _ _)
                      clear hx8
                      go_wp2_with (first
                        | (at_builtin; go_loud (refine wpList_append_own_at _ rfl (.tmp 200) (.tmp 202) 77 rfl LL 29 j0 _ 6 144 Try.underlying77 I0.out Z0.out.1 Z0.out.2.1 Z0.out.2.2 rfl (by decide) (.slice B7 ll.length e7) ll.length csl rfl (HOL.out.alloc _) ⟨w8.heap.size, 0, none⟩ 1 1 [.slice Y1 m1 d1, .slice Y2 m2 d2, .slice Y3 m3 d3, .slice Y4 m4 d4, .slice Y5 m5 d5, .slice Y6 m6 d6] rfl rfl (blk_news (Blk.new _ _ _)) (by intro u hu; simp only [List.mem_cons, List.not_mem_nil, or_false] at hu; rcases hu with rfl | rfl | rfl | rfl | rfl | rfl <;> rfl) (by have := HJ.out; unfold maxLen; omega) (by have := HJ.out; omega) (by have := HLZ.out; have := HB8.out.size; simp; omega) ?_)
                           intro v' w9 hown hgrow hnil hat
                           obtain ⟨vA', vn', vc', rfl, hvn'⟩ := own_form' hown
                           have HVN' := Lib.hid hvn'
                           have HO9 := Lib.hid hown
                           have HG9 := Lib.hid hgrow
                           have HA9 := Lib.hid hat
                           clear hown hgrow hnil hat hvn'))
                      go_meet
                      have hal : Below w8.heap.size w8 (w8.alloc (.cells #[.slice Y1 m1 d1, .slice Y2 m2 d2, .slice Y3 m3 d3, .slice Y4 m4 d4, .slice Y5 m5 d5, .slice Y6 m6 d6] 29)) := (Below.refl _ _).alloc (Nat.le_refl _) _
                      have hLw : LL ≤ w8.heap.size := Nat.le_trans HLZ.out HB8.out.size
                      have hbig : Below LL (w8.alloc (.cells #[.slice Y1 m1 d1, .slice Y2 m2 d2, .slice Y3 m3 d3, .slice Y4 m4 d4, .slice Y5 m5 d5, .slice Y6 m6 d6] 29)) w9 := Below.grown (Below.refl _ _) HG9.out (by simp; omega) (fun r e => (HSL.out.2 r (HSL.out.1 r e)).1)
                      have hb9 : Below w.heap.size w w9 := (below_step (below_step HBz.out HB8.out) hal).trans (hbig.mono HLL.out)
                      have hk9 : Blk w9 g 29 #[.slice A1 n1 c1, .slice A2 n2 c2, .slice A3 n3 c3, .slice (some ⟨b, off, none⟩) n4 c4, .slice A5 n5 c5, .slice A6 n6 c6] := HK8.out.below ((hal.mono hLw).trans hbig) HGL.out
                      have hl9 : LL ≤ w9.heap.size := Nat.le_trans hLw (Nat.le_trans hal.size hbig.size)
                      exact ⟨ll ++ [sn], Grow.push HSL.out.1 (fun b hb => ⟨(HSL.out.2 b hb).1, Nat.lt_of_lt_of_le (HSL.out.2 b hb).2 (Nat.le_trans HB8.out.size hal.size)⟩) (HCL.out.mono qSourceR_mono (hideL_below hal)) qSourceR_mono HO9.out (by simp) HG9.out HA9.out (by simp; omega) (HRD.out.mono qSourceR_mono (hideL_below hal)), by have := HJ.out; rw [List.length_append]; simp only [List.length_cons, List.length_nil]; omega, fun z hz => (List.mem_append.1 hz).elim (HT.out z) (fun h => by rw [List.mem_singleton.1 h]; exact HRM.out), hb9, hk9, hl9⟩
                  · have hnk : ¬ (0 : Int) < (n4 : Int) := by omega
                    have hnd : decide ((0 : Int) < (n4 : Int)) = false := by simp; omega
                    go_wp2_with fail
                    go_meet
                    exact ⟨ll, HG.out, by have := HJ.out; omega, HT.out, HBz.out, HKz.out, HLZ.out⟩
              case rest =>
                clear HG HJ HT HBz HKz HLZ k0 k1 k2 k3 k4 k5
                obtain ⟨ll, hg, hj, ht, hbz, hkz, hlz⟩ := hcut
                obtain ⟨W0, rfl⟩ : ∃ x, x = wc := ⟨_, rfl⟩
                obtain ⟨B7, e7, rfl⟩ := hg.form
                have HG := Lib.hid hg
                have HJ := Lib.hid hj
                have HT := Lib.hid ht
                have HBz := Lib.hid hbz
                have HKz := Lib.hid hkz
                have HLZ := Lib.hid hlz
                clear hg hj ht hbz hkz hlz
                obtain ⟨k0, k1, k2, k3, k4, k5⟩ := six_cells HKz.out (Below.refl _ _)
                clear k0 k1 k2 k3 k4 k5 HKz
                have hle : ll.length ≤ 6 := HJ.out
                go_wp2_with fail
                go_loopg [21] ll.length (fun q i wr => ∃ kz : Nat, kz ≤ ll.length ∧ q = ll.length - kz ∧ i = .int .i64 kz ∧ Below W0.heap.size W0 wr)
                case atStart => exact ⟨0, Nat.zero_le _, rfl, rfl, Below.refl _ _⟩
                case round =>
                  obtain ⟨k, hk, hq, rfl, hbr⟩ := hrel
                  have HQ := Lib.hid hq
                  have HBr := Lib.hid hbr
                  clear hq hbr
                  by_cases hlt : k < ll.length
                  · have hkn : (k : Int) < (ll.length : Int) := by omega
                    have hk0 : (0 : Int) ≤ (k : Int) := by omega
                    have HSL := Lib.hid ((HG.out.below qSourceR_mono HBr.out).sl qSourceR_unm)
                    obtain ⟨b, off, x, Y1, m1, d1, Y2, m2, d2, Y3, m3, d3, Y4, m4, d4, Y5, m5, d5, Y6, m6, d6, rfl, hbl, hx, y0, y1, y2, y3, y4, y5, r1, r2, r3, r4, r5, r6⟩ := qSource_at HSL.out hlt
                    have HXS := Lib.hid (src_whole r1 r2 r3 r4 r5 r6)
                    have HRM := Lib.hid (HT.out x (List.mem_of_getElem? hx))
                    clear hx r1 r2 r3 r4 r5 r6 HSL
                    go_wp2_with fail
                    with_reducible refine (resolve_src [.slice Y1 m1 d1, .slice Y2 m2 d2, .slice Y3 m3 d3, .slice Y4 m4 d4, .slice Y5 m5 d5, .slice Y6 m6 d6] x wr HXS.out).mono ?_
                    rintro e w9 ⟨cs9, rfl, hx9, hb9⟩
                    rw [HRM.out] at hx9 ⊢
                    have HX9 := Lib.hid hx9
                    obtain ⟨X1, p1, q1, X2, p2, q2, X3, p3, q3, X4, p4, q4, X5, p5, q5, X6, p6, q6, rfl, -⟩ := hx9
                    have HB9 := Lib.hid (below_step HBr.out hb9)
                    clear y0 y1 y2 y3 y4 y5 hb9 HXS HRM
                    go_upto_region 43 with fail
                    have hal : Below w9.heap.size w9 (w9.alloc (.cells #[.slice X1 p1 q1, .slice X2 p2 q2, .slice X3 p3 q3, .slice X4 p4 q4, .slice X5 p5 q5, .slice X6 p6 q6] 29)) := (Below.refl _ _).alloc (Nat.le_refl _) _
                    have hxa : Blk (w9.alloc (.cells #[.slice X1 p1 q1, .slice X2 p2 q2, .slice X3 p3 q3, .slice X4 p4 q4, .slice X5 p5 q5, .slice X6 p6 q6] 29)) w9.heap.size 29 #[.slice X1 p1 q1, .slice X2 p2 q2, .slice X3 p3 q3, .slice X4 p4 q4, .slice X5 p5 q5, .slice X6 p6 q6] := Blk.new _ _ _
                    have HBA := Lib.hid (below_step HB9.out hal)
                    have XS := Lib.hid (qSourceR_mono _ _ hal _ _ HX9.out)
                    obtain ⟨gy, hgy⟩ : ∃ g, g = w9.heap.size := ⟨_, rfl⟩
                    rw [← hgy] at hxa ⊢
                    generalize w9.alloc (.cells #[.slice X1 p1 q1, .slice X2 p2 q2, .slice X3 p3 q3, .slice X4 p4 q4, .slice X5 p5 q5, .slice X6 p6 q6] 29) = wA at hxa HBA XS ⊢
                    obtain ⟨k0, k1, k2, k3, k4, k5⟩ := six_cells hxa (Below.refl _ _)
                    clear hxa hgy hal HB9 HX9
                    go_wp2_with fail
                    with_reducible refine (same_src [.slice X1 p1 q1, .slice X2 p2 q2, .slice X3 p3 q3, .slice X4 p4 q4, .slice X5 p5 q5, .slice X6 p6 q6] [.slice none 0 0, .slice none 0 0, .slice none 0 0, .slice none 0 0, .slice none 0 0, .slice none 0 0] noSource wA XS.out (noSource_at _)).mono ?_
                    rintro e wB ⟨rfl, hbB⟩
                    have HBB := Lib.hid (below_step HBA.out hbB)
                    clear hbB k0 k1 k2 k3 k4 k5
                    go_wp2_with fail
                    go_roundg (ll.length - (k + 1))
                    case measure => have := HQ.out; omega
                    case rel => exact ⟨k + 1, by omega, rfl, by go_num, HBB.out⟩
                  · have hkn : ¬ (k : Int) < (ll.length : Int) := by omega
                    go_wp2_with fail
                    go_ret
                    exact ⟨rfl, below_step HBz.out HBr.out⟩
end Go.Proofs.Ytkkkephjljiplaa
