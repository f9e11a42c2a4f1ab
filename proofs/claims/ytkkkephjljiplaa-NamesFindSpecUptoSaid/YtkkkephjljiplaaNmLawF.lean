/- The law NamesFindSpec, where the names are not too many: it answers true. Written by genfind.py. -/
import Derived.Test.YtkkkephjljiplaaNmMeQ
import Derived.Test.YtkkkephjljiplaaNmRf2
import Derived.Test.YtkkkephjljiplaaNmFew
namespace Go.Proofs.Ytkkkephjljiplaa
open Go.RowKit

def selfStr : ByteArray := ⟨#[115, 101, 108, 102]⟩
/-- The names that are asked for, up to the schema k. -/
def namesTo (s : QSource) (nm : ByteArray) (k : Nat) : List ByteArray := [nm, selfStr] ++ (s.schemas.take k).flatMap (fun y => y.name :: fieldNames y)
def findNames (s : QSource) (nm : ByteArray) : List ByteArray := namesTo s nm s.schemas.length ++ purposeNames s
theorem namesTo_succ {s : QSource} {nm : ByteArray} {k : Nat} {y : QSchema} (hy : s.schemas[k]? = some y) : namesTo s nm (k + 1) = namesTo s nm k ++ [y.name] ++ fieldNames y := by
  unfold namesTo
  rw [take_snoc hy, List.flatMap_append]
  simp
theorem namesTo_len {s : QSource} {nm : ByteArray} : ∀ (m k : Nat), k + m = s.schemas.length → (namesTo s nm k).length ≤ (namesTo s nm s.schemas.length).length
  | 0, k, h => by rw [← h]; exact Nat.le_refl _
  | m + 1, k, h => by
    have h1 := namesTo_len (s := s) (nm := nm) m (k + 1) (by omega)
    rw [namesTo_succ (List.getElem?_eq_getElem (show k < s.schemas.length by omega))] at h1
    simp only [List.length_append] at h1
    omega
theorem find_len1 {s : QSource} {nm : ByteArray} {k : Nat} {y : QSchema} (h : (findNames s nm).length ≤ 1048578) (hy : s.schemas[k]? = some y) : (namesTo s nm k).length + 1 ≤ 1048578 := by
  have hk := (List.getElem?_eq_some_iff.1 hy).1
  have h1 := namesTo_len (s := s) (nm := nm) (s.schemas.length - (k + 1)) (k + 1) (by omega)
  rw [namesTo_succ hy] at h1
  unfold findNames at h
  simp only [List.length_append, List.length_cons, List.length_nil] at h h1
  omega
theorem find_len2 {s : QSource} {nm : ByteArray} {k j : Nat} {y : QSchema} (h : (findNames s nm).length ≤ 1048578) (hy : s.schemas[k]? = some y) (hj : j < y.fields.length) : (namesTo s nm k ++ [y.name] ++ (fieldNames y).take j).length + 1 ≤ 1048578 := by
  have hk := (List.getElem?_eq_some_iff.1 hy).1
  have h1 := namesTo_len (s := s) (nm := nm) (s.schemas.length - (k + 1)) (k + 1) (by omega)
  rw [namesTo_succ hy] at h1
  unfold findNames at h
  have h2 : (fieldNames y).length = y.fields.length := by unfold fieldNames; simp
  simp only [List.length_append, List.length_cons, List.length_nil, List.length_take] at h h1 ⊢
  omega
theorem find_len3 {s : QSource} {nm : ByteArray} {j : Nat} (h : (findNames s nm).length ≤ 1048578) (hj : j < s.purposes.length) : (namesTo s nm s.schemas.length ++ (purposeNames s).take j).length + 1 ≤ 1048578 := by
  unfold findNames at h
  have h2 : (purposeNames s).length = s.purposes.length := by unfold purposeNames; simp
  simp only [List.length_append, List.length_take] at h ⊢
  omega

/-- While the list of names is made. -/
structure RL (w0 : World) (l : List ByteArray) (A : Option Addr) (m c : Nat) (wr : World) : Prop where
  old : Below w0.heap.size w0 wr
  row : wr.ownsRow w0.heap.size 9 1 (.slice A m c) l.length (l.map strV)
theorem RL.next {w0 : World} {l : List ByteArray} {A : Option Addr} {m c : Nat} {wr W9 : World} (h : RL w0 l A m c wr) {x : ByteArray} {o : Obj} {v' : Value} (hown : W9.ownsRow w0.heap.size 9 1 v' (l.length + 1) (l.map strV ++ [.string x])) (hg : (wr.alloc o).grownBy W9 (Value.slice A m c).ownBlock) : ∃ A' m' c', v' = .slice A' m' c' ∧ RL w0 (l ++ [x]) A' m' c' W9 := by
  obtain ⟨A', m', c', rfl⟩ := own_form hown
  refine ⟨A', m', c', rfl, (h.old.alloc h.old.size o).grown hg (by have := h.old.size; simp; omega) (fun r e => (h.row.lt r e).1), ?_⟩
  rw [List.map_append, List.length_append]
  exact hown
theorem RL.sl {w0 : World} {l : List ByteArray} {A : Option Addr} {m c : Nat} {wr : World} (h : RL w0 l A m c wr) : SlR 1 strR wr (.slice A m c) l := slR_of_row h.row (cellsStr wr l) rfl
theorem RL.start (w0 : World) (a b : ByteArray) : RL w0 [a, b] (some ⟨w0.heap.size, 0, none⟩) 2 2 (w0.alloc (.cells #[.string a, .string b] 9)) :=
  ⟨(Below.refl _ _).alloc (Nat.le_refl _) _, by
    have := World.ownsRow_lit w0 (base := w0.heap.size) (e := 9) (size := 1) #[.string a, .string b] 2 (Nat.le_refl _) (by decide) rfl
    simpa using this⟩

theorem nSchema_any (A1 A2 A3 A4 A5 A6 : Option Addr) (n1 c1 n2 c2 n3 c3 n4 c4 n5 c5 n6 c6 : Nat) (s : QSource) (nm : ByteArray) (w : World) (hs : SlR 6 qSchemaR w (.slice A3 n3 c3) s.schemas) :
    Calls Try.prog 19 #[.agg #[.slice A1 n1 c1, .slice A2 n2 c2, .slice A3 n3 c3, .slice A4 n4 c4, .slice A5 n5 c5, .slice A6 n6 c6], .string nm] w fun e w' => e = .returned (.tuple #[.int .i64 (firstI (schemaNames s) nm), .bool (firstB (schemaNames s) nm)]) ∧ Below w.heap.size w w' := namesSchema_any A1 A2 A3 A4 A5 A6 n1 c1 n2 c2 n3 c3 n4 c4 n5 c5 n6 c6 s nm w hs
theorem nPurpose_any (A1 A2 A3 A4 A5 A6 : Option Addr) (n1 c1 n2 c2 n3 c3 n4 c4 n5 c5 n6 c6 : Nat) (s : QSource) (nm : ByteArray) (w : World) (hs : SlR 3 qPurposeR w (.slice A6 n6 c6) s.purposes) :
    Calls Try.prog 21 #[.agg #[.slice A1 n1 c1, .slice A2 n2 c2, .slice A3 n3 c3, .slice A4 n4 c4, .slice A5 n5 c5, .slice A6 n6 c6], .string nm] w fun e w' => e = .returned (.tuple #[.int .i64 (firstI (purposeNames s) nm), .bool (firstB (purposeNames s) nm)]) ∧ Below w.heap.size w w' := namesPurpose_any A1 A2 A3 A4 A5 A6 n1 c1 n2 c2 n3 c3 n4 c4 n5 c5 n6 c6 s nm w hs

set_option maxHeartbeats 16000000 in
set_option maxRecDepth 100000 in
theorem find_any (A1 A2 A3 A4 A5 A6 : Option Addr) (n1 c1 n2 c2 n3 c3 n4 c4 n5 c5 n6 c6 : Nat) (s : QSource) (sc : Int) (nm : ByteArray) (w : World) (h1 : SlB 1 16 strR w (.slice A1 n1 c1) s.issuers) (h2 : SlB 5 56 qUnitR w (.slice A2 n2 c2) s.units) (h3 : SlB 6 96 qSchemaR w (.slice A3 n3 c3) s.schemas) (h4 : SlB 5 96 qRuleR w (.slice A4 n4 c4) s.rules) (h5 : SlB 5 72 qConvertR w (.slice A5 n5 c5) s.converts) (h6 : SlB 3 48 qPurposeR w (.slice A6 n6 c6) s.purposes) (hcnt : (findNames s nm).length ≤ 1048578) :
    Calls Try.prog 9 #[.agg #[.slice A1 n1 c1, .slice A2 n2 c2, .slice A3 n3 c3, .slice A4 n4 c4, .slice A5 n5 c5, .slice A6 n6 c6], .int .i64 sc, .string nm] w fun e w' => e = .returned (.bool true) ∧ Below w.heap.size w w' := by
  have HS := Lib.hid (src_whole h1 h2 h3 h4 h5 h6)
  have HL3 := Lib.hid h3.1.len
  have HL6 := Lib.hid h6.1.len
  have le3 := h3.1.le
  have le6 := h6.1.le
  clear h1 h2 h3 h4 h5 h6
  obtain ⟨i0, hi, hz0, hz1, hz2⟩ := info_parts Try.infoStr
  have I0 := Lib.hid hi
  have Z0 := Lib.hid (And.intro hz0 (And.intro hz1 hz2))
  clear hi hz0 hz1 hz2
  go_enter Try.func9, Try.ntmps9
  go_upto_region 1 with fail
  have hk : Blk (w.alloc (.cells #[.slice A1 n1 c1, .slice A2 n2 c2, .slice A3 n3 c3, .slice A4 n4 c4, .slice A5 n5 c5, .slice A6 n6 c6] 29)) w.heap.size 29 #[.slice A1 n1 c1, .slice A2 n2 c2, .slice A3 n3 c3, .slice A4 n4 c4, .slice A5 n5 c5, .slice A6 n6 c6] := Blk.new _ _ _
  have hb : Below w.heap.size w (w.alloc (.cells #[.slice A1 n1 c1, .slice A2 n2 c2, .slice A3 n3 c3, .slice A4 n4 c4, .slice A5 n5 c5, .slice A6 n6 c6] 29)) := (Below.refl _ _).alloc (Nat.le_refl _) _
  obtain ⟨g, hg⟩ : ∃ g, g = w.heap.size := ⟨_, rfl⟩
  rw [← hg] at hk ⊢
  generalize w.alloc (.cells #[.slice A1 n1 c1, .slice A2 n2 c2, .slice A3 n3 c3, .slice A4 n4 c4, .slice A5 n5 c5, .slice A6 n6 c6] 29) = wb at hk hb ⊢
  have HK := Lib.hid hk
  have HB := Lib.hid hb
  clear hk hb hg
  go_wp2_with fail
  refine (sane_any wb).mono ?_
  rintro e w1 ⟨rfl, hb1⟩
  have hk1 := HK.out.below hb1 HK.out.lt
  obtain ⟨k0, k1, k2, k3, k4, k5⟩ := six_cells hk1 (Below.refl _ _)
  have lk := hk1.lt
  have HK1 := Lib.hid hk1
  have HB1 := Lib.hid (below_step HB.out hb1)
  clear hk1 hb1 HK HB
  go_wp2_with fail
  have HP1 := Lib.hid (src_parts (qSourceR_mono _ _ HB1.out _ _ HS.out))
  refine (few_any A1 A2 A3 A4 A5 A6 n1 c1 n2 c2 n3 c3 n4 c4 n5 c5 n6 c6 s w1 HP1.out.2.2.1.1 HP1.out.2.2.2.1.1 HP1.out.2.2.2.2.1.1 HP1.out.2.2.2.2.2.1).mono ?_
  rintro e w2 ⟨⟨b, rfl⟩, hb2⟩
  clear k0 k1 k2 k3 k4 k5 lk HP1
  have HK2 := Lib.hid (HK1.out.below hb2 HK1.out.lt)
  have HB2 := Lib.hid (below_step HB1.out hb2)
  clear hb2 HB1 HK1
  cases b with
  | false =>
    go_wp2_with fail
    go_ret
    exact ⟨rfl, HB2.out⟩
  | true =>
    have HP2 := Lib.hid (src_parts (qSourceR_mono _ _ HB2.out _ _ HS.out))
    have lg := HK2.out.lt
    have hk2 := HK2.out.cell 2
    have hk5 := HK2.out.cell 5
    simp only [List.getElem?_toArray, List.getElem?_cons_zero, List.getElem?_cons_succ] at hk2 hk5
    have K2 := Lib.hid hk2
    have K5 := Lib.hid hk5
    clear hk2 hk5
    go_upto_region 6 with fail
    have HST := Lib.hid (RL.start w2 nm selfStr)
    change Code.wp _ _ _ _ (w2.alloc (.cells #[.string nm, .string selfStr] 9))
    generalize w2.alloc (.cells #[.string nm, .string selfStr] 9) = wc at HST ⊢
    have kc := (HST.out.old.cell (p := ⟨g, 2, none⟩) lg).trans K2.out
    have lk := Nat.lt_of_lt_of_le lg HST.out.old.size
    go_wp2_with fail
    clear kc lk
    go_loopg [7, 8] n3 (fun q l i wr => ∃ (k : Nat) (A : Option Addr) (m c : Nat), k ≤ n3 ∧ q = n3 - k ∧ l = .slice A m c ∧ i = .int .i64 k ∧ RL w2 (namesTo s nm k) A m c wr)
    case atStart => exact ⟨0, _, _, _, Nat.zero_le _, rfl, rfl, rfl, HST.out⟩
    case round =>
      clear HST
      obtain ⟨k, vA, vm, vc, hk, hq, rfl, rfl, hnl⟩ := hrel
      have HQA := Lib.hid hq
      have HN := Lib.hid hnl
      clear hq hnl
      have kc := (HN.out.old.cell (p := ⟨g, 2, none⟩) lg).trans K2.out
      have lk := Nat.lt_of_lt_of_le lg HN.out.old.size
      by_cases hltk : k < n3
      · have hnk : (k : Int) < (n3 : Int) := by omega
        have h0k : (0 : Int) ≤ (k : Int) := by omega
        as_aux_lemma =>
          obtain ⟨b, off, y, B1, m1, e1, B2, m2, e2, rfl, hbl, hy, s0, -, -, -, s4, -, hfl, -⟩ := qSchema_at (HP2.out.2.2.1.1) hltk
          have HY := Lib.hid hy
          have HF := Lib.hid hfl.1
          have HM := Lib.hid hfl.1.len
          have mle := hfl.1.le
          have HC0 := Lib.hid s0
          have HC4 := Lib.hid s4
          clear hy hfl s0 s4
          have s0 := (HN.out.old.cell (p := ⟨b, off + k * 6, none⟩) hbl).trans HC0.out
          have lb := Nat.lt_of_lt_of_le hbl HN.out.old.size
          have s4 := (HN.out.old.cell (p := ⟨b, off + k * 6 + 4, none⟩) hbl).trans HC4.out
          have HO := Lib.hid HN.out.row
          have HCT := Lib.hid (find_len1 hcnt HY.out)
          go_upto_region 10 with (at_builtin; refine wpList_append_own_at _ rfl (.tmp 40) (.tmp 47) 22 rfl w2.heap.size 9 i0 _ 1 16 Try.underlying22 I0.out Z0.out.1 Z0.out.2.1 Z0.out.2.2 rfl (by decide) (.slice vA vm vc) _ _ rfl (HO.out.alloc _) ⟨wr.heap.size, 0, none⟩ 1 1 [.string y.name] rfl rfl (cell_one_new _ _ _) (by simp [Value.oneCell']) (by have := HCT.out; unfold maxLen; omega) (by have := HCT.out; omega) (by have := HN.out.old.size; simp; omega) ?_; intro v' W9 hown' hgrow hnil hat; obtain ⟨vA', vm', vc', rfl, hn9⟩ := HN.out.next hown' hgrow; have HN9 := Lib.hid hn9; clear hown' hgrow hnil hat hn9)
          clear kc lk s0 s4 lb HO
          have kc := (HN9.out.old.cell (p := ⟨g, 2, none⟩) lg).trans K2.out
          have lk := Nat.lt_of_lt_of_le lg HN9.out.old.size
          have s4 := (HN9.out.old.cell (p := ⟨b, off + k * 6 + 4, none⟩) hbl).trans HC4.out
          have lb := Nat.lt_of_lt_of_le hbl HN9.out.old.size
          go_wp2_with fail
          clear kc lk s4 lb HN
          obtain ⟨wo, rfl⟩ : ∃ x, x = wr := ⟨_, rfl⟩
          go_loopg [7, 9] m1 (fun q l i wr => ∃ (j : Nat) (A : Option Addr) (m c : Nat), j ≤ m1 ∧ q = m1 - j ∧ l = .slice A m c ∧ i = .int .i64 j ∧ RL w2 (namesTo s nm k ++ [y.name] ++ (fieldNames y).take j) A m c wr)
          case atStart => exact ⟨0, _, _, _, Nat.zero_le _, rfl, rfl, rfl, by rw [List.take_zero, List.append_nil]; exact HN9.out⟩
          case round =>
            clear HN9
            obtain ⟨j, vA, vm, vc, hj, hq, rfl, rfl, hnl⟩ := hrel
            have HQB := Lib.hid hq
            have HN := Lib.hid hnl
            clear hq hnl
            have kc := (HN.out.old.cell (p := ⟨g, 2, none⟩) lg).trans K2.out
            have lk := Nat.lt_of_lt_of_le lg HN.out.old.size
            have s4 := (HN.out.old.cell (p := ⟨b, off + k * 6 + 4, none⟩) hbl).trans HC4.out
            have lb := Nat.lt_of_lt_of_le hbl HN.out.old.size
            by_cases hltj : j < m1
            · have hnj : (j : Int) < (m1 : Int) := by omega
              have h0j : (0 : Int) ≤ (j : Int) := by omega
              obtain ⟨fb, fo, x, _, _, _, rfl, hfb, hx, e0, -⟩ := qField_at (HF.out.mono qFieldR_mono HN.out.old) hltj
              have HX : Hid ((fieldNames y)[j]? = some x.name) := Lib.hid (by unfold fieldNames; rw [List.getElem?_map, hx]; rfl)
              clear hx
              have HO := Lib.hid HN.out.row
              have HCT := Lib.hid (find_len2 hcnt HY.out (show j < y.fields.length by have := HM.out; omega))
              go_wp2_with (at_builtin; refine wpList_append_own_at _ rfl (.tmp 60) (.tmp 71) 22 rfl w2.heap.size 9 i0 _ 1 16 Try.underlying22 I0.out Z0.out.1 Z0.out.2.1 Z0.out.2.2 rfl (by decide) (.slice vA vm vc) _ _ rfl (HO.out.alloc _) ⟨wr.heap.size, 0, none⟩ 1 1 [.string x.name] rfl rfl (cell_one_new _ _ _) (by simp [Value.oneCell']) (by have := HCT.out; unfold maxLen; omega) (by have := HCT.out; omega) (by have := HN.out.old.size; simp; omega) ?_; intro v' W9 hown' hgrow hnil hat; obtain ⟨vA', vm', vc', rfl, hn9⟩ := HN.out.next hown' hgrow; have HN9 := Lib.hid hn9; clear hown' hgrow hnil hat hn9)
              go_roundg (m1 - (j + 1))
              case measure => have := HQB.out; omega
              case rel => exact ⟨j + 1, _, _, _, by omega, rfl, rfl, by go_num, by rw [take_snoc HX.out, ← List.append_assoc]; exact HN9.out⟩
            · have hnj : ¬ (j : Int) < (m1 : Int) := by omega
              have hke : j = y.fields.length := by have := HM.out; omega
              have HN2 : Hid (RL w2 (namesTo s nm (k + 1)) vA vm vc wr) := Lib.hid (by
                have := HN.out
                rw [hke, show (fieldNames y).take y.fields.length = fieldNames y by unfold fieldNames; rw [List.take_of_length_le (by simp)]] at this
                rw [namesTo_succ HY.out]
                exact this)
              clear hke
              go_wp2_with fail
              go_roundg (n3 - (k + 1))
              case measure => have := HQA.out; omega
              case rel => exact ⟨k + 1, _, _, _, by omega, rfl, rfl, by go_num, HN2.out⟩
      · have hnk : ¬ (k : Int) < (n3 : Int) := by omega
        have hke : k = s.schemas.length := by have := HL3.out; omega
        have hn2 := HN.out
        rw [hke] at hn2
        have kd := (hn2.old.cell (p := ⟨g, 5, none⟩) lg).trans K5.out
        have HN2 := Lib.hid hn2
        clear hke hn2 HN
        go_wp2_with fail
        clear kc lk kd hnk hltk hk HQA
        obtain ⟨wo, rfl⟩ : ∃ x, x = wr := ⟨_, rfl⟩
        go_loopg [7, 10] n6 (fun q l i wr => ∃ (k : Nat) (A : Option Addr) (m c : Nat), k ≤ n6 ∧ q = n6 - k ∧ l = .slice A m c ∧ i = .int .i64 k ∧ RL w2 (namesTo s nm s.schemas.length ++ (purposeNames s).take k) A m c wr)
        case atStart => exact ⟨0, _, _, _, Nat.zero_le _, rfl, rfl, rfl, by rw [List.take_zero, List.append_nil]; exact HN2.out⟩
        case round =>
          clear HN2
          obtain ⟨kk2, vA, vm, vc, hk2, hq, rfl, rfl, hnl⟩ := hrel
          have HQC := Lib.hid hq
          have HN := Lib.hid hnl
          clear hq hnl
          have kc := (HN.out.old.cell (p := ⟨g, 5, none⟩) lg).trans K5.out
          have lk := Nat.lt_of_lt_of_le lg HN.out.old.size
          by_cases hltk2 : kk2 < n6
          · have hnk : (kk2 : Int) < (n6 : Int) := by omega
            have h0k : (0 : Int) ≤ (kk2 : Int) := by omega
            as_aux_lemma =>
              obtain ⟨b, off, x, B1, m1, e1, rfl, hbl, hx, s0, -, -, -⟩ := qPurpose_at (HP2.out.2.2.2.2.2.1) hltk2
              have HX : Hid ((purposeNames s)[kk2]? = some x.name) := Lib.hid (by unfold purposeNames; rw [List.getElem?_map, hx]; rfl)
              have HC0 := Lib.hid s0
              clear hx s0
              have s0 := (HN.out.old.cell (p := ⟨b, off + kk2 * 3, none⟩) hbl).trans HC0.out
              have lb := Nat.lt_of_lt_of_le hbl HN.out.old.size
              have HO := Lib.hid HN.out.row
              have HCT := Lib.hid (find_len3 hcnt (show kk2 < s.purposes.length by have := HL6.out; omega))
              go_wp2_with (at_builtin; refine wpList_append_own_at _ rfl (.tmp 80) (.tmp 87) 22 rfl w2.heap.size 9 i0 _ 1 16 Try.underlying22 I0.out Z0.out.1 Z0.out.2.1 Z0.out.2.2 rfl (by decide) (.slice vA vm vc) _ _ rfl (HO.out.alloc _) ⟨wr.heap.size, 0, none⟩ 1 1 [.string x.name] rfl rfl (cell_one_new _ _ _) (by simp [Value.oneCell']) (by have := HCT.out; unfold maxLen; omega) (by have := HCT.out; omega) (by have := HN.out.old.size; simp; omega) ?_; intro v' W9 hown' hgrow hnil hat; obtain ⟨vA', vm', vc', rfl, hn9⟩ := HN.out.next hown' hgrow; have HN9 := Lib.hid hn9; clear hown' hgrow hnil hat hn9)
              go_roundg (n6 - (kk2 + 1))
              case measure => have := HQC.out; omega
              case rel => exact ⟨kk2 + 1, _, _, _, by omega, rfl, rfl, by go_num, by rw [take_snoc HX.out, ← List.append_assoc]; exact HN9.out⟩
          · have hnk : ¬ (kk2 : Int) < (n6 : Int) := by omega
            have hn2 := HN.out
            rw [List.take_of_length_le (by have := HL6.out; unfold purposeNames; simp; omega)] at hn2
            have HN2 : Hid (RL w2 (findNames s nm) vA vm vc wr) := Lib.hid hn2
            clear hn2 HN
            as_aux_lemma =>
              have hsl := HN2.out.sl
              have hbD := HN2.out.old
              generalize findNames s nm = L at hsl
              have hvm := hsl.le
              go_upto_region 19 with fail
              have hal : Below wr.heap.size wr (wr.alloc (.cells #[.int .i64 sc, .int .i64 0, .int .i64 1] 3)) := (Below.refl _ _).alloc (Nat.le_refl _) _
              have hka : Blk (wr.alloc (.cells #[.int .i64 sc, .int .i64 0, .int .i64 1] 3)) wr.heap.size 3 #[.int .i64 sc, .int .i64 0, .int .i64 1] := Blk.new _ _ _
              have HBD := Lib.hid (below_step hbD hal)
              have HSL := Lib.hid (hsl.mono strR_mono hal)
              have HKD := Lib.hid (HK2.out.below HBD.out HK2.out.lt)
              have HBD5 := Lib.hid (below_step HB2.out HBD.out)
              obtain ⟨ga, hga⟩ : ∃ g, g = wr.heap.size := ⟨_, rfl⟩
              rw [← hga] at hka ⊢
              clear hal hga hsl hbD kc lk hnk hltk2 hk2 HQC HN2 HK2 HP2 K2 K5
              generalize wr.alloc (.cells #[.int .i64 sc, .int .i64 0, .int .i64 1] 3) = wD at hka HBD HSL HKD HBD5 ⊢
              have HKA := Lib.hid hka
              clear hka hcnt
              obtain ⟨wo3, rfl⟩ : ∃ x, x = wr := ⟨_, rfl⟩
              go_wp2_with fail
              go_loopg [12] vm (fun q i wr => ∃ k : Nat, k ≤ vm ∧ q = vm - k ∧ i = .int .i64 k ∧ Below wD.heap.size wD wr)
              case atStart => exact ⟨0, Nat.zero_le _, rfl, rfl, Below.refl _ _⟩
              case round =>
                obtain ⟨kd, hkd, hq, rfl, hb⟩ := hrel
                have HQD := Lib.hid hq
                have HBR := Lib.hid hb
                clear hq hb
                by_cases hltd : kd < vm
                · have hnd : (kd : Int) < (vm : Int) := by omega
                  have h0d : (0 : Int) ≤ (kd : Int) := by omega
                  as_aux_lemma =>
                    obtain ⟨lb_, lo, x, rfl, hlb0, hx, x0⟩ := str_at HSL.out hltd
                    have HX0 := Lib.hid x0
                    clear hx x0
                    obtain ⟨k0, k1, k2, k3, k4, k5⟩ := six_cells HKD.out HBR.out
                    have lk := (HKD.out.below HBR.out HKD.out.lt).lt
                    have x0 := (HBR.out.cell (p := ⟨lb_, lo + kd, none⟩) hlb0).trans HX0.out
                    have hlb := Nat.lt_of_lt_of_le hlb0 HBR.out.size
                    have HCO := Lib.hid ((src_parts (qSourceR_mono _ _ (below_step HBD5.out HBR.out) _ _ HS.out)).2.2.1.1)
                    go_upto_region 22 with fail
                    go_region_held3 (fun w' => w'.cell? ⟨g, 0, none⟩ = some (.slice A1 n1 c1) ∧ w'.cell? ⟨g, 1, none⟩ = some (.slice A2 n2 c2) ∧ w'.cell? ⟨g, 2, none⟩ = some (.slice A3 n3 c3) ∧ w'.cell? ⟨g, 3, none⟩ = some (.slice A4 n4 c4) ∧ w'.cell? ⟨g, 4, none⟩ = some (.slice A5 n5 c5) ∧ w'.cell? ⟨g, 5, none⟩ = some (.slice A6 n6 c6) ∧ w'.cell? ⟨lb_, lo + kd, none⟩ = some (.string x) ∧ Below wr.heap.size wr w')
                      (first | (refine ⟨?_, ?_, ?_, ?_, ?_, ?_, ?_, ?_⟩ <;> first | assumption | exact (Below.refl _ _).drew | (simp only [go_sem]; assumption)))
                      (first
                        | (go_at_call 19; ((with_reducible refine (nSchema_any A1 A2 A3 A4 A5 A6 n1 c1 n2 c2 n3 c3 n4 c4 n5 c5 n6 c6 s x _ ?_).mono ?_)); refine HCO.out.mono qSchemaR_mono ?_; (first | assumption | (go_split_ands; assumption)); rintro e wc ⟨rfl, hbc⟩
                           have hbz : Below wr.heap.size wr wc := by
                             refine below_step ?_ hbc
                             (first | assumption | (go_split_ands; assumption))
                           have r_k0 := (hbz.cell (p := ⟨g, 0, none⟩) lk).trans k0
                           have r_k1 := (hbz.cell (p := ⟨g, 1, none⟩) lk).trans k1
                           have r_k2 := (hbz.cell (p := ⟨g, 2, none⟩) lk).trans k2
                           have r_k3 := (hbz.cell (p := ⟨g, 3, none⟩) lk).trans k3
                           have r_k4 := (hbz.cell (p := ⟨g, 4, none⟩) lk).trans k4
                           have r_k5 := (hbz.cell (p := ⟨g, 5, none⟩) lk).trans k5
                           have r_x0 := (hbz.cell (p := ⟨lb_, lo + kd, none⟩) hlb).trans x0))
                    obtain ⟨wd1, rfl⟩ : ∃ x, x = wc := ⟨_, rfl⟩
                    have HBR1 := Lib.hid (below_step HBR.out hbz)
                    clear k0 k1 k2 k3 k4 k5 lk x0 hlb r_k0 r_k1 r_k2 r_k3 r_k4 r_k5 r_x0 hbz hbc HCO
                    obtain ⟨k0, k1, k2, k3, k4, k5⟩ := six_cells HKD.out HBR1.out
                    have lk := (HKD.out.below HBR1.out HKD.out.lt).lt
                    have x0 := (HBR1.out.cell (p := ⟨lb_, lo + kd, none⟩) hlb0).trans HX0.out
                    have hlb := Nat.lt_of_lt_of_le hlb0 HBR1.out.size
                    have HCO := Lib.hid ((src_parts (qSourceR_mono _ _ (below_step HBD5.out HBR1.out) _ _ HS.out)).2.2.1)
                    go_upto_region 23 with fail
                    go_region_held3 (fun w' => w'.cell? ⟨g, 0, none⟩ = some (.slice A1 n1 c1) ∧ w'.cell? ⟨g, 1, none⟩ = some (.slice A2 n2 c2) ∧ w'.cell? ⟨g, 2, none⟩ = some (.slice A3 n3 c3) ∧ w'.cell? ⟨g, 3, none⟩ = some (.slice A4 n4 c4) ∧ w'.cell? ⟨g, 4, none⟩ = some (.slice A5 n5 c5) ∧ w'.cell? ⟨g, 5, none⟩ = some (.slice A6 n6 c6) ∧ w'.cell? ⟨lb_, lo + kd, none⟩ = some (.string x) ∧ Below wd1.heap.size wd1 w')
                      (first | (refine ⟨?_, ?_, ?_, ?_, ?_, ?_, ?_, ?_⟩ <;> first | assumption | exact (Below.refl _ _).drew | (simp only [go_sem]; assumption)))
                      (first
                        | (go_at_call 20; ((with_reducible refine (refSchema_any A1 A2 A3 A4 A5 A6 n1 c1 n2 c2 n3 c3 n4 c4 n5 c5 n6 c6 s x _ ?_).mono ?_)); refine HCO.out.mono qSchemaR_mono ?_; (first | assumption | (go_split_ands; assumption)); rintro e wc ⟨rfl, hbc⟩
                           have hbz : Below wd1.heap.size wd1 wc := by
                             refine below_step ?_ hbc
                             (first | assumption | (go_split_ands; assumption))
                           have r_k0 := (hbz.cell (p := ⟨g, 0, none⟩) lk).trans k0
                           have r_k1 := (hbz.cell (p := ⟨g, 1, none⟩) lk).trans k1
                           have r_k2 := (hbz.cell (p := ⟨g, 2, none⟩) lk).trans k2
                           have r_k3 := (hbz.cell (p := ⟨g, 3, none⟩) lk).trans k3
                           have r_k4 := (hbz.cell (p := ⟨g, 4, none⟩) lk).trans k4
                           have r_k5 := (hbz.cell (p := ⟨g, 5, none⟩) lk).trans k5
                           have r_x0 := (hbz.cell (p := ⟨lb_, lo + kd, none⟩) hlb).trans x0))
                    obtain ⟨wd2, rfl⟩ : ∃ x, x = wc := ⟨_, rfl⟩
                    have HBR2 := Lib.hid (below_step HBR1.out hbz)
                    clear k0 k1 k2 k3 k4 k5 lk x0 hlb r_k0 r_k1 r_k2 r_k3 r_k4 r_k5 r_x0 hbz hbc HCO
                    obtain ⟨k0, k1, k2, k3, k4, k5⟩ := six_cells HKD.out HBR2.out
                    have lk := (HKD.out.below HBR2.out HKD.out.lt).lt
                    have x0 := (HBR2.out.cell (p := ⟨lb_, lo + kd, none⟩) hlb0).trans HX0.out
                    have hlb := Nat.lt_of_lt_of_le hlb0 HBR2.out.size
                    have HCO := Lib.hid ((src_parts (qSourceR_mono _ _ (below_step HBD5.out HBR2.out) _ _ HS.out)).2.2.2.2.2.1)
                    go_upto_region 24 with fail
                    go_region_held3 (fun w' => w'.cell? ⟨g, 0, none⟩ = some (.slice A1 n1 c1) ∧ w'.cell? ⟨g, 1, none⟩ = some (.slice A2 n2 c2) ∧ w'.cell? ⟨g, 2, none⟩ = some (.slice A3 n3 c3) ∧ w'.cell? ⟨g, 3, none⟩ = some (.slice A4 n4 c4) ∧ w'.cell? ⟨g, 4, none⟩ = some (.slice A5 n5 c5) ∧ w'.cell? ⟨g, 5, none⟩ = some (.slice A6 n6 c6) ∧ w'.cell? ⟨lb_, lo + kd, none⟩ = some (.string x) ∧ Below wd2.heap.size wd2 w')
                      (first | (refine ⟨?_, ?_, ?_, ?_, ?_, ?_, ?_, ?_⟩ <;> first | assumption | exact (Below.refl _ _).drew | (simp only [go_sem]; assumption)))
                      (first
                        | (go_at_call 21; ((with_reducible refine (nPurpose_any A1 A2 A3 A4 A5 A6 n1 c1 n2 c2 n3 c3 n4 c4 n5 c5 n6 c6 s x _ ?_).mono ?_)); refine HCO.out.mono qPurposeR_mono ?_; (first | assumption | (go_split_ands; assumption)); rintro e wc ⟨rfl, hbc⟩
                           have hbz : Below wd2.heap.size wd2 wc := by
                             refine below_step ?_ hbc
                             (first | assumption | (go_split_ands; assumption))
                           have r_k0 := (hbz.cell (p := ⟨g, 0, none⟩) lk).trans k0
                           have r_k1 := (hbz.cell (p := ⟨g, 1, none⟩) lk).trans k1
                           have r_k2 := (hbz.cell (p := ⟨g, 2, none⟩) lk).trans k2
                           have r_k3 := (hbz.cell (p := ⟨g, 3, none⟩) lk).trans k3
                           have r_k4 := (hbz.cell (p := ⟨g, 4, none⟩) lk).trans k4
                           have r_k5 := (hbz.cell (p := ⟨g, 5, none⟩) lk).trans k5
                           have r_x0 := (hbz.cell (p := ⟨lb_, lo + kd, none⟩) hlb).trans x0))
                    obtain ⟨wd3, rfl⟩ : ∃ x, x = wc := ⟨_, rfl⟩
                    have HBR3 := Lib.hid (below_step HBR2.out hbz)
                    clear k0 k1 k2 k3 k4 k5 lk x0 hlb r_k0 r_k1 r_k2 r_k3 r_k4 r_k5 r_x0 hbz hbc HCO
                    obtain ⟨k0, k1, k2, k3, k4, k5⟩ := six_cells HKD.out HBR3.out
                    have lk := (HKD.out.below HBR3.out HKD.out.lt).lt
                    have x0 := (HBR3.out.cell (p := ⟨lb_, lo + kd, none⟩) hlb0).trans HX0.out
                    have hlb := Nat.lt_of_lt_of_le hlb0 HBR3.out.size
                    have HCO := Lib.hid ((src_parts (qSourceR_mono _ _ (below_step HBD5.out HBR3.out) _ _ HS.out)).2.2.2.2.2)
                    go_upto_region 25 with fail
                    go_region_held3 (fun w' => w'.cell? ⟨g, 0, none⟩ = some (.slice A1 n1 c1) ∧ w'.cell? ⟨g, 1, none⟩ = some (.slice A2 n2 c2) ∧ w'.cell? ⟨g, 2, none⟩ = some (.slice A3 n3 c3) ∧ w'.cell? ⟨g, 3, none⟩ = some (.slice A4 n4 c4) ∧ w'.cell? ⟨g, 4, none⟩ = some (.slice A5 n5 c5) ∧ w'.cell? ⟨g, 5, none⟩ = some (.slice A6 n6 c6) ∧ w'.cell? ⟨lb_, lo + kd, none⟩ = some (.string x) ∧ Below wd3.heap.size wd3 w')
                      (first | (refine ⟨?_, ?_, ?_, ?_, ?_, ?_, ?_, ?_⟩ <;> first | assumption | exact (Below.refl _ _).drew | (simp only [go_sem]; assumption)))
                      (first
                        | (go_at_call 22; ((with_reducible refine (refPurpose_any A1 A2 A3 A4 A5 A6 n1 c1 n2 c2 n3 c3 n4 c4 n5 c5 n6 c6 s x _ ?_).mono ?_)); refine HCO.out.mono qPurposeR_mono ?_; (first | assumption | (go_split_ands; assumption)); rintro e wc ⟨rfl, hbc⟩
                           have hbz : Below wd3.heap.size wd3 wc := by
                             refine below_step ?_ hbc
                             (first | assumption | (go_split_ands; assumption))
                           have r_k0 := (hbz.cell (p := ⟨g, 0, none⟩) lk).trans k0
                           have r_k1 := (hbz.cell (p := ⟨g, 1, none⟩) lk).trans k1
                           have r_k2 := (hbz.cell (p := ⟨g, 2, none⟩) lk).trans k2
                           have r_k3 := (hbz.cell (p := ⟨g, 3, none⟩) lk).trans k3
                           have r_k4 := (hbz.cell (p := ⟨g, 4, none⟩) lk).trans k4
                           have r_k5 := (hbz.cell (p := ⟨g, 5, none⟩) lk).trans k5
                           have r_x0 := (hbz.cell (p := ⟨lb_, lo + kd, none⟩) hlb).trans x0))
                    obtain ⟨wd4, rfl⟩ : ∃ x, x = wc := ⟨_, rfl⟩
                    have HBR4 := Lib.hid (below_step HBR3.out hbz)
                    clear k0 k1 k2 k3 k4 k5 lk x0 hlb r_k0 r_k1 r_k2 r_k3 r_k4 r_k5 r_x0 hbz hbc HCO
                    generalize firstI (schemaNames s) x = z1
                    generalize firstB (schemaNames s) x = z2
                    generalize firstI (purposeNames s) x = z3
                    generalize firstB (purposeNames s) x = z4
                    cases z2 <;> cases z4
                    all_goals
                      go_wp2_with fail
                      obtain ⟨wo4, rfl⟩ : ∃ x, x = wr := ⟨_, rfl⟩
                      go_loopg [21] 3 (fun q i wr => ∃ k : Nat, k ≤ 3 ∧ q = 3 - k ∧ i = .int .i64 k ∧ Below wD.heap.size wD wr)
                      case atStart => exact ⟨0, Nat.zero_le _, rfl, rfl, HBR4.out⟩
                      case round =>
                        obtain ⟨ke, hke, hq, rfl, hb⟩ := hrel
                        have HQE := Lib.hid hq
                        have HBE := Lib.hid hb
                        clear hq hb
                        by_cases hlte : ke < 3
                        · have hne : (ke : Int) < 3 := by omega
                          have h0e : (0 : Int) ≤ (ke : Int) := by omega
                          obtain ⟨a, ha⟩ : ∃ a : Int, wD.cell? ⟨ga, ke, none⟩ = some (.int .i64 a) := by
                            have h := HKA.out.cell ke
                            rcases ke with _ | _ | _ | ke
                            · exact ⟨_, h⟩
                            · exact ⟨_, h⟩
                            · exact ⟨_, h⟩
                            · omega
                          have HA0 := Lib.hid ha
                          clear ha
                          obtain ⟨k0, k1, k2, k3, k4, k5⟩ := six_cells HKD.out HBE.out
                          have lk := (HKD.out.below HBE.out HKD.out.lt).lt
                          have x0 := (HBE.out.cell (p := ⟨lb_, lo + kd, none⟩) hlb0).trans HX0.out
                          have hlb := Nat.lt_of_lt_of_le hlb0 HBE.out.size
                          have HCO := Lib.hid ((src_parts (qSourceR_mono _ _ (below_step HBD5.out HBE.out) _ _ HS.out)).2.2.1.1)
                          have a0 := (HBE.out.cell (p := ⟨ga, ke, none⟩) HKA.out.lt).trans HA0.out
                          have la := Nat.lt_of_lt_of_le HKA.out.lt HBE.out.size
                          go_upto_region 31 with fail
                          go_region_held3 (fun w' => w'.cell? ⟨g, 0, none⟩ = some (.slice A1 n1 c1) ∧ w'.cell? ⟨g, 1, none⟩ = some (.slice A2 n2 c2) ∧ w'.cell? ⟨g, 2, none⟩ = some (.slice A3 n3 c3) ∧ w'.cell? ⟨g, 3, none⟩ = some (.slice A4 n4 c4) ∧ w'.cell? ⟨g, 4, none⟩ = some (.slice A5 n5 c5) ∧ w'.cell? ⟨g, 5, none⟩ = some (.slice A6 n6 c6) ∧ w'.cell? ⟨lb_, lo + kd, none⟩ = some (.string x) ∧ w'.cell? ⟨ga, ke, none⟩ = some (.int .i64 a) ∧ Below wr.heap.size wr w')
                            (first | (refine ⟨?_, ?_, ?_, ?_, ?_, ?_, ?_, ?_, ?_⟩ <;> first | assumption | exact (Below.refl _ _).drew | (simp only [go_sem]; assumption)))
                            (first
                              | (go_at_call 23; ((with_reducible refine (namesField_any A1 A2 A3 A4 A5 A6 n1 c1 n2 c2 n3 c3 n4 c4 n5 c5 n6 c6 s a x _ ?_).mono ?_)); refine HCO.out.mono qSchemaR_mono ?_; (first | assumption | (go_split_ands; assumption)); rintro e wc ⟨rfl, hbc⟩
                                 have hbz : Below wr.heap.size wr wc := by
                                   refine below_step ?_ hbc
                                   (first | assumption | (go_split_ands; assumption))
                                 have r_k0 := (hbz.cell (p := ⟨g, 0, none⟩) lk).trans k0
                                 have r_k1 := (hbz.cell (p := ⟨g, 1, none⟩) lk).trans k1
                                 have r_k2 := (hbz.cell (p := ⟨g, 2, none⟩) lk).trans k2
                                 have r_k3 := (hbz.cell (p := ⟨g, 3, none⟩) lk).trans k3
                                 have r_k4 := (hbz.cell (p := ⟨g, 4, none⟩) lk).trans k4
                                 have r_k5 := (hbz.cell (p := ⟨g, 5, none⟩) lk).trans k5
                                 have r_x0 := (hbz.cell (p := ⟨lb_, lo + kd, none⟩) hlb).trans x0
                                 have r_a0 := (hbz.cell (p := ⟨ga, ke, none⟩) la).trans a0))
                          obtain ⟨we1, rfl⟩ : ∃ x, x = wc := ⟨_, rfl⟩
                          have HBE1 := Lib.hid (below_step HBE.out hbz)
                          clear k0 k1 k2 k3 k4 k5 lk x0 hlb r_k0 r_k1 r_k2 r_k3 r_k4 r_k5 r_x0 hbz hbc a0 r_a0 la HCO
                          obtain ⟨k0, k1, k2, k3, k4, k5⟩ := six_cells HKD.out HBE1.out
                          have lk := (HKD.out.below HBE1.out HKD.out.lt).lt
                          have x0 := (HBE1.out.cell (p := ⟨lb_, lo + kd, none⟩) hlb0).trans HX0.out
                          have hlb := Nat.lt_of_lt_of_le hlb0 HBE1.out.size
                          have HCO := Lib.hid ((src_parts (qSourceR_mono _ _ (below_step HBD5.out HBE1.out) _ _ HS.out)).2.2.1.1)
                          have a0 := (HBE1.out.cell (p := ⟨ga, ke, none⟩) HKA.out.lt).trans HA0.out
                          have la := Nat.lt_of_lt_of_le HKA.out.lt HBE1.out.size
                          go_upto_region 32 with fail
                          go_region_held3 (fun w' => w'.cell? ⟨g, 0, none⟩ = some (.slice A1 n1 c1) ∧ w'.cell? ⟨g, 1, none⟩ = some (.slice A2 n2 c2) ∧ w'.cell? ⟨g, 2, none⟩ = some (.slice A3 n3 c3) ∧ w'.cell? ⟨g, 3, none⟩ = some (.slice A4 n4 c4) ∧ w'.cell? ⟨g, 4, none⟩ = some (.slice A5 n5 c5) ∧ w'.cell? ⟨g, 5, none⟩ = some (.slice A6 n6 c6) ∧ w'.cell? ⟨lb_, lo + kd, none⟩ = some (.string x) ∧ w'.cell? ⟨ga, ke, none⟩ = some (.int .i64 a) ∧ Below we1.heap.size we1 w')
                            (first | (refine ⟨?_, ?_, ?_, ?_, ?_, ?_, ?_, ?_, ?_⟩ <;> first | assumption | exact (Below.refl _ _).drew | (simp only [go_sem]; assumption)))
                            (first
                              | (go_at_call 24; ((with_reducible refine (refField_any A1 A2 A3 A4 A5 A6 n1 c1 n2 c2 n3 c3 n4 c4 n5 c5 n6 c6 s a x _ ?_).mono ?_)); refine HCO.out.mono qSchemaR_mono ?_; (first | assumption | (go_split_ands; assumption)); rintro e wc ⟨rfl, hbc⟩
                                 have hbz : Below we1.heap.size we1 wc := by
                                   refine below_step ?_ hbc
                                   (first | assumption | (go_split_ands; assumption))
                                 have r_k0 := (hbz.cell (p := ⟨g, 0, none⟩) lk).trans k0
                                 have r_k1 := (hbz.cell (p := ⟨g, 1, none⟩) lk).trans k1
                                 have r_k2 := (hbz.cell (p := ⟨g, 2, none⟩) lk).trans k2
                                 have r_k3 := (hbz.cell (p := ⟨g, 3, none⟩) lk).trans k3
                                 have r_k4 := (hbz.cell (p := ⟨g, 4, none⟩) lk).trans k4
                                 have r_k5 := (hbz.cell (p := ⟨g, 5, none⟩) lk).trans k5
                                 have r_x0 := (hbz.cell (p := ⟨lb_, lo + kd, none⟩) hlb).trans x0
                                 have r_a0 := (hbz.cell (p := ⟨ga, ke, none⟩) la).trans a0))
                          obtain ⟨we2, rfl⟩ : ∃ x, x = wc := ⟨_, rfl⟩
                          have HBE2 := Lib.hid (below_step HBE1.out hbz)
                          clear k0 k1 k2 k3 k4 k5 lk x0 hlb r_k0 r_k1 r_k2 r_k3 r_k4 r_k5 r_x0 hbz hbc a0 r_a0 la HCO
                          generalize firstI (fieldNo s a) x = z1
                          generalize firstB (fieldNo s a) x = z2
                          cases z2
                          all_goals
                            go_wp2_with fail
                            go_roundg (3 - (ke + 1))
                            case measure => have := HQE.out; omega
                            case rel => exact ⟨ke + 1, by omega, rfl, by go_num, HBE2.out⟩
                        · have hne : ¬ (ke : Int) < 3 := by omega
                          go_wp2_with fail
                          go_roundg (vm - (kd + 1))
                          case measure => have := HQD.out; omega
                          case rel => exact ⟨kd + 1, by omega, rfl, by go_num, HBE.out⟩
                · have hnd : ¬ (kd : Int) < (vm : Int) := by omega
                  go_wp2_with fail
                  go_ret
                  exact ⟨rfl, below_step HBD5.out HBR.out⟩
end Go.Proofs.Ytkkkephjljiplaa
