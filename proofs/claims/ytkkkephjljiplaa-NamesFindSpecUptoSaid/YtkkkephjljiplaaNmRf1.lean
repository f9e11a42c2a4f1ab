/- Contracts of the reference's find, found, twice and of its lists of names. Written by genref.py. -/
import Derived.Test.YtkkkephjljiplaaNmFirst
import Derived.Test.YtkkkephjljiplaaNmGath
import Derived.Test.YtkkkephjljiplaaNmPurp
import Derived.Test.YtkkkephjljiplaaNmSchP
namespace Go.Proofs.Ytkkkephjljiplaa
open Go.RowKit


/-- A list of strings is returned. -/
def RetStrs (l : List ByteArray) (w : World) (e : Ending) (w' : World) : Prop := ∃ A c, e = .returned (.slice A l.length c) ∧ SlB 1 16 strR w' (.slice A l.length c) l ∧ Below w.heap.size w w'
/-- While such a list is made. -/
structure NL (w : World) (T : TypeId) (bx : Array Value) (names : List ByteArray) (k : Nat) (A : Option Addr) (m c : Nat) (wr : World) : Prop where
  old : Below w.heap.size w wr
  bs : Blk wr w.heap.size T bx
  row : wr.ownsRow (w.heap.size + 1) 9 1 (.slice A m c) k ((names.take k).map strV)
theorem cellsStr (w : World) (l : List ByteArray) : CellsR 1 strR w (l.map strV) l := by
  refine ⟨by simp, fun i x hi => ?_⟩
  show _ = _
  rw [Nat.mul_one, List.map_drop.symm, List.map_take.symm]
  have : (l.drop i).take 1 = [x] := by
    rw [drop_cons hi]; rfl
  rw [this]; rfl
section
variable {w : World} {T : TypeId} {bx : Array Value} {names : List ByteArray} {k : Nat} {A : Option Addr} {m c : Nat} {wr W9 : World}
theorem NL.start (w : World) (T : TypeId) (bx : Array Value) (names : List ByteArray) : NL w T bx names 0 (some ⟨w.heap.size + 1, 0, none⟩) 0 0 ((w.alloc (.cells bx T)).alloc (.cells #[] 9)) :=
  ⟨((Below.refl _ _).alloc (Nat.le_refl _) _).alloc (by simp) _, (Blk.new _ _ _).alloc _, by
    have := World.ownsRow_lit (w.alloc (.cells bx T)) (base := w.heap.size + 1) (e := 9) (size := 1) #[] 0 (by simp) (Nat.zero_le _) rfl
    simpa using this⟩
theorem NL.next (h : NL w T bx names k A m c wr) {x : ByteArray} (hx : names[k]? = some x) {o : Obj} {v' : Value} (hown : W9.ownsRow (w.heap.size + 1) 9 1 v' (k + 1) ((names.take k).map strV ++ [.string x])) (hg : (wr.alloc o).grownBy W9 (Value.slice A m c).ownBlock) : ∃ A' m' c', v' = .slice A' m' c' ∧ NL w T bx names (k + 1) A' m' c' W9 := by
  obtain ⟨A', m', c', rfl⟩ := own_form hown
  refine ⟨A', m', c', rfl, (h.old.alloc h.old.size o).grown hg (by have := h.old.size; simp; omega) (fun r e => by have := (h.row.lt r e).1; omega), (h.bs.alloc o).grown hg (fun e => by have := (h.row.lt _ e.symm).1; omega), ?_⟩
  rw [take_snoc hx, List.map_append]
  exact hown
theorem NL.done (h : NL w T bx names k A m c wr) (hk : k = names.length) (hbd : names.length * 16 ≤ 140737488355328) : RetStrs names w (.returned (.slice A m c)) wr := by
  have h1 := slR_of_row h.row (by rw [hk, List.take_length]; exact cellsStr wr names) hk
  obtain rfl : m = names.length := by obtain ⟨_, _, e, _⟩ := h1; injection e
  exact ⟨A, c, rfl, ⟨h1, hbd⟩, h.old⟩
end

set_option maxHeartbeats 1000000 in
theorem refFind_any (A : Option Addr) (n c : Nat) (l : List ByteArray) (nm : ByteArray) (w : World) (hs : SlR 1 strR w (.slice A n c) l) :
    Calls Try.prog 54 #[.slice A n c, .string nm] w fun e w' => e = .returned (.int .i64 (idxO l nm)) ∧ w = w' := by
  have hn2 : n ≤ 9223372036854775807 := by have := hs.le; omega
  have HL := Lib.hid hs.len
  have HS := Lib.hid hs
  clear hs
  go_enter Try.func54, Try.ntmps54
  go_wp2_with fail
  go_loopg [5] n (fun g i wr => ∃ k : Nat, k ≤ n ∧ g = n - k ∧ i = .int .i64 k ∧ idx (l.take k) nm = none ∧ w = wr)
  case atStart => exact ⟨0, Nat.zero_le _, rfl, rfl, rfl, rfl⟩
  case round =>
    obtain ⟨k, hk, hg, rfl, hno, rfl⟩ := hrel
    have HG := Lib.hid hg
    have HNO := Lib.hid hno
    clear hg hno
    by_cases hlt : k < n
    · obtain ⟨b, off, x, rfl, hbl, hx, e0⟩ := str_at HS.out hlt
      have HX := Lib.hid hx
      clear hx
      have hkn : (k : Int) < (n : Int) := by omega
      have hk0 : (0 : Int) ≤ (k : Int) := by omega
      by_cases he : x = nm
      · have te : (x.toList == nm.toList) = true := by rw [str_beq]; simpa using he
        have HE : Hid (idxO l nm = (k : Int)) := Lib.hid (by unfold idxO; rw [idx_hit HNO.out HX.out he])
        clear he
        go_wp2_with fail
        go_ret
        exact ⟨by rw [HE.out]; rfl, rfl⟩
      · have te : (x.toList == nm.toList) = false := by rw [str_beq]; simpa using he
        have HE := Lib.hid (idx_step HNO.out HX.out he)
        clear he
        go_wp2_with fail
        go_roundg (n - (k + 1))
        case measure => have := HG.out; omega
        case rel => exact ⟨k + 1, by omega, rfl, by go_num, HE.out, rfl⟩
    · have HE : Hid (idxO l nm = -1) := Lib.hid (by
        have h0 := HNO.out
        rw [List.take_of_length_le (by have := HL.out; omega)] at h0
        unfold idxO; rw [h0])
      have hkn : ¬ (k : Int) < (n : Int) := by omega
      go_wp2_with fail
      go_ret
      exact ⟨by rw [HE.out]; rfl, rfl⟩

theorem found_any (l : List ByteArray) (nm : ByteArray) (w : World) :
    Calls Try.prog 53 #[.int .i64 (idxO l nm)] w fun e w' => e = .returned (.tuple #[.int .i64 (firstI l nm), .bool (firstB l nm)]) ∧ w = w' := by
  cases hix : idx l nm with
  | none =>
    have e1 : idxO l nm = -1 := by unfold idxO; rw [hix]
    have HE1 : Hid (firstI l nm = 0) := Lib.hid (by unfold firstI; rw [hix])
    have HE2 : Hid (firstB l nm = false) := Lib.hid (by unfold firstB; rw [hix]; rfl)
    rw [e1]
    clear hix e1
    go_enter Try.func53, Try.ntmps53
    go_wp2_with fail
    go_ret2
    exact ⟨by rw [HE1.out, HE2.out]; rfl, rfl⟩
  | some n =>
    have e1 : idxO l nm = (n : Int) := by unfold idxO; rw [hix]
    have HE1 : Hid (firstI l nm = (n : Int)) := Lib.hid (by unfold firstI; rw [hix])
    have HE2 : Hid (firstB l nm = true) := Lib.hid (by unfold firstB; rw [hix]; rfl)
    have hn : ¬ (n : Int) < 0 := by omega
    have dn : decide ((n : Int) < 0) = false := by simp
    rw [e1]
    clear hix e1
    go_enter Try.func53, Try.ntmps53
    go_wp2_with fail
    go_ret2
    exact ⟨by rw [HE1.out, HE2.out]; rfl, rfl⟩

set_option maxHeartbeats 1000000 in
set_option maxRecDepth 100000 in
theorem refUnits_any (A1 A2 A3 A4 A5 A6 : Option Addr) (n1 c1 n2 c2 n3 c3 n4 c4 n5 c5 n6 c6 : Nat) (s : QSource) (w : World) (h : SlB 5 56 qUnitR w (.slice A2 n2 c2) s.units) :
    Calls Try.prog 81 #[.agg #[.slice A1 n1 c1, .slice A2 n2 c2, .slice A3 n3 c3, .slice A4 n4 c4, .slice A5 n5 c5, .slice A6 n6 c6]] w (RetStrs (unitNames s) w) := by
  have hlen := h.1.len
  have hbd : n2 * 56 ≤ 140737488355328 := by rw [hlen]; exact h.2
  have hle := h.1.le
  have HNL := Lib.hid (show (unitNames s).length = n2 by rw [hlen]; simp [unitNames])
  have HS := Lib.hid h.1
  clear h hlen
  obtain ⟨i0, hi, hz0, hz1, hz2⟩ := info_parts Try.infoStr
  have I0 := Lib.hid hi
  have Z0 := Lib.hid (And.intro hz0 (And.intro hz1 hz2))
  clear hi hz0 hz1 hz2
  go_enter Try.func81, Try.ntmps81
  go_upto_region 2 with fail
  have hst := NL.start w 29 #[.slice A1 n1 c1, .slice A2 n2 c2, .slice A3 n3 c3, .slice A4 n4 c4, .slice A5 n5 c5, .slice A6 n6 c6] (unitNames s)
  obtain ⟨g, hg⟩ : ∃ g, g = w.heap.size := ⟨_, rfl⟩
  have ecs : (w.alloc (.cells #[.slice A1 n1 c1, .slice A2 n2 c2, .slice A3 n3 c3, .slice A4 n4 c4, .slice A5 n5 c5, .slice A6 n6 c6] 29)).heap.size = w.heap.size + 1 := by simp
  generalize (w.alloc (.cells #[.slice A1 n1 c1, .slice A2 n2 c2, .slice A3 n3 c3, .slice A4 n4 c4, .slice A5 n5 c5, .slice A6 n6 c6] 29)).alloc (.cells #[] 9) = wb at hst ⊢
  have HST := Lib.hid hst
  clear hst ecs hg
  go_wp2_with fail
  go_loopg [3, 4] n2 (fun q l i wr => ∃ (k : Nat) (A : Option Addr) (m c : Nat), k ≤ n2 ∧ q = n2 - k ∧ l = .slice A m c ∧ i = .int .i64 k ∧ NL w 29 #[.slice A1 n1 c1, .slice A2 n2 c2, .slice A3 n3 c3, .slice A4 n4 c4, .slice A5 n5 c5, .slice A6 n6 c6] (unitNames s) k A m c wr)
  case atStart => exact ⟨0, _, _, _, Nat.zero_le _, rfl, rfl, rfl, HST.out⟩
  case round =>
    clear HST
    obtain ⟨k, vA, vm, vc, hk, hq, rfl, rfl, hnl⟩ := hrel
    have HQ := Lib.hid hq
    have kc := hnl.bs.cell 1
    simp only [List.getElem?_toArray, List.getElem?_cons_zero, List.getElem?_cons_succ] at kc
    have lb := hnl.bs.lt
    have HN := Lib.hid hnl
    clear hq hnl
    by_cases hlt : k < n2
    · obtain ⟨b, off, x, rfl, hbl, hx, e0, e1, e2, e3, e4⟩ := qUnit_at (HS.out.mono qUnitR_mono HN.out.old) hlt
      have HX : Hid ((unitNames s)[k]? = some x.name) := Lib.hid (by unfold unitNames; rw [List.getElem?_map, hx]; rfl)
      clear hx
      have hkn : (k : Int) < (n2 : Int) := by omega
      have hk0 : (0 : Int) ≤ (k : Int) := by omega
      have HO := Lib.hid HN.out.row
      go_wp2_with (at_builtin; refine wpList_append_own_at _ rfl (.tmp 13) (.tmp 20) 22 rfl (w.heap.size + 1) 9 i0 _ 1 16 Try.underlying22 I0.out Z0.out.1 Z0.out.2.1 Z0.out.2.2 rfl (by decide) (.slice vA vm vc) k _ rfl (HO.out.alloc _) ⟨wr.heap.size, 0, none⟩ 1 1 [.string x.name] rfl rfl (cell_one_new _ _ _) (by simp [Value.oneCell']) (by unfold maxLen; omega) (by omega) (by have := HN.out.bs.lt; simp; omega) ?_; intro v' W9 hown' hgrow hnil hat; obtain ⟨vA', vm', vc', rfl, hn9⟩ := HN.out.next HX.out hown' hgrow; have HN9 := Lib.hid hn9; clear hown' hgrow hnil hat hn9)
      go_roundg (n2 - (k + 1))
      case measure => have := HQ.out; omega
      case rel => exact ⟨k + 1, _, _, _, by omega, rfl, rfl, by go_num, HN9.out⟩
    · have hkn : ¬ (k : Int) < (n2 : Int) := by omega
      have HR := Lib.hid (HN.out.done (by have := HNL.out; omega) (by have := HNL.out; omega))
      go_wp2_with fail
      go_ret
      exact HR.out

set_option maxHeartbeats 1000000 in
set_option maxRecDepth 100000 in
theorem refSchemas_any (A1 A2 A3 A4 A5 A6 : Option Addr) (n1 c1 n2 c2 n3 c3 n4 c4 n5 c5 n6 c6 : Nat) (s : QSource) (w : World) (h : SlB 6 96 qSchemaR w (.slice A3 n3 c3) s.schemas) :
    Calls Try.prog 55 #[.agg #[.slice A1 n1 c1, .slice A2 n2 c2, .slice A3 n3 c3, .slice A4 n4 c4, .slice A5 n5 c5, .slice A6 n6 c6]] w (RetStrs (schemaNames s) w) := by
  have hlen := h.1.len
  have hbd : n3 * 96 ≤ 140737488355328 := by rw [hlen]; exact h.2
  have hle := h.1.le
  have HNL := Lib.hid (show (schemaNames s).length = n3 by rw [hlen]; simp [schemaNames])
  have HS := Lib.hid h.1
  clear h hlen
  obtain ⟨i0, hi, hz0, hz1, hz2⟩ := info_parts Try.infoStr
  have I0 := Lib.hid hi
  have Z0 := Lib.hid (And.intro hz0 (And.intro hz1 hz2))
  clear hi hz0 hz1 hz2
  go_enter Try.func55, Try.ntmps55
  go_upto_region 2 with fail
  have hst := NL.start w 29 #[.slice A1 n1 c1, .slice A2 n2 c2, .slice A3 n3 c3, .slice A4 n4 c4, .slice A5 n5 c5, .slice A6 n6 c6] (schemaNames s)
  obtain ⟨g, hg⟩ : ∃ g, g = w.heap.size := ⟨_, rfl⟩
  have ecs : (w.alloc (.cells #[.slice A1 n1 c1, .slice A2 n2 c2, .slice A3 n3 c3, .slice A4 n4 c4, .slice A5 n5 c5, .slice A6 n6 c6] 29)).heap.size = w.heap.size + 1 := by simp
  generalize (w.alloc (.cells #[.slice A1 n1 c1, .slice A2 n2 c2, .slice A3 n3 c3, .slice A4 n4 c4, .slice A5 n5 c5, .slice A6 n6 c6] 29)).alloc (.cells #[] 9) = wb at hst ⊢
  have HST := Lib.hid hst
  clear hst ecs hg
  go_wp2_with fail
  go_loopg [3, 4] n3 (fun q l i wr => ∃ (k : Nat) (A : Option Addr) (m c : Nat), k ≤ n3 ∧ q = n3 - k ∧ l = .slice A m c ∧ i = .int .i64 k ∧ NL w 29 #[.slice A1 n1 c1, .slice A2 n2 c2, .slice A3 n3 c3, .slice A4 n4 c4, .slice A5 n5 c5, .slice A6 n6 c6] (schemaNames s) k A m c wr)
  case atStart => exact ⟨0, _, _, _, Nat.zero_le _, rfl, rfl, rfl, HST.out⟩
  case round =>
    clear HST
    obtain ⟨k, vA, vm, vc, hk, hq, rfl, rfl, hnl⟩ := hrel
    have HQ := Lib.hid hq
    have kc := hnl.bs.cell 2
    simp only [List.getElem?_toArray, List.getElem?_cons_zero, List.getElem?_cons_succ] at kc
    have lb := hnl.bs.lt
    have HN := Lib.hid hnl
    clear hq hnl
    by_cases hlt : k < n3
    · obtain ⟨b, off, x, _, _, _, _, _, _, rfl, hbl, hx, e0, e1, e2, e3, e4, e5, -, -⟩ := qSchema_at (HS.out.mono qSchemaR_mono HN.out.old) hlt
      have HX : Hid ((schemaNames s)[k]? = some x.name) := Lib.hid (by unfold schemaNames; rw [List.getElem?_map, hx]; rfl)
      clear hx
      have hkn : (k : Int) < (n3 : Int) := by omega
      have hk0 : (0 : Int) ≤ (k : Int) := by omega
      have HO := Lib.hid HN.out.row
      go_wp2_with (at_builtin; refine wpList_append_own_at _ rfl (.tmp 13) (.tmp 20) 22 rfl (w.heap.size + 1) 9 i0 _ 1 16 Try.underlying22 I0.out Z0.out.1 Z0.out.2.1 Z0.out.2.2 rfl (by decide) (.slice vA vm vc) k _ rfl (HO.out.alloc _) ⟨wr.heap.size, 0, none⟩ 1 1 [.string x.name] rfl rfl (cell_one_new _ _ _) (by simp [Value.oneCell']) (by unfold maxLen; omega) (by omega) (by have := HN.out.bs.lt; simp; omega) ?_; intro v' W9 hown' hgrow hnil hat; obtain ⟨vA', vm', vc', rfl, hn9⟩ := HN.out.next HX.out hown' hgrow; have HN9 := Lib.hid hn9; clear hown' hgrow hnil hat hn9)
      go_roundg (n3 - (k + 1))
      case measure => have := HQ.out; omega
      case rel => exact ⟨k + 1, _, _, _, by omega, rfl, rfl, by go_num, HN9.out⟩
    · have hkn : ¬ (k : Int) < (n3 : Int) := by omega
      have HR := Lib.hid (HN.out.done (by have := HNL.out; omega) (by have := HNL.out; omega))
      go_wp2_with fail
      go_ret
      exact HR.out

set_option maxHeartbeats 1000000 in
set_option maxRecDepth 100000 in
theorem refPurposes_any (A1 A2 A3 A4 A5 A6 : Option Addr) (n1 c1 n2 c2 n3 c3 n4 c4 n5 c5 n6 c6 : Nat) (s : QSource) (w : World) (h : SlB 3 48 qPurposeR w (.slice A6 n6 c6) s.purposes) :
    Calls Try.prog 58 #[.agg #[.slice A1 n1 c1, .slice A2 n2 c2, .slice A3 n3 c3, .slice A4 n4 c4, .slice A5 n5 c5, .slice A6 n6 c6]] w (RetStrs (purposeNames s) w) := by
  have hlen := h.1.len
  have hbd : n6 * 48 ≤ 140737488355328 := by rw [hlen]; exact h.2
  have hle := h.1.le
  have HNL := Lib.hid (show (purposeNames s).length = n6 by rw [hlen]; simp [purposeNames])
  have HS := Lib.hid h.1
  clear h hlen
  obtain ⟨i0, hi, hz0, hz1, hz2⟩ := info_parts Try.infoStr
  have I0 := Lib.hid hi
  have Z0 := Lib.hid (And.intro hz0 (And.intro hz1 hz2))
  clear hi hz0 hz1 hz2
  go_enter Try.func58, Try.ntmps58
  go_upto_region 2 with fail
  have hst := NL.start w 29 #[.slice A1 n1 c1, .slice A2 n2 c2, .slice A3 n3 c3, .slice A4 n4 c4, .slice A5 n5 c5, .slice A6 n6 c6] (purposeNames s)
  obtain ⟨g, hg⟩ : ∃ g, g = w.heap.size := ⟨_, rfl⟩
  have ecs : (w.alloc (.cells #[.slice A1 n1 c1, .slice A2 n2 c2, .slice A3 n3 c3, .slice A4 n4 c4, .slice A5 n5 c5, .slice A6 n6 c6] 29)).heap.size = w.heap.size + 1 := by simp
  generalize (w.alloc (.cells #[.slice A1 n1 c1, .slice A2 n2 c2, .slice A3 n3 c3, .slice A4 n4 c4, .slice A5 n5 c5, .slice A6 n6 c6] 29)).alloc (.cells #[] 9) = wb at hst ⊢
  have HST := Lib.hid hst
  clear hst ecs hg
  go_wp2_with fail
  go_loopg [3, 4] n6 (fun q l i wr => ∃ (k : Nat) (A : Option Addr) (m c : Nat), k ≤ n6 ∧ q = n6 - k ∧ l = .slice A m c ∧ i = .int .i64 k ∧ NL w 29 #[.slice A1 n1 c1, .slice A2 n2 c2, .slice A3 n3 c3, .slice A4 n4 c4, .slice A5 n5 c5, .slice A6 n6 c6] (purposeNames s) k A m c wr)
  case atStart => exact ⟨0, _, _, _, Nat.zero_le _, rfl, rfl, rfl, HST.out⟩
  case round =>
    clear HST
    obtain ⟨k, vA, vm, vc, hk, hq, rfl, rfl, hnl⟩ := hrel
    have HQ := Lib.hid hq
    have kc := hnl.bs.cell 5
    simp only [List.getElem?_toArray, List.getElem?_cons_zero, List.getElem?_cons_succ] at kc
    have lb := hnl.bs.lt
    have HN := Lib.hid hnl
    clear hq hnl
    by_cases hlt : k < n6
    · obtain ⟨b, off, x, _, _, _, rfl, hbl, hx, e0, e1, e2, -⟩ := qPurpose_at (HS.out.mono qPurposeR_mono HN.out.old) hlt
      have HX : Hid ((purposeNames s)[k]? = some x.name) := Lib.hid (by unfold purposeNames; rw [List.getElem?_map, hx]; rfl)
      clear hx
      have hkn : (k : Int) < (n6 : Int) := by omega
      have hk0 : (0 : Int) ≤ (k : Int) := by omega
      have HO := Lib.hid HN.out.row
      go_wp2_with (at_builtin; refine wpList_append_own_at _ rfl (.tmp 13) (.tmp 20) 22 rfl (w.heap.size + 1) 9 i0 _ 1 16 Try.underlying22 I0.out Z0.out.1 Z0.out.2.1 Z0.out.2.2 rfl (by decide) (.slice vA vm vc) k _ rfl (HO.out.alloc _) ⟨wr.heap.size, 0, none⟩ 1 1 [.string x.name] rfl rfl (cell_one_new _ _ _) (by simp [Value.oneCell']) (by unfold maxLen; omega) (by omega) (by have := HN.out.bs.lt; simp; omega) ?_; intro v' W9 hown' hgrow hnil hat; obtain ⟨vA', vm', vc', rfl, hn9⟩ := HN.out.next HX.out hown' hgrow; have HN9 := Lib.hid hn9; clear hown' hgrow hnil hat hn9)
      go_roundg (n6 - (k + 1))
      case measure => have := HQ.out; omega
      case rel => exact ⟨k + 1, _, _, _, by omega, rfl, rfl, by go_num, HN9.out⟩
    · have hkn : ¬ (k : Int) < (n6 : Int) := by omega
      have HR := Lib.hid (HN.out.done (by have := HNL.out; omega) (by have := HNL.out; omega))
      go_wp2_with fail
      go_ret
      exact HR.out

set_option maxHeartbeats 1000000 in
set_option maxRecDepth 100000 in
theorem refVariables_any (A1 A2 A3 : Option Addr) (n1 c1 n2 c2 n3 c3 : Nat) (r : QRule) (w : World) (h : SlB 8 96 qFromR w (.slice A1 n1 c1) r.froms) :
    Calls Try.prog 82 #[.agg #[.string r.head, .int .i64 r.schema, .slice A1 n1 c1, .slice A2 n2 c2, .slice A3 n3 c3]] w (RetStrs (fromNames r) w) := by
  have hlen := h.1.len
  have hbd : n1 * 96 ≤ 140737488355328 := by rw [hlen]; exact h.2
  have hle := h.1.le
  have HNL := Lib.hid (show (fromNames r).length = n1 by rw [hlen]; simp [fromNames])
  have HS := Lib.hid h.1
  clear h hlen
  obtain ⟨i0, hi, hz0, hz1, hz2⟩ := info_parts Try.infoStr
  have I0 := Lib.hid hi
  have Z0 := Lib.hid (And.intro hz0 (And.intro hz1 hz2))
  clear hi hz0 hz1 hz2
  go_enter Try.func82, Try.ntmps82
  go_upto_region 2 with fail
  have hst := NL.start w 56 #[.string r.head, .int .i64 r.schema, .slice A1 n1 c1, .slice A2 n2 c2, .slice A3 n3 c3] (fromNames r)
  obtain ⟨g, hg⟩ : ∃ g, g = w.heap.size := ⟨_, rfl⟩
  have ecs : (w.alloc (.cells #[.string r.head, .int .i64 r.schema, .slice A1 n1 c1, .slice A2 n2 c2, .slice A3 n3 c3] 56)).heap.size = w.heap.size + 1 := by simp
  generalize (w.alloc (.cells #[.string r.head, .int .i64 r.schema, .slice A1 n1 c1, .slice A2 n2 c2, .slice A3 n3 c3] 56)).alloc (.cells #[] 9) = wb at hst ⊢
  have HST := Lib.hid hst
  clear hst ecs hg
  go_wp2_with fail
  go_loopg [3, 4] n1 (fun q l i wr => ∃ (k : Nat) (A : Option Addr) (m c : Nat), k ≤ n1 ∧ q = n1 - k ∧ l = .slice A m c ∧ i = .int .i64 k ∧ NL w 56 #[.string r.head, .int .i64 r.schema, .slice A1 n1 c1, .slice A2 n2 c2, .slice A3 n3 c3] (fromNames r) k A m c wr)
  case atStart => exact ⟨0, _, _, _, Nat.zero_le _, rfl, rfl, rfl, HST.out⟩
  case round =>
    clear HST
    obtain ⟨k, vA, vm, vc, hk, hq, rfl, rfl, hnl⟩ := hrel
    have HQ := Lib.hid hq
    have kc := hnl.bs.cell 2
    simp only [List.getElem?_toArray, List.getElem?_cons_zero, List.getElem?_cons_succ] at kc
    have lb := hnl.bs.lt
    have HN := Lib.hid hnl
    clear hq hnl
    by_cases hlt : k < n1
    · obtain ⟨b, off, x, rfl, hbl, hx, e0, e1, e2, e3, e4, e5, e6, e7⟩ := qFrom_at (HS.out.mono qFromR_mono HN.out.old) hlt
      have HX : Hid ((fromNames r)[k]? = some x.name) := Lib.hid (by unfold fromNames; rw [List.getElem?_map, hx]; rfl)
      clear hx
      have hkn : (k : Int) < (n1 : Int) := by omega
      have hk0 : (0 : Int) ≤ (k : Int) := by omega
      have HO := Lib.hid HN.out.row
      go_wp2_with (at_builtin; refine wpList_append_own_at _ rfl (.tmp 13) (.tmp 20) 22 rfl (w.heap.size + 1) 9 i0 _ 1 16 Try.underlying22 I0.out Z0.out.1 Z0.out.2.1 Z0.out.2.2 rfl (by decide) (.slice vA vm vc) k _ rfl (HO.out.alloc _) ⟨wr.heap.size, 0, none⟩ 1 1 [.string x.name] rfl rfl (cell_one_new _ _ _) (by simp [Value.oneCell']) (by unfold maxLen; omega) (by omega) (by have := HN.out.bs.lt; simp; omega) ?_; intro v' W9 hown' hgrow hnil hat; obtain ⟨vA', vm', vc', rfl, hn9⟩ := HN.out.next HX.out hown' hgrow; have HN9 := Lib.hid hn9; clear hown' hgrow hnil hat hn9)
      go_roundg (n1 - (k + 1))
      case measure => have := HQ.out; omega
      case rel => exact ⟨k + 1, _, _, _, by omega, rfl, rfl, by go_num, HN9.out⟩
    · have hkn : ¬ (k : Int) < (n1 : Int) := by omega
      have HR := Lib.hid (HN.out.done (by have := HNL.out; omega) (by have := HNL.out; omega))
      go_wp2_with fail
      go_ret
      exact HR.out

end Go.Proofs.Ytkkkephjljiplaa
