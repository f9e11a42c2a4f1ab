/- Contracts of the reference's find, found, twice and of its lists of names. Written by genref.py. -/
import Derived.Test.YtkkkephjljiplaaNmFirst
import Derived.Test.YtkkkephjljiplaaNmGath
import Derived.Test.YtkkkephjljiplaaNmPurp
import Derived.Test.YtkkkephjljiplaaNmSchP
import Derived.Test.YtkkkephjljiplaaNmOpen
import Derived.Test.YtkkkephjljiplaaNmScP
import Derived.Test.YtkkkephjljiplaaNmMeQ
namespace Go.Proofs.Ytkkkephjljiplaa
open Go.RowKit


/-- A list of strings is returned. -/
def RetStrs (l : List ByteArray) (w : World) (e : Ending) (w' : World) : Prop := ∃ A c, e = .returned (.slice A l.length c) ∧ SlB 1 16 strR w' (.slice A l.length c) l ∧ Below w.heap.size w w'
/-- While such a list is made. -/
structure NL (w : World) (T : TypeId) (bx : Array Value) (names : List ByteArray) (k : Nat) (A : Option Addr) (m c : Nat) (wr : World) : Prop where
  old : Below w.heap.size w wr
  bs : Blk wr w.heap.size T bx
  row : wr.ownsRow (w.heap.size + 1) 9 1 (.slice A m c) k ((names.take k).map strV)
theorem cellsStr (w : World) (l : List ByteArray) : CellsR 1 strR w (l.map strV) l := by
  refine ⟨by simp, fun i x hi => ?_⟩
  show _ = _
  rw [Nat.mul_one, List.map_drop.symm, List.map_take.symm]
  have : (l.drop i).take 1 = [x] := by
    rw [drop_cons hi]; rfl
  rw [this]; rfl
section
variable {w : World} {T : TypeId} {bx : Array Value} {names : List ByteArray} {k : Nat} {A : Option Addr} {m c : Nat} {wr W9 : World}
theorem NL.start (w : World) (T : TypeId) (bx : Array Value) (names : List ByteArray) : NL w T bx names 0 (some ⟨w.heap.size + 1, 0, none⟩) 0 0 ((w.alloc (.cells bx T)).alloc (.cells #[] 9)) :=
  ⟨((Below.refl _ _).alloc (Nat.le_refl _) _).alloc (by simp) _, (Blk.new _ _ _).alloc _, by
    have := World.ownsRow_lit (w.alloc (.cells bx T)) (base := w.heap.size + 1) (e := 9) (size := 1) #[] 0 (by simp) (Nat.zero_le _) rfl
    simpa using this⟩
theorem NL.next (h : NL w T bx names k A m c wr) {x : ByteArray} (hx : names[k]? = some x) {o : Obj} {v' : Value} (hown : W9.ownsRow (w.heap.size + 1) 9 1 v' (k + 1) ((names.take k).map strV ++ [.string x])) (hg : (wr.alloc o).grownBy W9 (Value.slice A m c).ownBlock) : ∃ A' m' c', v' = .slice A' m' c' ∧ NL w T bx names (k + 1) A' m' c' W9 := by
  obtain ⟨A', m', c', rfl⟩ := own_form hown
  refine ⟨A', m', c', rfl, (h.old.alloc h.old.size o).grown hg (by have := h.old.size; simp; omega) (fun r e => by have := (h.row.lt r e).1; omega), (h.bs.alloc o).grown hg (fun e => by have := (h.row.lt _ e.symm).1; omega), ?_⟩
  rw [take_snoc hx, List.map_append]
  exact hown
theorem NL.done (h : NL w T bx names k A m c wr) (hk : k = names.length) (hbd : names.length * 16 ≤ 140737488355328) : RetStrs names w (.returned (.slice A m c)) wr := by
  have h1 := slR_of_row h.row (by rw [hk, List.take_length]; exact cellsStr wr names) hk
  obtain rfl : m = names.length := by obtain ⟨_, _, e, _⟩ := h1; injection e
  exact ⟨A, c, rfl, ⟨h1, hbd⟩, h.old⟩
end

set_option maxHeartbeats 1000000 in
theorem refFind_any (A : Option Addr) (n c : Nat) (l : List ByteArray) (nm : ByteArray) (w : World) (hs : SlR 1 strR w (.slice A n c) l) :
    Calls Try.prog 54 #[.slice A n c, .string nm] w fun e w' => e = .returned (.int .i64 (idxO l nm)) ∧ w = w' := by
  have hn2 : n ≤ 9223372036854775807 := by have := hs.le; omega
  have HL := Lib.hid hs.len
  have HS := Lib.hid hs
  clear hs
  go_enter Try.func54, Try.ntmps54
  go_wp2_with fail
  go_loopg [5] n (fun g i wr => ∃ k : Nat, k ≤ n ∧ g = n - k ∧ i = .int .i64 k ∧ idx (l.take k) nm = none ∧ w = wr)
  case atStart => exact ⟨0, Nat.zero_le _, rfl, rfl, rfl, rfl⟩
  case round =>
    obtain ⟨k, hk, hg, rfl, hno, rfl⟩ := hrel
    have HG := Lib.hid hg
    have HNO := Lib.hid hno
    clear hg hno
    by_cases hlt : k < n
    · obtain ⟨b, off, x, rfl, hbl, hx, e0⟩ := str_at HS.out hlt
      have HX := Lib.hid hx
      clear hx
      have hkn : (k : Int) < (n : Int) := by omega
      have hk0 : (0 : Int) ≤ (k : Int) := by omega
      by_cases he : x = nm
      · have te : (x.toList == nm.toList) = true := by rw [str_beq]; simpa using he
        have HE : Hid (idxO l nm = (k : Int)) := Lib.hid (by unfold idxO; rw [idx_hit HNO.out HX.out he])
        clear he
        go_wp2_with fail
        go_ret
        exact ⟨by rw [HE.out]; rfl, rfl⟩
      · have te : (x.toList == nm.toList) = false := by rw [str_beq]; simpa using he
        have HE := Lib.hid (idx_step HNO.out HX.out he)
        clear he
        go_wp2_with fail
        go_roundg (n - (k + 1))
        case measure => have := HG.out; omega
        case rel => exact ⟨k + 1, by omega, rfl, by go_num, HE.out, rfl⟩
    · have HE : Hid (idxO l nm = -1) := Lib.hid (by
        have h0 := HNO.out
        rw [List.take_of_length_le (by have := HL.out; omega)] at h0
        unfold idxO; rw [h0])
      have hkn : ¬ (k : Int) < (n : Int) := by omega
      go_wp2_with fail
      go_ret
      exact ⟨by rw [HE.out]; rfl, rfl⟩

theorem found_any (l : List ByteArray) (nm : ByteArray) (w : World) :
    Calls Try.prog 53 #[.int .i64 (idxO l nm)] w fun e w' => e = .returned (.tuple #[.int .i64 (firstI l nm), .bool (firstB l nm)]) ∧ w = w' := by
  cases hix : idx l nm with
  | none =>
    have e1 : idxO l nm = -1 := by unfold idxO; rw [hix]
    have HE1 : Hid (firstI l nm = 0) := Lib.hid (by unfold firstI; rw [hix])
    have HE2 : Hid (firstB l nm = false) := Lib.hid (by unfold firstB; rw [hix]; rfl)
    rw [e1]
    clear hix e1
    go_enter Try.func53, Try.ntmps53
    go_wp2_with fail
    go_ret2
    exact ⟨by rw [HE1.out, HE2.out]; rfl, rfl⟩
  | some n =>
    have e1 : idxO l nm = (n : Int) := by unfold idxO; rw [hix]
    have HE1 : Hid (firstI l nm = (n : Int)) := Lib.hid (by unfold firstI; rw [hix])
    have HE2 : Hid (firstB l nm = true) := Lib.hid (by unfold firstB; rw [hix]; rfl)
    have hn : ¬ (n : Int) < 0 := by omega
    have dn : decide ((n : Int) < 0) = false := by simp
    rw [e1]
    clear hix e1
    go_enter Try.func53, Try.ntmps53
    go_wp2_with fail
    go_ret2
    exact ⟨by rw [HE1.out, HE2.out]; rfl, rfl⟩

set_option maxHeartbeats 1000000 in
set_option maxRecDepth 100000 in
theorem refUnits_any (A1 A2 A3 A4 A5 A6 : Option Addr) (n1 c1 n2 c2 n3 c3 n4 c4 n5 c5 n6 c6 : Nat) (s : QSource) (w : World) (h : SlB 5 56 qUnitR w (.slice A2 n2 c2) s.units) :
    Calls Try.prog 81 #[.agg #[.slice A1 n1 c1, .slice A2 n2 c2, .slice A3 n3 c3, .slice A4 n4 c4, .slice A5 n5 c5, .slice A6 n6 c6]] w (RetStrs (unitNames s) w) := by
  have hlen := h.1.len
  have hbd : n2 * 56 ≤ 140737488355328 := by rw [hlen]; exact h.2
  have hle := h.1.le
  have HNL := Lib.hid (show (unitNames s).length = n2 by rw [hlen]; simp [unitNames])
  have HS := Lib.hid h.1
  clear h hlen
  obtain ⟨i0, hi, hz0, hz1, hz2⟩ := info_parts Try.infoStr
  have I0 := Lib.hid hi
  have Z0 := Lib.hid (And.intro hz0 (And.intro hz1 hz2))
  clear hi hz0 hz1 hz2
  go_enter Try.func81, Try.ntmps81
  go_upto_region 2 with fail
  have hst := NL.start w 29 #[.slice A1 n1 c1, .slice A2 n2 c2, .slice A3 n3 c3, .slice A4 n4 c4, .slice A5 n5 c5, .slice A6 n6 c6] (unitNames s)
  obtain ⟨g, hg⟩ : ∃ g, g = w.heap.size := ⟨_, rfl⟩
  have ecs : (w.alloc (.cells #[.slice A1 n1 c1, .slice A2 n2 c2, .slice A3 n3 c3, .slice A4 n4 c4, .slice A5 n5 c5, .slice A6 n6 c6] 29)).heap.size = w.heap.size + 1 := by simp
  generalize (w.alloc (.cells #[.slice A1 n1 c1, .slice A2 n2 c2, .slice A3 n3 c3, .slice A4 n4 c4, .slice A5 n5 c5, .slice A6 n6 c6] 29)).alloc (.cells #[] 9) = wb at hst ⊢
  have HST := Lib.hid hst
  clear hst ecs hg
  go_wp2_with fail
  go_loopg [3, 4] n2 (fun q l i wr => ∃ (k : Nat) (A : Option Addr) (m c : Nat), k ≤ n2 ∧ q = n2 - k ∧ l = .slice A m c ∧ i = .int .i64 k ∧ NL w 29 #[.slice A1 n1 c1, .slice A2 n2 c2, .slice A3 n3 c3, .slice A4 n4 c4, .slice A5 n5 c5, .slice A6 n6 c6] (unitNames s) k A m c wr)
  case atStart => exact ⟨0, _, _, _, Nat.zero_le _, rfl, rfl, rfl, HST.out⟩
  case round =>
    clear HST
    obtain ⟨k, vA, vm, vc, hk, hq, rfl, rfl, hnl⟩ := hrel
    have HQ := Lib.hid hq
    have kc := hnl.bs.cell 1
    simp only [List.getElem?_toArray, List.getElem?_cons_zero, List.getElem?_cons_succ] at kc
    have lb := hnl.bs.lt
    have HN := Lib.hid hnl
    clear hq hnl
    by_cases hlt : k < n2
    · obtain ⟨b, off, x, rfl, hbl, hx, e0, e1, e2, e3, e4⟩ := qUnit_at (HS.out.mono qUnitR_mono HN.out.old) hlt
      have HX : Hid ((unitNames s)[k]? = some x.name) := Lib.hid (by unfold unitNames; rw [List.getElem?_map, hx]; rfl)
      clear hx
      have hkn : (k : Int) < (n2 : Int) := by omega
      have hk0 : (0 : Int) ≤ (k : Int) := by omega
      have HO := Lib.hid HN.out.row
      go_wp2_with (at_builtin; refine wpList_append_own_at _ rfl (.tmp 13) (.tmp 20) 22 rfl (w.heap.size + 1) 9 i0 _ 1 16 Try.underlying22 I0.out Z0.out.1 Z0.out.2.1 Z0.out.2.2 rfl (by decide) (.slice vA vm vc) k _ rfl (HO.out.alloc _) ⟨wr.heap.size, 0, none⟩ 1 1 [.string x.name] rfl rfl (cell_one_new _ _ _) (by simp [Value.oneCell']) (by unfold maxLen; omega) (by omega) (by have := HN.out.bs.lt; simp; omega) ?_; intro v' W9 hown' hgrow hnil hat; obtain ⟨vA', vm', vc', rfl, hn9⟩ := HN.out.next HX.out hown' hgrow; have HN9 := Lib.hid hn9; clear hown' hgrow hnil hat hn9)
      go_roundg (n2 - (k + 1))
      case measure => have := HQ.out; omega
      case rel => exact ⟨k + 1, _, _, _, by omega, rfl, rfl, by go_num, HN9.out⟩
    · have hkn : ¬ (k : Int) < (n2 : Int) := by omega
      have HR := Lib.hid (HN.out.done (by have := HNL.out; omega) (by have := HNL.out; omega))
      go_wp2_with fail
      go_ret
      exact HR.out

set_option maxHeartbeats 1000000 in
set_option maxRecDepth 100000 in
theorem refSchemas_any (A1 A2 A3 A4 A5 A6 : Option Addr) (n1 c1 n2 c2 n3 c3 n4 c4 n5 c5 n6 c6 : Nat) (s : QSource) (w : World) (h : SlB 6 96 qSchemaR w (.slice A3 n3 c3) s.schemas) :
    Calls Try.prog 55 #[.agg #[.slice A1 n1 c1, .slice A2 n2 c2, .slice A3 n3 c3, .slice A4 n4 c4, .slice A5 n5 c5, .slice A6 n6 c6]] w (RetStrs (schemaNames s) w) := by
  have hlen := h.1.len
  have hbd : n3 * 96 ≤ 140737488355328 := by rw [hlen]; exact h.2
  have hle := h.1.le
  have HNL := Lib.hid (show (schemaNames s).length = n3 by rw [hlen]; simp [schemaNames])
  have HS := Lib.hid h.1
  clear h hlen
  obtain ⟨i0, hi, hz0, hz1, hz2⟩ := info_parts Try.infoStr
  have I0 := Lib.hid hi
  have Z0 := Lib.hid (And.intro hz0 (And.intro hz1 hz2))
  clear hi hz0 hz1 hz2
  go_enter Try.func55, Try.ntmps55
  go_upto_region 2 with fail
  have hst := NL.start w 29 #[.slice A1 n1 c1, .slice A2 n2 c2, .slice A3 n3 c3, .slice A4 n4 c4, .slice A5 n5 c5, .slice A6 n6 c6] (schemaNames s)
  obtain ⟨g, hg⟩ : ∃ g, g = w.heap.size := ⟨_, rfl⟩
  have ecs : (w.alloc (.cells #[.slice A1 n1 c1, .slice A2 n2 c2, .slice A3 n3 c3, .slice A4 n4 c4, .slice A5 n5 c5, .slice A6 n6 c6] 29)).heap.size = w.heap.size + 1 := by simp
  generalize (w.alloc (.cells #[.slice A1 n1 c1, .slice A2 n2 c2, .slice A3 n3 c3, .slice A4 n4 c4, .slice A5 n5 c5, .slice A6 n6 c6] 29)).alloc (.cells #[] 9) = wb at hst ⊢
  have HST := Lib.hid hst
  clear hst ecs hg
  go_wp2_with fail
  go_loopg [3, 4] n3 (fun q l i wr => ∃ (k : Nat) (A : Option Addr) (m c : Nat), k ≤ n3 ∧ q = n3 - k ∧ l = .slice A m c ∧ i = .int .i64 k ∧ NL w 29 #[.slice A1 n1 c1, .slice A2 n2 c2, .slice A3 n3 c3, .slice A4 n4 c4, .slice A5 n5 c5, .slice A6 n6 c6] (schemaNames s) k A m c wr)
  case atStart => exact ⟨0, _, _, _, Nat.zero_le _, rfl, rfl, rfl, HST.out⟩
  case round =>
    clear HST
    obtain ⟨k, vA, vm, vc, hk, hq, rfl, rfl, hnl⟩ := hrel
    have HQ := Lib.hid hq
    have kc := hnl.bs.cell 2
    simp only [List.getElem?_toArray, List.getElem?_cons_zero, List.getElem?_cons_succ] at kc
    have lb := hnl.bs.lt
    have HN := Lib.hid hnl
    clear hq hnl
    by_cases hlt : k < n3
    · obtain ⟨b, off, x, _, _, _, _, _, _, rfl, hbl, hx, e0, e1, e2, e3, e4, e5, -, -⟩ := qSchema_at (HS.out.mono qSchemaR_mono HN.out.old) hlt
      have HX : Hid ((schemaNames s)[k]? = some x.name) := Lib.hid (by unfold schemaNames; rw [List.getElem?_map, hx]; rfl)
      clear hx
      have hkn : (k : Int) < (n3 : Int) := by omega
      have hk0 : (0 : Int) ≤ (k : Int) := by omega
      have HO := Lib.hid HN.out.row
      go_wp2_with (at_builtin; refine wpList_append_own_at _ rfl (.tmp 13) (.tmp 20) 22 rfl (w.heap.size + 1) 9 i0 _ 1 16 Try.underlying22 I0.out Z0.out.1 Z0.out.2.1 Z0.out.2.2 rfl (by decide) (.slice vA vm vc) k _ rfl (HO.out.alloc _) ⟨wr.heap.size, 0, none⟩ 1 1 [.string x.name] rfl rfl (cell_one_new _ _ _) (by simp [Value.oneCell']) (by unfold maxLen; omega) (by omega) (by have := HN.out.bs.lt; simp; omega) ?_; intro v' W9 hown' hgrow hnil hat; obtain ⟨vA', vm', vc', rfl, hn9⟩ := HN.out.next HX.out hown' hgrow; have HN9 := Lib.hid hn9; clear hown' hgrow hnil hat hn9)
      go_roundg (n3 - (k + 1))
      case measure => have := HQ.out; omega
      case rel => exact ⟨k + 1, _, _, _, by omega, rfl, rfl, by go_num, HN9.out⟩
    · have hkn : ¬ (k : Int) < (n3 : Int) := by omega
      have HR := Lib.hid (HN.out.done (by have := HNL.out; omega) (by have := HNL.out; omega))
      go_wp2_with fail
      go_ret
      exact HR.out

set_option maxHeartbeats 1000000 in
set_option maxRecDepth 100000 in
theorem refPurposes_any (A1 A2 A3 A4 A5 A6 : Option Addr) (n1 c1 n2 c2 n3 c3 n4 c4 n5 c5 n6 c6 : Nat) (s : QSource) (w : World) (h : SlB 3 48 qPurposeR w (.slice A6 n6 c6) s.purposes) :
    Calls Try.prog 58 #[.agg #[.slice A1 n1 c1, .slice A2 n2 c2, .slice A3 n3 c3, .slice A4 n4 c4, .slice A5 n5 c5, .slice A6 n6 c6]] w (RetStrs (purposeNames s) w) := by
  have hlen := h.1.len
  have hbd : n6 * 48 ≤ 140737488355328 := by rw [hlen]; exact h.2
  have hle := h.1.le
  have HNL := Lib.hid (show (purposeNames s).length = n6 by rw [hlen]; simp [purposeNames])
  have HS := Lib.hid h.1
  clear h hlen
  obtain ⟨i0, hi, hz0, hz1, hz2⟩ := info_parts Try.infoStr
  have I0 := Lib.hid hi
  have Z0 := Lib.hid (And.intro hz0 (And.intro hz1 hz2))
  clear hi hz0 hz1 hz2
  go_enter Try.func58, Try.ntmps58
  go_upto_region 2 with fail
  have hst := NL.start w 29 #[.slice A1 n1 c1, .slice A2 n2 c2, .slice A3 n3 c3, .slice A4 n4 c4, .slice A5 n5 c5, .slice A6 n6 c6] (purposeNames s)
  obtain ⟨g, hg⟩ : ∃ g, g = w.heap.size := ⟨_, rfl⟩
  have ecs : (w.alloc (.cells #[.slice A1 n1 c1, .slice A2 n2 c2, .slice A3 n3 c3, .slice A4 n4 c4, .slice A5 n5 c5, .slice A6 n6 c6] 29)).heap.size = w.heap.size + 1 := by simp
  generalize (w.alloc (.cells #[.slice A1 n1 c1, .slice A2 n2 c2, .slice A3 n3 c3, .slice A4 n4 c4, .slice A5 n5 c5, .slice A6 n6 c6] 29)).alloc (.cells #[] 9) = wb at hst ⊢
  have HST := Lib.hid hst
  clear hst ecs hg
  go_wp2_with fail
  go_loopg [3, 4] n6 (fun q l i wr => ∃ (k : Nat) (A : Option Addr) (m c : Nat), k ≤ n6 ∧ q = n6 - k ∧ l = .slice A m c ∧ i = .int .i64 k ∧ NL w 29 #[.slice A1 n1 c1, .slice A2 n2 c2, .slice A3 n3 c3, .slice A4 n4 c4, .slice A5 n5 c5, .slice A6 n6 c6] (purposeNames s) k A m c wr)
  case atStart => exact ⟨0, _, _, _, Nat.zero_le _, rfl, rfl, rfl, HST.out⟩
  case round =>
    clear HST
    obtain ⟨k, vA, vm, vc, hk, hq, rfl, rfl, hnl⟩ := hrel
    have HQ := Lib.hid hq
    have kc := hnl.bs.cell 5
    simp only [List.getElem?_toArray, List.getElem?_cons_zero, List.getElem?_cons_succ] at kc
    have lb := hnl.bs.lt
    have HN := Lib.hid hnl
    clear hq hnl
    by_cases hlt : k < n6
    · obtain ⟨b, off, x, _, _, _, rfl, hbl, hx, e0, e1, e2, -⟩ := qPurpose_at (HS.out.mono qPurposeR_mono HN.out.old) hlt
      have HX : Hid ((purposeNames s)[k]? = some x.name) := Lib.hid (by unfold purposeNames; rw [List.getElem?_map, hx]; rfl)
      clear hx
      have hkn : (k : Int) < (n6 : Int) := by omega
      have hk0 : (0 : Int) ≤ (k : Int) := by omega
      have HO := Lib.hid HN.out.row
      go_wp2_with (at_builtin; refine wpList_append_own_at _ rfl (.tmp 13) (.tmp 20) 22 rfl (w.heap.size + 1) 9 i0 _ 1 16 Try.underlying22 I0.out Z0.out.1 Z0.out.2.1 Z0.out.2.2 rfl (by decide) (.slice vA vm vc) k _ rfl (HO.out.alloc _) ⟨wr.heap.size, 0, none⟩ 1 1 [.string x.name] rfl rfl (cell_one_new _ _ _) (by simp [Value.oneCell']) (by unfold maxLen; omega) (by omega) (by have := HN.out.bs.lt; simp; omega) ?_; intro v' W9 hown' hgrow hnil hat; obtain ⟨vA', vm', vc', rfl, hn9⟩ := HN.out.next HX.out hown' hgrow; have HN9 := Lib.hid hn9; clear hown' hgrow hnil hat hn9)
      go_roundg (n6 - (k + 1))
      case measure => have := HQ.out; omega
      case rel => exact ⟨k + 1, _, _, _, by omega, rfl, rfl, by go_num, HN9.out⟩
    · have hkn : ¬ (k : Int) < (n6 : Int) := by omega
      have HR := Lib.hid (HN.out.done (by have := HNL.out; omega) (by have := HNL.out; omega))
      go_wp2_with fail
      go_ret
      exact HR.out

set_option maxHeartbeats 1000000 in
set_option maxRecDepth 100000 in
theorem refVariables_any (A1 A2 A3 : Option Addr) (n1 c1 n2 c2 n3 c3 : Nat) (r : QRule) (w : World) (h : SlB 8 96 qFromR w (.slice A1 n1 c1) r.froms) :
    Calls Try.prog 82 #[.agg #[.string r.head, .int .i64 r.schema, .slice A1 n1 c1, .slice A2 n2 c2, .slice A3 n3 c3]] w (RetStrs (fromNames r) w) := by
  have hlen := h.1.len
  have hbd : n1 * 96 ≤ 140737488355328 := by rw [hlen]; exact h.2
  have hle := h.1.le
  have HNL := Lib.hid (show (fromNames r).length = n1 by rw [hlen]; simp [fromNames])
  have HS := Lib.hid h.1
  clear h hlen
  obtain ⟨i0, hi, hz0, hz1, hz2⟩ := info_parts Try.infoStr
  have I0 := Lib.hid hi
  have Z0 := Lib.hid (And.intro hz0 (And.intro hz1 hz2))
  clear hi hz0 hz1 hz2
  go_enter Try.func82, Try.ntmps82
  go_upto_region 2 with fail
  have hst := NL.start w 56 #[.string r.head, .int .i64 r.schema, .slice A1 n1 c1, .slice A2 n2 c2, .slice A3 n3 c3] (fromNames r)
  obtain ⟨g, hg⟩ : ∃ g, g = w.heap.size := ⟨_, rfl⟩
  have ecs : (w.alloc (.cells #[.string r.head, .int .i64 r.schema, .slice A1 n1 c1, .slice A2 n2 c2, .slice A3 n3 c3] 56)).heap.size = w.heap.size + 1 := by simp
  generalize (w.alloc (.cells #[.string r.head, .int .i64 r.schema, .slice A1 n1 c1, .slice A2 n2 c2, .slice A3 n3 c3] 56)).alloc (.cells #[] 9) = wb at hst ⊢
  have HST := Lib.hid hst
  clear hst ecs hg
  go_wp2_with fail
  go_loopg [3, 4] n1 (fun q l i wr => ∃ (k : Nat) (A : Option Addr) (m c : Nat), k ≤ n1 ∧ q = n1 - k ∧ l = .slice A m c ∧ i = .int .i64 k ∧ NL w 56 #[.string r.head, .int .i64 r.schema, .slice A1 n1 c1, .slice A2 n2 c2, .slice A3 n3 c3] (fromNames r) k A m c wr)
  case atStart => exact ⟨0, _, _, _, Nat.zero_le _, rfl, rfl, rfl, HST.out⟩
  case round =>
    clear HST
    obtain ⟨k, vA, vm, vc, hk, hq, rfl, rfl, hnl⟩ := hrel
    have HQ := Lib.hid hq
    have kc := hnl.bs.cell 2
    simp only [List.getElem?_toArray, List.getElem?_cons_zero, List.getElem?_cons_succ] at kc
    have lb := hnl.bs.lt
    have HN := Lib.hid hnl
    clear hq hnl
    by_cases hlt : k < n1
    · obtain ⟨b, off, x, rfl, hbl, hx, e0, e1, e2, e3, e4, e5, e6, e7⟩ := qFrom_at (HS.out.mono qFromR_mono HN.out.old) hlt
      have HX : Hid ((fromNames r)[k]? = some x.name) := Lib.hid (by unfold fromNames; rw [List.getElem?_map, hx]; rfl)
      clear hx
      have hkn : (k : Int) < (n1 : Int) := by omega
      have hk0 : (0 : Int) ≤ (k : Int) := by omega
      have HO := Lib.hid HN.out.row
      go_wp2_with (at_builtin; refine wpList_append_own_at _ rfl (.tmp 13) (.tmp 20) 22 rfl (w.heap.size + 1) 9 i0 _ 1 16 Try.underlying22 I0.out Z0.out.1 Z0.out.2.1 Z0.out.2.2 rfl (by decide) (.slice vA vm vc) k _ rfl (HO.out.alloc _) ⟨wr.heap.size, 0, none⟩ 1 1 [.string x.name] rfl rfl (cell_one_new _ _ _) (by simp [Value.oneCell']) (by unfold maxLen; omega) (by omega) (by have := HN.out.bs.lt; simp; omega) ?_; intro v' W9 hown' hgrow hnil hat; obtain ⟨vA', vm', vc', rfl, hn9⟩ := HN.out.next HX.out hown' hgrow; have HN9 := Lib.hid hn9; clear hown' hgrow hnil hat hn9)
      go_roundg (n1 - (k + 1))
      case measure => have := HQ.out; omega
      case rel => exact ⟨k + 1, _, _, _, by omega, rfl, rfl, by go_num, HN9.out⟩
    · have hkn : ¬ (k : Int) < (n1 : Int) := by omega
      have HR := Lib.hid (HN.out.done (by have := HNL.out; omega) (by have := HNL.out; omega))
      go_wp2_with fail
      go_ret
      exact HR.out

end Go.Proofs.Ytkkkephjljiplaa

namespace Go.Proofs.Ytkkkephjljiplaa
open Go.RowKit

set_option maxHeartbeats 2000000 in
set_option maxRecDepth 100000 in
theorem refFields_any (A1 A2 A3 A4 A5 A6 : Option Addr) (n1 c1 n2 c2 n3 c3 n4 c4 n5 c5 n6 c6 : Nat) (s : QSource) (a : Int) (w : World) (h : SlR 6 qSchemaR w (.slice A3 n3 c3) s.schemas) :
    Calls Try.prog 61 #[.agg #[.slice A1 n1 c1, .slice A2 n2 c2, .slice A3 n3 c3, .slice A4 n4 c4, .slice A5 n5 c5, .slice A6 n6 c6], .int .i64 a] w (RetStrs (fieldNo s a) w) := by
  have hlen := h.len
  have hle := h.le
  have HL := Lib.hid hlen
  have HS := Lib.hid h
  clear h hlen
  obtain ⟨i0, hi, hz0, hz1, hz2⟩ := info_parts Try.infoStr
  have I0 := Lib.hid hi
  have Z0 := Lib.hid (And.intro hz0 (And.intro hz1 hz2))
  clear hi hz0 hz1 hz2
  by_cases h0 : 0 ≤ a
  · obtain ⟨i, rfl⟩ : ∃ i : Nat, a = (i : Int) := ⟨a.toNat, by omega⟩
    by_cases hin : i < n3
    · obtain ⟨y, hy⟩ : ∃ y, s.schemas[i]? = some y := ⟨s.schemas[i]'(by have := HL.out; omega), List.getElem?_eq_getElem _⟩
      have e : fieldNo s (i : Int) = fieldNames y := by unfold fieldNo; rw [if_pos h0, Int.toNat_natCast, hy]; rfl
      rw [e]
      have d0 : decide ((i : Int) < 0) = false := by simp
      have d1 : decide (n3 ≤ i) = false := by simp; omega
      have d2 : decide ((n3 : Int) ≤ (i : Int)) = false := by simp; omega
      have hi1 : (i : Int) < (n3 : Int) := by omega
      have HY := Lib.hid hy
      obtain ⟨b, off, y', B1, m1, e1, B2, m2, e2, rfl, hbl, hy', s0, s1, s2, s3, s4, s5, hfl, -⟩ := qSchema_at HS.out hin
      obtain rfl : y = y' := by rw [hy] at hy'; exact Option.some.inj hy'
      have HF := Lib.hid hfl.1
      have HM := Lib.hid hfl.1.len
      have mle := hfl.1.le
      have mbd : m1 * 120 ≤ 140737488355328 := by rw [hfl.1.len]; exact hfl.2
      have HC := Lib.hid s4
      clear e hy hy' hfl s0 s1 s2 s3 s4 s5
      go_enter Try.func61, Try.ntmps61
      go_upto_region 2 with fail
      have hst := NL.start w 29 #[.slice A1 n1 c1, .slice A2 n2 c2, .slice (some ⟨b, off, none⟩) n3 c3, .slice A4 n4 c4, .slice A5 n5 c5, .slice A6 n6 c6] (fieldNames y)
      generalize (w.alloc (.cells #[.slice A1 n1 c1, .slice A2 n2 c2, .slice (some ⟨b, off, none⟩) n3 c3, .slice A4 n4 c4, .slice A5 n5 c5, .slice A6 n6 c6] 29)).alloc (.cells #[] 9) = wb at hst ⊢
      have kc := hst.bs.cell 2
      simp only [List.getElem?_toArray, List.getElem?_cons_zero, List.getElem?_cons_succ] at kc
      have lb := hst.bs.lt
      have HST := Lib.hid hst
      clear hst
      have s4 := (HST.out.old.cell (p := ⟨b, off + i * 6 + 4, none⟩) hbl).trans HC.out
      have lb2 := Nat.lt_of_lt_of_le hbl HST.out.old.size
      go_wp2_with fail
      clear kc lb s4 lb2
      go_loopg [5, 6] m1 (fun q l i wr => ∃ (k : Nat) (A : Option Addr) (m c : Nat), k ≤ m1 ∧ q = m1 - k ∧ l = .slice A m c ∧ i = .int .i64 k ∧ NL w 29 #[.slice A1 n1 c1, .slice A2 n2 c2, .slice (some ⟨b, off, none⟩) n3 c3, .slice A4 n4 c4, .slice A5 n5 c5, .slice A6 n6 c6] (fieldNames y) k A m c wr)
      case atStart => exact ⟨0, _, _, _, Nat.zero_le _, rfl, rfl, rfl, HST.out⟩
      case round =>
        clear HST
        obtain ⟨k, vA, vm, vc, hk, hq, rfl, rfl, hnl⟩ := hrel
        have HQ := Lib.hid hq
        have kc := hnl.bs.cell 2
        simp only [List.getElem?_toArray, List.getElem?_cons_zero, List.getElem?_cons_succ] at kc
        have lb := hnl.bs.lt
        have HN := Lib.hid hnl
        have s4 := (hnl.old.cell (p := ⟨b, off + i * 6 + 4, none⟩) hbl).trans HC.out
        have lb2 := Nat.lt_of_lt_of_le hbl hnl.old.size
        clear hq hnl
        by_cases hlt : k < m1
        · obtain ⟨fb, fo, x, _, _, _, rfl, hfb, hx, e0, e1', e2', e3', e4', e5', e6', e7', e8', e9', e10', -⟩ := qField_at (HF.out.mono qFieldR_mono HN.out.old) hlt
          have HX : Hid ((fieldNames y)[k]? = some x.name) := Lib.hid (by unfold fieldNames; rw [List.getElem?_map, hx]; rfl)
          clear hx e1' e2' e3' e4' e5' e6' e7' e8' e9' e10'
          have hkn : (k : Int) < (m1 : Int) := by omega
          have hk0 : (0 : Int) ≤ (k : Int) := by omega
          have HO := Lib.hid HN.out.row
          go_wp2_with (at_builtin; refine wpList_append_own_at _ rfl (.tmp 29) (.tmp 40) 22 rfl (w.heap.size + 1) 9 i0 _ 1 16 Try.underlying22 I0.out Z0.out.1 Z0.out.2.1 Z0.out.2.2 rfl (by decide) (.slice vA vm vc) k _ rfl (HO.out.alloc _) ⟨wr.heap.size, 0, none⟩ 1 1 [.string x.name] rfl rfl (cell_one_new _ _ _) (by simp [Value.oneCell']) (by unfold maxLen; omega) (by omega) (by have := HN.out.bs.lt; simp; omega) ?_; intro v' W9 hown' hgrow hnil hat; obtain ⟨vA', vm', vc', rfl, hn9⟩ := HN.out.next HX.out hown' hgrow; have HN9 := Lib.hid hn9; clear hown' hgrow hnil hat hn9)
          go_roundg (m1 - (k + 1))
          case measure => have := HQ.out; omega
          case rel => exact ⟨k + 1, _, _, _, by omega, rfl, rfl, by go_num, HN9.out⟩
        · have hkn : ¬ (k : Int) < (m1 : Int) := by omega
          have HR := Lib.hid (HN.out.done (by have := HM.out; unfold fieldNames; simp; omega) (by have := HM.out; unfold fieldNames; simp; omega))
          go_wp2_with fail
          go_ret
          exact HR.out
    · have e : fieldNo s (i : Int) = [] := by unfold fieldNo; rw [if_pos h0, Int.toNat_natCast, List.getElem?_eq_none (by have := HL.out; omega)]
      rw [e]
      have d0 : decide ((i : Int) < 0) = false := by simp
      have d1 : decide (n3 ≤ i) = true := by simp; omega
      have d2 : decide ((n3 : Int) ≤ (i : Int)) = true := by simp; omega
      clear e
      go_enter Try.func61, Try.ntmps61
      go_upto_region 2 with fail
      have hst := NL.start w 29 #[.slice A1 n1 c1, .slice A2 n2 c2, .slice A3 n3 c3, .slice A4 n4 c4, .slice A5 n5 c5, .slice A6 n6 c6] ([])
      generalize (w.alloc (.cells #[.slice A1 n1 c1, .slice A2 n2 c2, .slice A3 n3 c3, .slice A4 n4 c4, .slice A5 n5 c5, .slice A6 n6 c6] 29)).alloc (.cells #[] 9) = wb at hst ⊢
      have kc := hst.bs.cell 2
      simp only [List.getElem?_toArray, List.getElem?_cons_zero, List.getElem?_cons_succ] at kc
      have lb := hst.bs.lt
      have HST := Lib.hid hst
      clear hst
      have HR := Lib.hid (HST.out.done rfl (by simp))
      go_wp2_with fail
      go_ret
      exact HR.out
  · have e : fieldNo s a = [] := by unfold fieldNo; rw [if_neg h0]
    rw [e]
    have d0 : decide (a < 0) = true := by simp; omega
    clear e
    go_enter Try.func61, Try.ntmps61
    go_upto_region 2 with fail
    have hst := NL.start w 29 #[.slice A1 n1 c1, .slice A2 n2 c2, .slice A3 n3 c3, .slice A4 n4 c4, .slice A5 n5 c5, .slice A6 n6 c6] ([])
    generalize (w.alloc (.cells #[.slice A1 n1 c1, .slice A2 n2 c2, .slice A3 n3 c3, .slice A4 n4 c4, .slice A5 n5 c5, .slice A6 n6 c6] 29)).alloc (.cells #[] 9) = wb at hst ⊢
    have kc := hst.bs.cell 2
    simp only [List.getElem?_toArray, List.getElem?_cons_zero, List.getElem?_cons_succ] at kc
    have lb := hst.bs.lt
    have HST := Lib.hid hst
    clear hst
    have HR := Lib.hid (HST.out.done rfl (by simp))
    go_wp2_with fail
    go_ret
    exact HR.out

set_option maxHeartbeats 1000000 in
set_option maxRecDepth 100000 in
theorem refSchema_any (A1 A2 A3 A4 A5 A6 : Option Addr) (n1 c1 n2 c2 n3 c3 n4 c4 n5 c5 n6 c6 : Nat) (s : QSource) (nm : ByteArray) (w : World) (h : SlB 6 96 qSchemaR w (.slice A3 n3 c3) s.schemas) :
    Calls Try.prog 20 #[.agg #[.slice A1 n1 c1, .slice A2 n2 c2, .slice A3 n3 c3, .slice A4 n4 c4, .slice A5 n5 c5, .slice A6 n6 c6], .string nm] w fun e w' => e = .returned (.tuple #[.int .i64 (firstI (schemaNames s) nm), .bool (firstB (schemaNames s) nm)]) ∧ Below w.heap.size w w' := by
  have H := Lib.hid h
  clear h
  go_enter Try.func20, Try.ntmps20
  go_upto_region 1 with fail
  have hk : Blk (w.alloc (.cells #[.slice A1 n1 c1, .slice A2 n2 c2, .slice A3 n3 c3, .slice A4 n4 c4, .slice A5 n5 c5, .slice A6 n6 c6] 29)) w.heap.size 29 #[.slice A1 n1 c1, .slice A2 n2 c2, .slice A3 n3 c3, .slice A4 n4 c4, .slice A5 n5 c5, .slice A6 n6 c6] := Blk.new _ _ _
  have hb : Below w.heap.size w (w.alloc (.cells #[.slice A1 n1 c1, .slice A2 n2 c2, .slice A3 n3 c3, .slice A4 n4 c4, .slice A5 n5 c5, .slice A6 n6 c6] 29)) := (Below.refl _ _).alloc (Nat.le_refl _) _
  obtain ⟨g, hg⟩ : ∃ g, g = w.heap.size := ⟨_, rfl⟩
  rw [← hg] at hk ⊢
  generalize w.alloc (.cells #[.slice A1 n1 c1, .slice A2 n2 c2, .slice A3 n3 c3, .slice A4 n4 c4, .slice A5 n5 c5, .slice A6 n6 c6] 29) = wb at hk hb ⊢
  have k0 := hk.cell 0
  have k1 := hk.cell 1
  have k2 := hk.cell 2
  have k3 := hk.cell 3
  have k4 := hk.cell 4
  have k5 := hk.cell 5
  have lk := hk.lt
  simp only [List.getElem?_toArray, List.getElem?_cons_zero, List.getElem?_cons_succ] at k0 k1 k2 k3 k4 k5
  have HB := Lib.hid hb
  clear hk hb hg
  go_wp2_with fail
  refine (refSchemas_any A1 A2 A3 A4 A5 A6 n1 c1 n2 c2 n3 c3 n4 c4 n5 c5 n6 c6 s wb (H.out.mono qSchemaR_mono HB.out)).mono ?_
  rintro e w1 ⟨A, c, rfl, hs1, hb1⟩
  have HB1 := Lib.hid (HB.out.trans (hb1.mono HB.out.size))
  have HS1 := Lib.hid hs1
  clear hb1 hs1 k0 k1 k2 k3 k4 k5 lk
  go_wp2_with fail
  refine (refFind_any _ _ _ (schemaNames s) nm w1 HS1.out.1).mono ?_
  rintro e w2 ⟨rfl, rfl⟩
  go_wp2_with fail
  refine (found_any (schemaNames s) nm _).mono ?_
  rintro e w3 ⟨rfl, rfl⟩
  go_wp2_with fail
  go_ret2
  exact ⟨rfl, HB1.out⟩

set_option maxHeartbeats 1000000 in
set_option maxRecDepth 100000 in
theorem refPurpose_any (A1 A2 A3 A4 A5 A6 : Option Addr) (n1 c1 n2 c2 n3 c3 n4 c4 n5 c5 n6 c6 : Nat) (s : QSource) (nm : ByteArray) (w : World) (h : SlB 3 48 qPurposeR w (.slice A6 n6 c6) s.purposes) :
    Calls Try.prog 22 #[.agg #[.slice A1 n1 c1, .slice A2 n2 c2, .slice A3 n3 c3, .slice A4 n4 c4, .slice A5 n5 c5, .slice A6 n6 c6], .string nm] w fun e w' => e = .returned (.tuple #[.int .i64 (firstI (purposeNames s) nm), .bool (firstB (purposeNames s) nm)]) ∧ Below w.heap.size w w' := by
  have H := Lib.hid h
  clear h
  go_enter Try.func22, Try.ntmps22
  go_upto_region 1 with fail
  have hk : Blk (w.alloc (.cells #[.slice A1 n1 c1, .slice A2 n2 c2, .slice A3 n3 c3, .slice A4 n4 c4, .slice A5 n5 c5, .slice A6 n6 c6] 29)) w.heap.size 29 #[.slice A1 n1 c1, .slice A2 n2 c2, .slice A3 n3 c3, .slice A4 n4 c4, .slice A5 n5 c5, .slice A6 n6 c6] := Blk.new _ _ _
  have hb : Below w.heap.size w (w.alloc (.cells #[.slice A1 n1 c1, .slice A2 n2 c2, .slice A3 n3 c3, .slice A4 n4 c4, .slice A5 n5 c5, .slice A6 n6 c6] 29)) := (Below.refl _ _).alloc (Nat.le_refl _) _
  obtain ⟨g, hg⟩ : ∃ g, g = w.heap.size := ⟨_, rfl⟩
  rw [← hg] at hk ⊢
  generalize w.alloc (.cells #[.slice A1 n1 c1, .slice A2 n2 c2, .slice A3 n3 c3, .slice A4 n4 c4, .slice A5 n5 c5, .slice A6 n6 c6] 29) = wb at hk hb ⊢
  have k0 := hk.cell 0
  have k1 := hk.cell 1
  have k2 := hk.cell 2
  have k3 := hk.cell 3
  have k4 := hk.cell 4
  have k5 := hk.cell 5
  have lk := hk.lt
  simp only [List.getElem?_toArray, List.getElem?_cons_zero, List.getElem?_cons_succ] at k0 k1 k2 k3 k4 k5
  have HB := Lib.hid hb
  clear hk hb hg
  go_wp2_with fail
  refine (refPurposes_any A1 A2 A3 A4 A5 A6 n1 c1 n2 c2 n3 c3 n4 c4 n5 c5 n6 c6 s wb (H.out.mono qPurposeR_mono HB.out)).mono ?_
  rintro e w1 ⟨A, c, rfl, hs1, hb1⟩
  have HB1 := Lib.hid (HB.out.trans (hb1.mono HB.out.size))
  have HS1 := Lib.hid hs1
  clear hb1 hs1 k0 k1 k2 k3 k4 k5 lk
  go_wp2_with fail
  refine (refFind_any _ _ _ (purposeNames s) nm w1 HS1.out.1).mono ?_
  rintro e w2 ⟨rfl, rfl⟩
  go_wp2_with fail
  refine (found_any (purposeNames s) nm _).mono ?_
  rintro e w3 ⟨rfl, rfl⟩
  go_wp2_with fail
  go_ret2
  exact ⟨rfl, HB1.out⟩

set_option maxHeartbeats 1000000 in
set_option maxRecDepth 100000 in
theorem refField_any (A1 A2 A3 A4 A5 A6 : Option Addr) (n1 c1 n2 c2 n3 c3 n4 c4 n5 c5 n6 c6 : Nat) (s : QSource) (a : Int) (nm : ByteArray) (w : World) (h : SlR 6 qSchemaR w (.slice A3 n3 c3) s.schemas) :
    Calls Try.prog 24 #[.agg #[.slice A1 n1 c1, .slice A2 n2 c2, .slice A3 n3 c3, .slice A4 n4 c4, .slice A5 n5 c5, .slice A6 n6 c6], .int .i64 a, .string nm] w fun e w' => e = .returned (.tuple #[.int .i64 (firstI (fieldNo s a) nm), .bool (firstB (fieldNo s a) nm)]) ∧ Below w.heap.size w w' := by
  have H := Lib.hid h
  clear h
  go_enter Try.func24, Try.ntmps24
  go_upto_region 1 with fail
  have hk : Blk (w.alloc (.cells #[.slice A1 n1 c1, .slice A2 n2 c2, .slice A3 n3 c3, .slice A4 n4 c4, .slice A5 n5 c5, .slice A6 n6 c6] 29)) w.heap.size 29 #[.slice A1 n1 c1, .slice A2 n2 c2, .slice A3 n3 c3, .slice A4 n4 c4, .slice A5 n5 c5, .slice A6 n6 c6] := Blk.new _ _ _
  have hb : Below w.heap.size w (w.alloc (.cells #[.slice A1 n1 c1, .slice A2 n2 c2, .slice A3 n3 c3, .slice A4 n4 c4, .slice A5 n5 c5, .slice A6 n6 c6] 29)) := (Below.refl _ _).alloc (Nat.le_refl _) _
  obtain ⟨g, hg⟩ : ∃ g, g = w.heap.size := ⟨_, rfl⟩
  rw [← hg] at hk ⊢
  generalize w.alloc (.cells #[.slice A1 n1 c1, .slice A2 n2 c2, .slice A3 n3 c3, .slice A4 n4 c4, .slice A5 n5 c5, .slice A6 n6 c6] 29) = wb at hk hb ⊢
  have k0 := hk.cell 0
  have k1 := hk.cell 1
  have k2 := hk.cell 2
  have k3 := hk.cell 3
  have k4 := hk.cell 4
  have k5 := hk.cell 5
  have lk := hk.lt
  simp only [List.getElem?_toArray, List.getElem?_cons_zero, List.getElem?_cons_succ] at k0 k1 k2 k3 k4 k5
  have HB := Lib.hid hb
  clear hk hb hg
  go_wp2_with fail
  refine (refFields_any A1 A2 A3 A4 A5 A6 n1 c1 n2 c2 n3 c3 n4 c4 n5 c5 n6 c6 s a wb (H.out.mono qSchemaR_mono HB.out)).mono ?_
  rintro e w1 ⟨A, c, rfl, hs1, hb1⟩
  have HB1 := Lib.hid (HB.out.trans (hb1.mono HB.out.size))
  have HS1 := Lib.hid hs1
  clear hb1 hs1 k0 k1 k2 k3 k4 k5 lk
  go_wp2_with fail
  refine (refFind_any _ _ _ (fieldNo s a) nm w1 HS1.out.1).mono ?_
  rintro e w2 ⟨rfl, rfl⟩
  go_wp2_with fail
  refine (found_any (fieldNo s a) nm _).mono ?_
  rintro e w3 ⟨rfl, rfl⟩
  go_wp2_with fail
  go_ret2
  exact ⟨rfl, HB1.out⟩

end Go.Proofs.Ytkkkephjljiplaa

namespace Go.Proofs.Ytkkkephjljiplaa
open Go.RowKit

theorem idx_take_some {l : List ByteArray} {x : ByteArray} {k j : Nat} (h : idx (l.take k) x = some j) : idx l x = some j ∧ j < k := by
  unfold idx at h ⊢
  rw [List.findIdx?_eq_some_iff_getElem] at h ⊢
  obtain ⟨h1, h2, h3⟩ := h
  rw [List.length_take] at h1
  refine ⟨⟨by omega, by simpa using h2, fun i hi => by simpa using h3 i hi⟩, by omega⟩
theorem idx_first {l : List ByteArray} {k : Nat} {x : ByteArray} (hx : l[k]? = some x) : (idxO l x = (k : Int) ∧ x ∉ l.take k) ∨ (idxO l x ≠ (k : Int) ∧ x ∈ l.take k) := by
  cases h : idx (l.take k) x with
  | none =>
    left
    exact ⟨by unfold idxO; rw [idx_hit h hx rfl], idx_none.1 h⟩
  | some j =>
    right
    obtain ⟨h1, h2⟩ := idx_take_some h
    refine ⟨by unfold idxO; rw [h1]; show (j : Int) ≠ k; omega, ?_⟩
    refine Classical.byContradiction fun hd => ?_
    rw [idx_none.2 hd] at h
    cases h
theorem nodup_take {l : List ByteArray} {k : Nat} {x : ByteArray} (hx : l[k]? = some x) (h : (l.take k).Nodup) (hn : x ∉ l.take k) : (l.take (k + 1)).Nodup := by
  rw [take_snoc hx, List.nodup_append]
  exact ⟨h, by simp, fun a ha b hb e => hn (by rw [List.mem_singleton.1 hb] at e; rw [← e]; exact ha)⟩
theorem twice_take {l : List ByteArray} {k : Nat} {x : ByteArray} (hx : l[k]? = some x) (hn : x ∈ l.take k) : twiceB l = true := by
  cases h : twiceB l with
  | true => rfl
  | false =>
    exfalso
    rw [twiceB_iff] at h
    have h2 : (l.take (k + 1)).Nodup := h.sublist (List.take_sublist _ _)
    rw [take_snoc hx, List.nodup_append] at h2
    exact h2.2.2 x hn x (by simp) rfl

set_option maxHeartbeats 1000000 in
theorem refTwice_any (A : Option Addr) (n c : Nat) (l : List ByteArray) (w : World) (hs : SlR 1 strR w (.slice A n c) l) :
    Calls Try.prog 80 #[.slice A n c] w fun e w' => e = .returned (.bool (twiceB l)) ∧ w = w' := by
  have hn2 : n ≤ 9223372036854775807 := by have := hs.le; omega
  have HL := Lib.hid hs.len
  have HS := Lib.hid hs
  clear hs
  go_enter Try.func80, Try.ntmps80
  go_wp2_with fail
  go_loopg [3] n (fun g i wr => ∃ k : Nat, k ≤ n ∧ g = n - k ∧ i = .int .i64 k ∧ (l.take k).Nodup ∧ w = wr)
  case atStart => exact ⟨0, Nat.zero_le _, rfl, rfl, by simp, rfl⟩
  case round =>
    obtain ⟨k, hk, hg, rfl, hno, rfl⟩ := hrel
    have HG := Lib.hid hg
    have HNO := Lib.hid hno
    clear hg hno
    by_cases hlt : k < n
    · obtain ⟨b, off, x, rfl, hbl, hx, e0⟩ := str_at HS.out hlt
      have HX := Lib.hid hx
      have hkn : (k : Int) < (n : Int) := by omega
      have hk0 : (0 : Int) ≤ (k : Int) := by omega
      obtain ⟨v, hv⟩ : ∃ v, v = idxO l x := ⟨_, rfl⟩
      have hf := idx_first hx
      rw [← hv] at hf
      have HV := Lib.hid hv
      clear hx hv
      go_wp2_with fail
      refine (refFind_any (some ⟨b, off, none⟩) n c l x _ HS.out).mono ?_
      rintro e w' ⟨rfl, rfl⟩
      rw [← HV.out]
      rcases hf with ⟨hf, hm⟩ | ⟨hf, hm⟩
      · subst hf
        have HM := Lib.hid (nodup_take HX.out HNO.out hm)
        clear hm
        go_wp2_with fail
        go_roundg (n - (k + 1))
        case measure => have := HG.out; omega
        case rel => exact ⟨k + 1, by omega, rfl, by go_num, HM.out, rfl⟩
      · have HM := Lib.hid (twice_take HX.out hm)
        have te : (v == (k : Int)) = false := beq_eq_false_iff_ne.2 hf
        have tn : (v != (k : Int)) = true := by rw [bne_iff_ne]; exact hf
        clear hm
        go_wp2_with fail
        go_ret
        exact ⟨by rw [HM.out]; rfl, rfl⟩
    · have hkn : ¬ (k : Int) < (n : Int) := by omega
      have HM : Hid (twiceB l = false) := Lib.hid (by
        rw [twiceB_iff]
        have := HNO.out
        rwa [List.take_of_length_le (by have := HL.out; omega)] at this)
      go_wp2_with fail
      go_ret
      exact ⟨by rw [HM.out]; rfl, rfl⟩

end Go.Proofs.Ytkkkephjljiplaa

namespace Go.Proofs.Ytkkkephjljiplaa
open Go.ChangeShapes Go.WideShapes Go.ChangeAt Go.RowKit Go.Deep

section
variable {H : Type}
theorem bulk_part {d : DataW H} {l : List (DataW H)} (h : d ∈ l) : Rows.uptoBulk d ≤ Rows.uptoBulkAll l := by
  induction l with
  | nil => cases h
  | cons x r ih =>
    simp only [Rows.uptoBulkAll]
    cases List.mem_cons.1 h with
    | inl e => subst e; omega
    | inr e => have := ih e; omega
theorem bulk_append (l r : List (DataW H)) : Rows.uptoBulkAll (l ++ r) = Rows.uptoBulkAll l + Rows.uptoBulkAll r := by
  induction l with
  | nil => simp [Rows.uptoBulkAll]
  | cons x l ih => simp only [List.cons_append, Rows.uptoBulkAll, ih]; omega
theorem bulk_sum {α : Type} (M : α → Nat) (D : Nat → DataW H) (l : List α) (h : ∀ i x, l[i]? = some x → M x ≤ Rows.uptoBulk (D i)) : ∀ k, k ≤ l.length → ((l.take k).map M).sum ≤ Rows.uptoBulkAll ((List.range k).map D)
  | 0, _ => by simp
  | k + 1, hk => by
    have ih := bulk_sum M D l h k (by omega)
    have hx : l[k]? = some l[k] := List.getElem?_eq_getElem hk
    rw [take_snoc hx, List.range_succ, List.map_append, List.map_append, List.sum_append, bulk_append]
    have := h k _ hx
    simp only [List.map_cons, List.map_nil, List.sum_cons, List.sum_nil, Rows.uptoBulkAll]
    omega
end

section
variable {H : Type} {enc : TypeId × Value → H} {P : Program} {w : World} {base : Nat} {hd : Bool}

/-- A slice that reads as a list is of at least the bulk of its elements. -/
theorem bulk_slice {α : Type} {sz : Nat} {R : World → List Value → α → Prop} {t e : TypeId} {fuel : Nat} {v : Value} {x : DataW H × List MemPlace} {l : List α} (M : α → Nat) (ht : P.underlying t = some (.slice e)) (hC : P.cellsOf e = sz) (_hz : 0 < sz)
    (h : DataW.trod enc P w base (fun _ => true) hd fuel t [v] = some x) (hs : SlR sz R w v l)
    (hR : ∀ (n : Nat) (cs : List Value) (a : α) (y : DataW H × List MemPlace), R w cs a → DataW.trod enc P w base (fun _ => true) hd n e cs = some y → M a ≤ Rows.uptoBulk y.1) :
    (l.map M).sum ≤ Rows.uptoBulk x.1 := by
  obtain ⟨A, cap', hv, hlc, hcm, hat⟩ := hs
  rcases open_slice ht h with ⟨hcs, _⟩ | ⟨a, len, cap, m, n, D, Pl, hcs, hb, hl, hm, hmm, hx, hi⟩
  · injection hcs with hcs
    rw [hv] at hcs
    injection hcs with _ hcs
    have : l = [] := List.eq_nil_of_length_eq_zero hcs
    subst this
    simp
  · injection hcs with hcs
    rw [hv] at hcs
    injection hcs with e1 e2 e3
    subst e2
    have hmc : m = cap := by rw [hmm]; simp
    subst hmc
    rw [hC] at hi
    subst hx
    have key := bulk_sum M D l (fun i y hy => by
      have hil := (List.getElem?_eq_some_iff.1 hy).1
      obtain ⟨b, off, cs, hA, hlt, hlen, hc, hr⟩ := hat i y hy
      obtain ⟨cs', k1, k2⟩ := hi i (by omega)
      obtain ⟨_, k3, k4⟩ := World.cells?_some k1
      have ea : a = ⟨b, off, none⟩ := by rw [e1] at hA; exact Option.some.inj hA
      subst ea
      have : cs' = cs := by
        apply List.ext_getElem?
        intro j
        rcases Nat.lt_or_ge j sz with hj | hj
        · have h4 := k4 j hj
          rw [addr_plus, addr_plus, Nat.add_assoc] at h4
          rw [← h4, hc j cs[j] (List.getElem?_eq_getElem (by omega)), List.getElem?_eq_getElem (by omega)]
        · rw [List.getElem?_eq_none (by omega), List.getElem?_eq_none (by omega)]
      subst this
      exact hR n cs' y (D i, Pl i) hr k2) l.length (Nat.le_refl _)
    rw [List.take_length] at key
    simp only [Rows.uptoBulk]
    omega

/-- The parts of a struct, with their bulk. -/
theorem bulk_struct {t : TypeId} {fs : Array Field} {fuel : Nat} {cs : List Value} {x : DataW H × List MemPlace} {sp : Nat → Bool} (ht : P.underlying t = some (.struct fs)) (ks : List Nat) (hks : fs.toList.map (fun f => P.cellsOf f.type) = ks)
    (h : DataW.trod enc P w base sp hd fuel t cs = some x) :
    ∃ (xs : List (DataW H × List MemPlace)) (n : Nat), Rows.uptoBulk x.1 = Rows.uptoBulkAll (xs.map (·.1)) + 1 ∧ xs.length = fs.size ∧ ∀ (i : Nat) (f : Field) (c : Nat), fs[i]? = some f → ks[i]? = some c → ∃ y, xs[i]? = some y ∧ DataW.trod enc P w base sp hd n f.type ((cs.drop f.offset).take c) = some y := by
  obtain ⟨xs, n, _, hx, hl, hxl, hf⟩ := DataW.trod_struct ht h
  refine ⟨xs, n, by rw [hx]; simp only [Rows.uptoBulk], hxl, fun i f c hi hc => ?_⟩
  have hcc : c = P.cellsOf f.type := by
    rw [← hks, List.getElem?_map] at hc
    have h2 : fs.toList[i]? = some f := by simpa using hi
    rw [h2, Option.map_some, Option.some.injEq] at hc
    exact hc.symm
  subst hcc
  have hlt : i < fs.size := (Array.getElem?_eq_some_iff.1 hi).1
  have h1 := hf i f hi
  rw [List.getElem?_eq_getElem (by omega)] at h1
  exact ⟨_, List.getElem?_eq_getElem (by omega), h1⟩

/-- A string's letters, and itself. -/
def strM (b : ByteArray) : Nat := b.size + 1
theorem bulk_str {n : Nat} {s : ByteArray} {y : DataW H × List MemPlace} (h : DataW.trod enc Try.prog w base (fun _ => true) hd n 9 [.string s] = some y) : Rows.uptoBulk y.1 = strM s := by
  obtain ⟨s', e, rfl, _⟩ := DataW.trod_string Try.underlying9 h
  injection e with e
  injection e with e
  subst e
  simp only [Rows.uptoBulk]
  rfl
def unitM (u : QUnit) : Nat := strM u.name
def fieldM (f : QField) : Nat := strM f.name
def schemaM (y : QSchema) : Nat := strM y.name + (y.fields.map fieldM).sum
def purposeM (p : QPurpose) : Nat := strM p.name
def sourceM (s : QSource) : Nat := (s.issuers.map strM).sum + (s.units.map unitM).sum + (s.schemas.map schemaM).sum + (s.purposes.map purposeM).sum

theorem bulk_unit {n : Nat} {cs : List Value} {u : QUnit} {y : DataW H × List MemPlace} (hr : qUnitR w cs u) (h : DataW.trod enc Try.prog w base (fun _ => true) hd n 47 cs = some y) : unitM u ≤ Rows.uptoBulk y.1 := by
  obtain ⟨xs, m, hb, _, hf⟩ := bulk_struct Try.underlying47 [1, 1, 1, 1, 1] (by kernel_rfl) h
  have hr' : cs = _ := hr
  subst hr'
  obtain ⟨y0, h0, k0⟩ := hf 0 _ 1 rfl rfl
  have e0 := bulk_str (s := u.name) k0
  have := bulk_part (List.mem_map_of_mem (f := (·.1)) (List.mem_of_getElem? h0))
  unfold unitM
  omega
theorem bulk_field {n : Nat} {cs : List Value} {u : QField} {y : DataW H × List MemPlace} (hr : qFieldR w cs u) (h : DataW.trod enc Try.prog w base (fun _ => true) hd n 45 cs = some y) : fieldM u ≤ Rows.uptoBulk y.1 := by
  obtain ⟨xs, m, hb, _, hf⟩ := bulk_struct Try.underlying45 [1, 6, 4] (by kernel_rfl) h
  obtain ⟨A1, n1, c1, rfl, _⟩ := hr
  obtain ⟨y0, h0, k0⟩ := hf 0 _ 1 rfl rfl
  have e0 := bulk_str (s := u.name) k0
  have := bulk_part (List.mem_map_of_mem (f := (·.1)) (List.mem_of_getElem? h0))
  unfold fieldM
  omega
theorem bulk_purpose {n : Nat} {cs : List Value} {u : QPurpose} {y : DataW H × List MemPlace} (hr : qPurposeR w cs u) (h : DataW.trod enc Try.prog w base (fun _ => true) hd n 74 cs = some y) : purposeM u ≤ Rows.uptoBulk y.1 := by
  obtain ⟨xs, m, hb, _, hf⟩ := bulk_struct Try.underlying74 [1, 1, 1] (by kernel_rfl) h
  obtain ⟨A1, n1, c1, rfl, _⟩ := hr
  obtain ⟨y0, h0, k0⟩ := hf 0 _ 1 rfl rfl
  have e0 := bulk_str (s := u.name) k0
  have := bulk_part (List.mem_map_of_mem (f := (·.1)) (List.mem_of_getElem? h0))
  unfold purposeM
  omega
theorem bulk_schema {n : Nat} {cs : List Value} {u : QSchema} {y : DataW H × List MemPlace} (hr : qSchemaR w cs u) (h : DataW.trod enc Try.prog w base (fun _ => true) hd n 40 cs = some y) : schemaM u ≤ Rows.uptoBulk y.1 := by
  obtain ⟨xs, m, hb, hxl, hf⟩ := bulk_struct Try.underlying40 [1, 1, 1, 1, 1, 1] (by kernel_rfl) h
  obtain ⟨A1, n1, c1, A2, n2, c2, rfl, h1, _⟩ := hr
  obtain ⟨y0, h0, k0⟩ := hf 0 _ 1 rfl rfl
  have e0 := bulk_str (s := u.name) k0
  obtain ⟨y4, h4, k4⟩ := hf 4 _ 1 rfl rfl
  have e4 := bulk_slice fieldM Try.underlying37 (by kernel_rfl) (by omega) (v := .slice A1 n1 c1) k4 h1.1 (fun _ _ _ _ hr h => bulk_field hr h)
  match xs, h0, h4, hb with
  | [], h0, _, _ => simp at h0
  | x0 :: r, h0, h4, hb =>
    simp only [List.getElem?_cons_zero, Option.some.injEq] at h0
    subst h0
    rw [List.getElem?_cons_succ] at h4
    have := bulk_part (List.mem_map_of_mem (f := (·.1)) (List.mem_of_getElem? h4))
    simp only [List.map_cons, Rows.uptoBulkAll] at hb
    unfold schemaM
    omega
theorem bulk_source {n : Nat} {cs : List Value} {u : QSource} {y : DataW H × List MemPlace} (hr : qSourceR w cs u) (h : DataW.trod enc Try.prog w base (fun _ => true) hd n 29 cs = some y) : sourceM u ≤ Rows.uptoBulk y.1 := by
  obtain ⟨xs, m, hb, hxl, hf⟩ := bulk_struct Try.underlying29 [1, 1, 1, 1, 1, 1] (by kernel_rfl) h
  obtain ⟨A1, n1, c1, A2, n2, c2, A3, n3, c3, A4, n4, c4, A5, n5, c5, A6, n6, c6, rfl, h1, h2, h3, h4, h5, h6⟩ := hr
  obtain ⟨y0, g0, k0⟩ := hf 0 _ 1 rfl rfl
  have e0 := bulk_slice strM Try.underlying22 (by kernel_rfl) (by omega) (v := .slice A1 n1 c1) k0 h1.1 (fun _ _ _ _ hr h => by
    have hr' : _ = _ := hr
    subst hr'
    rw [bulk_str h]; exact Nat.le_refl _)
  obtain ⟨y1, g1, k1⟩ := hf 1 _ 1 rfl rfl
  have e1 := bulk_slice unitM Try.underlying23 (by kernel_rfl) (by omega) (v := .slice A2 n2 c2) k1 h2.1 (fun _ _ _ _ hr h => bulk_unit hr h)
  obtain ⟨y2, g2, k2⟩ := hf 2 _ 1 rfl rfl
  have e2 := bulk_slice schemaM Try.underlying24 (by kernel_rfl) (by omega) (v := .slice A3 n3 c3) k2 h3.1 (fun _ _ _ _ hr h => bulk_schema hr h)
  obtain ⟨y5, g5, k5⟩ := hf 5 _ 1 rfl rfl
  have e5 := bulk_slice purposeM Try.underlying27 (by kernel_rfl) (by omega) (v := .slice A6 n6 c6) k5 h6.1 (fun _ _ _ _ hr h => bulk_purpose hr h)
  match xs, g0, g1, g2, g5, hb with
  | [], g0, _, _, _, _ => simp at g0
  | [_], _, g1, _, _, _ => simp at g1
  | [_, _], _, _, g2, _, _ => simp at g2
  | x0 :: x1 :: x2 :: r, g0, g1, g2, g5, hb =>
    simp only [List.getElem?_cons_zero, List.getElem?_cons_succ, Option.some.injEq] at g0 g1 g2 g5
    subst g0 g1 g2
    have := bulk_part (List.mem_map_of_mem (f := (·.1)) (List.mem_of_getElem? g5))
    simp only [List.map_cons, Rows.uptoBulkAll] at hb
    unfold sourceM
    omega
theorem bulk_arg {n1 c1 n2 c2 n3 c3 n4 c4 n5 c5 n6 c6 : Nat} {A1 A2 A3 A4 A5 A6 : Option Addr} {u : QSource} {d : DataW H} {ps : List MemPlace} (h : DataW.Trod enc Try.prog w base (fun _ => true) hd 29 (.agg #[.slice A1 n1 c1, .slice A2 n2 c2, .slice A3 n3 c3, .slice A4 n4 c4, .slice A5 n5 c5, .slice A6 n6 c6]) d ps)
    (hr : qSourceR w [.slice A1 n1 c1, .slice A2 n2 c2, .slice A3 n3 c3, .slice A4 n4 c4, .slice A5 n5 c5, .slice A6 n6 c6] u) : sourceM u ≤ Rows.uptoBulk d := by
  obtain ⟨fuel, hf⟩ := h
  exact bulk_source (y := (d, ps)) hr hf
end

end Go.Proofs.Ytkkkephjljiplaa

namespace Go.Proofs.Ytkkkephjljiplaa
open Go.RowKit

def nStr : ByteArray := ⟨#[110]⟩
def addN (a x : ByteArray) : ByteArray := a ++ (x ++ nStr)
def longN (l : List ByteArray) : ByteArray := l.foldl addN nStr
theorem longN_snoc (l : List ByteArray) (x : ByteArray) : longN (l ++ [x]) = longN l ++ (x ++ nStr) := by
  unfold longN
  rw [List.foldl_append]
  rfl
theorem addN_size : ∀ (l : List ByteArray) (a : ByteArray), (l.foldl addN a).size = a.size + (l.map strM).sum
  | [], a => by simp
  | x :: r, a => by
    rw [List.foldl_cons, addN_size r, List.map_cons, List.sum_cons]
    unfold addN strM
    simp only [ByteArray.size_append]
    have : nStr.size = 1 := rfl
    omega
theorem longN_size (l : List ByteArray) : (longN l).size = 1 + (l.map strM).sum := addN_size l nStr
theorem longN_pre {l L : List ByteArray} (h : l <+: L) : (longN l).size ≤ (longN L).size := by
  obtain ⟨r, rfl⟩ := h
  rw [longN_size, longN_size, List.map_append, List.sum_append]
  omega
theorem mem_sum {l : List ByteArray} {x : ByteArray} (h : x ∈ l) : strM x ≤ (l.map strM).sum := by
  induction l with
  | nil => cases h
  | cons y r ih =>
    rw [List.map_cons, List.sum_cons]
    rcases List.mem_cons.1 h with rfl | h
    · omega
    · have := ih h; omega
theorem longN_not (l : List ByteArray) : longN l ∉ l := by
  intro h
  have h1 := mem_sum h
  have h2 := longN_size l
  have h3 : strM (longN l) = (longN l).size + 1 := rfl
  omega

/-- The names of the schemas up to one, each with its fields. -/
def schN (s : QSource) (k : Nat) : List ByteArray := (s.schemas.take k).flatMap (fun y => y.name :: fieldNames y)
theorem schN_succ {s : QSource} {k : Nat} {y : QSchema} (hy : s.schemas[k]? = some y) : schN s (k + 1) = schN s k ++ [y.name] ++ fieldNames y := by
  unfold schN
  rw [take_snoc hy, List.flatMap_append]
  simp
def missNames (s : QSource) : List ByteArray := s.issuers ++ unitNames s ++ schN s s.schemas.length ++ purposeNames s
def longP (s : QSource) : ByteArray := longN (missNames s)
theorem schN_pre {s : QSource} : ∀ (m k : Nat), k + m = s.schemas.length → schN s k <+: schN s s.schemas.length
  | 0, k, h => by rw [← h]; exact List.prefix_refl _
  | m + 1, k, h => by
    refine List.IsPrefix.trans ?_ (schN_pre m (k + 1) (by omega))
    rw [schN_succ (List.getElem?_eq_getElem (show k < s.schemas.length by omega)), List.append_assoc]
    exact List.prefix_append _ _
theorem sum_flat (l : List QSchema) : ((l.flatMap (fun y => y.name :: fieldNames y)).map strM).sum = (l.map schemaM).sum := by
  induction l with
  | nil => rfl
  | cons y r ih =>
    rw [List.flatMap_cons, List.map_append, List.sum_append, ih, List.map_cons, List.sum_cons, List.map_cons, List.sum_cons]
    unfold schemaM fieldNames
    rw [List.map_map]
    rfl
theorem longP_size (s : QSource) : (longP s).size = 1 + sourceM s := by
  unfold longP
  rw [longN_size]
  unfold missNames sourceM schN
  rw [List.take_length]
  simp only [List.map_append, List.sum_append, sum_flat]
  unfold unitNames purposeNames
  rw [List.map_map, List.map_map]
  have h1 : (strM ∘ fun x : QUnit => x.name) = unitM := rfl
  have h2 : (strM ∘ fun x : QPurpose => x.name) = purposeM := rfl
  rw [h1, h2, ← Nat.add_assoc, ← Nat.add_assoc]
  try omega

theorem long_pre {s : QSource} (hcnt : sourceM s ≤ 1048576) {l : List ByteArray} (h : l <+: missNames s) : (longN l).size ≤ 1048577 := by
  have := longN_pre h
  have h2 := longP_size s
  unfold longP at h2
  omega
theorem pre_iss {s : QSource} {k : Nat} : [] ++ s.issuers.take k <+: missNames s := by
  unfold missNames
  rw [List.nil_append, List.append_assoc, List.append_assoc]
  exact (List.take_prefix _ _).trans (List.prefix_append _ _)
theorem pre_unit {s : QSource} {k : Nat} : s.issuers ++ (unitNames s).take k <+: missNames s := by
  unfold missNames
  rw [List.append_assoc, List.append_assoc, List.prefix_append_right_inj]
  exact (List.take_prefix _ _).trans (List.prefix_append _ _)
theorem pre_sch {s : QSource} {k : Nat} {l : List ByteArray} (hk : k ≤ s.schemas.length) (h : l <+: schN s k) : s.issuers ++ unitNames s ++ l <+: missNames s := by
  unfold missNames
  rw [List.append_assoc (s.issuers ++ unitNames s), List.prefix_append_right_inj]
  exact h.trans ((schN_pre (s.schemas.length - k) k (by omega)).trans (List.prefix_append _ _))
theorem pre_name {s : QSource} {k : Nat} {y : QSchema} (hy : s.schemas[k]? = some y) : s.issuers ++ unitNames s ++ schN s k ++ [y.name] <+: missNames s := by
  rw [List.append_assoc (s.issuers ++ unitNames s)]
  refine pre_sch (k := k + 1) (List.getElem?_eq_some_iff.1 hy).1 ?_
  rw [schN_succ hy]
  exact List.prefix_append _ _
theorem pre_field {s : QSource} {k j : Nat} {y : QSchema} (hy : s.schemas[k]? = some y) : (s.issuers ++ unitNames s ++ schN s k ++ [y.name]) ++ (fieldNames y).take j <+: missNames s := by
  rw [List.append_assoc (s.issuers ++ unitNames s), List.append_assoc (s.issuers ++ unitNames s)]
  refine pre_sch (k := k + 1) (List.getElem?_eq_some_iff.1 hy).1 ?_
  rw [schN_succ hy, List.prefix_append_right_inj]
  exact List.take_prefix _ _
theorem pre_purp {s : QSource} {k : Nat} : (s.issuers ++ unitNames s ++ schN s s.schemas.length) ++ (purposeNames s).take k <+: missNames s := by
  unfold missNames
  rw [List.prefix_append_right_inj]
  exact List.take_prefix _ _
/-- One more name. -/
theorem long_at {B N : List ByteArray} {k : Nat} {x : ByteArray} (hx : N[k]? = some x) : longN (B ++ N.take (k + 1)) = longN (B ++ N.take k) ++ (x ++ nStr) := by
  rw [take_snoc hx, ← List.append_assoc, longN_snoc]
theorem long_ok {s : QSource} (hcnt : sourceM s ≤ 1048576) {B : List ByteArray} {x : ByteArray} (hp : B ++ [x] <+: missNames s) : x.size + (ByteArray.mk #[110]).size ≤ 9223372036854775807 ∧ (longN B).size + (x ++ ByteArray.mk #[110]).size ≤ 9223372036854775807 := by
  have h := long_pre hcnt hp
  rw [longN_snoc, ByteArray.size_append, ByteArray.size_append] at h
  rw [ByteArray.size_append]
  have h1 : nStr.size = 1 := rfl
  have h2 : (ByteArray.mk #[110]).size = 1 := rfl
  omega

/-- A name that is none of a source's. -/
structure NotIn (s : QSource) (L : ByteArray) : Prop where
  iss : L ∉ s.issuers
  unit : L ∉ unitNames s
  sch : L ∉ schemaNames s
  purp : L ∉ purposeNames s
  ne : L ≠ noStr
theorem long_notIn (s : QSource) : NotIn s (longP s) := by
  have h : longP s ∉ missNames s := longN_not _
  unfold missNames at h
  simp only [List.mem_append, not_or] at h
  refine ⟨h.1.1.1, h.1.1.2, fun hm => h.1.2 ?_, h.2, fun e => ?_⟩
  · unfold schN
    rw [List.take_length, List.mem_flatMap]
    unfold schemaNames at hm
    obtain ⟨y, hy, e⟩ := List.mem_map.1 hm
    exact ⟨y, hy, by rw [← e]; exact List.mem_cons_self⟩
  · have h2 := longP_size s
    rw [e] at h2
    have : noStr.size = 0 := rfl
    omega

section
variable {α β : Type} {f : α → Option β}
theorem allTo_fit {f : List β → α → Option β} (l : List α) (r : List α) : ∀ k, k ≤ l.length → allTo f (l ++ r) k = allTo f l k
  | 0, _ => rfl
  | k + 1, hk => by
    rw [allTo, allTo, allTo_fit l r k (by omega), List.getElem?_append_left (by omega)]
theorem allP_last {f : List β → α → Option β} {l : List α} {x : α} (h : ∀ out, f out x = none) : allP f (l ++ [x]) = none := by
  refine allP_none (k := l.length + 1) (by simp) ?_
  have hx : (l ++ [x])[l.length]? = some x := by simp
  cases ho : allTo f (l ++ [x]) l.length with
  | none => exact allTo_none ho 1
  | some out => exact allTo_no ho hx (h out)
end
theorem numP_none {s : QSource} (h : unitsP (unitNames s) s.units = none ∨ allP (fun _ => schemaP s) s.schemas = none ∨ allP (fun _ => ruleP s) s.rules = none ∨ allP (fun _ => convertP s) s.converts = none ∨ allP (fun _ => purposeP s) s.purposes = none) : numP s = none := by
  unfold numP
  rcases h with h | h | h | h | h <;> rw [h] <;> repeat (first | rfl | split)
theorem refuse_name {s : QSource} (ht : sourceTwice s = false) (hn : numP s = none) : resolveP s = (110, noSource) := by
  unfold resolveP
  rw [if_neg (by rw [ht]; simp), hn]

theorem twice_parts {s : QSource} (h : sourceTwice s = false) : twiceB s.issuers = false ∧ twiceB (unitNames s) = false ∧ twiceB (schemaNames s) = false ∧ twiceB (purposeNames s) = false ∧ s.schemas.any (fun x => twiceB (fieldNames x)) = false ∧ s.rules.any (fun x => twiceB (fromNames x)) = false := by
  unfold sourceTwice at h
  simpa only [Bool.or_eq_false_iff, and_assoc] using h
theorem twice_of {s : QSource} (h1 : twiceB s.issuers = false) (h2 : twiceB (unitNames s) = false) (h3 : twiceB (schemaNames s) = false) (h4 : twiceB (purposeNames s) = false) (h5 : s.schemas.any (fun x => twiceB (fieldNames x)) = false) (h6 : s.rules.any (fun x => twiceB (fromNames x)) = false) : sourceTwice s = false := by
  unfold sourceTwice
  rw [h1, h2, h3, h4, h5, h6]
  rfl
theorem twice_snoc {l : List ByteArray} {x : ByteArray} (h : twiceB l = false) (hx : x ∉ l) : twiceB (l ++ [x]) = false := by
  rw [twiceB_iff] at h ⊢
  rw [List.nodup_append]
  refine ⟨h, by simp, fun a ha b hb e => ?_⟩
  rw [List.mem_singleton.1 hb] at e
  exact hx (e ▸ ha)
theorem any_snoc {α : Type} {p : α → Bool} {l : List α} {x : α} (h : l.any p = false) (hx : p x = false) : (l ++ [x]).any p = false := by
  rw [List.any_append, h]
  simp [hx]

theorem miss0 {s : QSource} {L : ByteArray} (ht : sourceTwice s = false) (hn : NotIn s L) : resolveP { s with schemas := s.schemas ++ [⟨L, L, 0, 0, [], []⟩] } = (110, noSource) := by
  obtain ⟨h1, h2, h3, h4, h5, h6⟩ := twice_parts ht
  refine refuse_name (twice_of h1 h2 ?_ h4 (any_snoc h5 rfl) h6) (numP_none (.inr (.inl (allP_last fun _ => ?_))))
  · have e : schemaNames { s with schemas := s.schemas ++ [⟨L, L, 0, 0, [], []⟩] } = schemaNames s ++ [L] := by unfold schemaNames; rw [List.map_append]; rfl
    rw [e]
    exact twice_snoc h3 hn.sch
  · unfold schemaP
    rw [idx_none.2 hn.iss]
theorem miss1 {s : QSource} {L : ByteArray} (ht : sourceTwice s = false) (hn : NotIn s L) : resolveP { s with units := s.units ++ [⟨L, L, 2, 0, 0⟩] } = (110, noSource) := by
  obtain ⟨h1, h2, h3, h4, h5, h6⟩ := twice_parts ht
  have e : unitNames { s with units := s.units ++ [⟨L, L, 2, 0, 0⟩] } = unitNames s ++ [L] := by unfold unitNames; rw [List.map_append]; rfl
  refine refuse_name (twice_of h1 ?_ h3 h4 h5 h6) (numP_none (.inl ?_))
  · rw [e]
    exact twice_snoc h2 hn.unit
  · rw [e]
    refine unitsP_none (k := s.units.length + 1) (by simp) ?_
    cases ho : unitsTo (unitNames s ++ [L]) (s.units ++ [⟨L, L, 2, 0, 0⟩]) s.units.length with
    | none => exact unitsTo_none ho 1
    | some out =>
      have hl := unitsTo_len (by simp) ho
      rw [unitsTo_succ (u := ⟨L, L, 2, 0, 0⟩) ho (by simp)]
      unfold unitStep
      rw [if_neg hn.ne]
      have hi : idx (unitNames s ++ [L]) L = some s.units.length := by
        rw [idx_snoc, idx_none.2 hn.unit, if_pos rfl]
        unfold unitNames
        simp
      simp only [hi]
      rw [List.getElem?_eq_none (by omega)]
theorem miss2 {s : QSource} {L : ByteArray} (ht : sourceTwice s = false) (hn : NotIn s L) : resolveP { s with rules := s.rules ++ [⟨L, 0, [], [], []⟩] } = (110, noSource) := by
  obtain ⟨h1, h2, h3, h4, h5, h6⟩ := twice_parts ht
  refine refuse_name (twice_of h1 h2 h3 h4 h5 (any_snoc h6 rfl)) (numP_none (.inr (.inr (.inl (allP_last fun _ => ?_)))))
  unfold ruleP
  have hi : idx (schemaNames { s with rules := s.rules ++ [⟨L, 0, [], [], []⟩] }) L = none := idx_none.2 hn.sch
  simp only [hi]
theorem miss3 {s : QSource} {L : ByteArray} (ht : sourceTwice s = false) (hn : NotIn s L) : resolveP { s with converts := s.converts ++ [⟨L, L, 0, 0, []⟩] } = (110, noSource) := by
  obtain ⟨h1, h2, h3, h4, h5, h6⟩ := twice_parts ht
  refine refuse_name (twice_of h1 h2 h3 h4 h5 h6) (numP_none (.inr (.inr (.inr (.inl (allP_last fun _ => ?_))))))
  unfold convertP
  have hi : idx (schemaNames { s with converts := s.converts ++ [⟨L, L, 0, 0, []⟩] }) L = none := idx_none.2 hn.sch
  simp only [hi]
theorem miss4 {s : QSource} {L : ByteArray} (ht : sourceTwice s = false) (hn : NotIn s L) : resolveP { s with purposes := s.purposes ++ [⟨L, [⟨L, noStr, 0, 0⟩], 0⟩] } = (110, noSource) := by
  obtain ⟨h1, h2, h3, h4, h5, h6⟩ := twice_parts ht
  refine refuse_name (twice_of h1 h2 h3 ?_ h5 h6) (numP_none (.inr (.inr (.inr (.inr (allP_last fun _ => ?_))))))
  · have e : purposeNames { s with purposes := s.purposes ++ [⟨L, [⟨L, noStr, 0, 0⟩], 0⟩] } = purposeNames s ++ [L] := by unfold purposeNames; rw [List.map_append]; rfl
    rw [e]
    exact twice_snoc h4 hn.purp
  · unfold purposeP
    have hi : idx (schemaNames { s with purposes := s.purposes ++ [⟨L, [⟨L, noStr, 0, 0⟩], 0⟩] }) L = none := idx_none.2 hn.sch
    have hr : ∀ out : List QRef, (fun _ : List QRef => refStep { s with purposes := s.purposes ++ [⟨L, [⟨L, noStr, 0, 0⟩], 0⟩] }) out ⟨L, noStr, 0, 0⟩ = none := fun _ => by
      unfold refStep
      simp only [hi]
    have := allP_last (l := []) hr
    rw [List.nil_append] at this
    rw [this]
    rfl

end Go.Proofs.Ytkkkephjljiplaa

namespace Go.Proofs.Ytkkkephjljiplaa
open Go.RowKit

def zStr : ByteArray := ⟨#[122]⟩
def zField : QField := ⟨zStr, ⟨0, 0, 0, noStr, 0, []⟩, 0, 0, 0, 0⟩
def zFrom : QFrom := ⟨zStr, noStr, 0, ⟨noStr, noStr, 0, 0, 0⟩⟩

theorem twice_mem {l : List ByteArray} {x : ByteArray} (h : x ∈ l) : twiceB (l ++ [x]) = true := by
  cases h2 : twiceB (l ++ [x]) with
  | true => rfl
  | false =>
    rw [twiceB_iff, List.nodup_append] at h2
    exact absurd rfl (h2.2.2 x h x (by simp))
theorem twice_two {l : List ByteArray} {x : ByteArray} : twiceB (l ++ [x, x]) = true := by
  cases h2 : twiceB (l ++ [x, x]) with
  | true => rfl
  | false =>
    rw [twiceB_iff, List.nodup_append] at h2
    have := h2.2.1
    simp at this
theorem refuse_twice {s : QSource} (h : sourceTwice s = true) : resolveP s = (111, noSource) := by
  unfold resolveP
  rw [if_pos h]
theorem twice_any {s : QSource} (h : twiceB s.issuers = true ∨ twiceB (unitNames s) = true ∨ twiceB (schemaNames s) = true ∨ twiceB (purposeNames s) = true ∨ s.schemas.any (fun x => twiceB (fieldNames x)) = true ∨ s.rules.any (fun x => twiceB (fromNames x)) = true) : sourceTwice s = true := by
  unfold sourceTwice
  rcases h with h | h | h | h | h | h <;> rw [h] <;> simp
theorem any_set {α : Type} {p : α → Bool} {l : List α} {k : Nat} {y : α} (hk : k < l.length) (h : p y = true) : (l.set k y).any p = true :=
  List.any_eq_true.2 ⟨y, List.mem_iff_getElem?.2 ⟨k, by rw [List.getElem?_set_self hk]⟩, h⟩

theorem two0 {s : QSource} {k : Nat} {x : ByteArray} (hx : s.issuers[k]? = some x) : resolveP { s with issuers := s.issuers ++ [x] } = (111, noSource) :=
  refuse_twice (twice_any (.inl (twice_mem (List.mem_of_getElem? hx))))
theorem two1 {s : QSource} {k : Nat} {u : QUnit} (hu : s.units[k]? = some u) : resolveP { s with units := s.units ++ [⟨u.name, noStr, 0, 0, 0⟩] } = (111, noSource) := by
  refine refuse_twice (twice_any (.inr (.inl ?_)))
  have e : unitNames { s with units := s.units ++ [⟨u.name, noStr, 0, 0, 0⟩] } = unitNames s ++ [u.name] := by unfold unitNames; rw [List.map_append]; rfl
  rw [e]
  exact twice_mem (List.mem_map.2 ⟨u, List.mem_of_getElem? hu, rfl⟩)
theorem two2 {s : QSource} {k : Nat} {u : QPurpose} (hu : s.purposes[k]? = some u) : resolveP { s with purposes := s.purposes ++ [⟨u.name, [], 0⟩] } = (111, noSource) := by
  refine refuse_twice (twice_any (.inr (.inr (.inr (.inl ?_)))))
  have e : purposeNames { s with purposes := s.purposes ++ [⟨u.name, [], 0⟩] } = purposeNames s ++ [u.name] := by unfold purposeNames; rw [List.map_append]; rfl
  rw [e]
  exact twice_mem (List.mem_map.2 ⟨u, List.mem_of_getElem? hu, rfl⟩)
theorem two3 {s : QSource} {k : Nat} {u : QSchema} (hu : s.schemas[k]? = some u) : resolveP { s with schemas := s.schemas ++ [⟨u.name, noStr, 0, 0, [], []⟩] } = (111, noSource) := by
  refine refuse_twice (twice_any (.inr (.inr (.inl ?_))))
  have e : schemaNames { s with schemas := s.schemas ++ [⟨u.name, noStr, 0, 0, [], []⟩] } = schemaNames s ++ [u.name] := by unfold schemaNames; rw [List.map_append]; rfl
  rw [e]
  exact twice_mem (List.mem_map.2 ⟨u, List.mem_of_getElem? hu, rfl⟩)
theorem two4 {s : QSource} {k : Nat} {u : QSchema} (hu : s.schemas[k]? = some u) : resolveP { s with schemas := s.schemas.set k { u with fields := u.fields ++ [zField, zField] } } = (111, noSource) := by
  refine refuse_twice (twice_any (.inr (.inr (.inr (.inr (.inl (any_set (List.getElem?_eq_some_iff.1 hu).1 ?_)))))))
  have e : fieldNames { u with fields := u.fields ++ [zField, zField] } = fieldNames u ++ [zStr, zStr] := by unfold fieldNames; rw [List.map_append]; rfl
  rw [e]
  exact twice_two
theorem two5 {s : QSource} {k : Nat} {u : QRule} (hu : s.rules[k]? = some u) : resolveP { s with rules := s.rules.set k { u with froms := u.froms ++ [zFrom, zFrom] } } = (111, noSource) := by
  refine refuse_twice (twice_any (.inr (.inr (.inr (.inr (.inr (any_set (List.getElem?_eq_some_iff.1 hu).1 ?_)))))))
  have e : fromNames { u with froms := u.froms ++ [zFrom, zFrom] } = fromNames u ++ [zStr, zStr] := by unfold fromNames; rw [List.map_append]; rfl
  rw [e]
  exact twice_two

end Go.Proofs.Ytkkkephjljiplaa

namespace Go.Proofs.Ytkkkephjljiplaa
open Go.RowKit

set_option maxHeartbeats 4000000 in
set_option maxRecDepth 100000 in
theorem refTwiceS_any (A1 A2 A3 A4 A5 A6 : Option Addr) (n1 c1 n2 c2 n3 c3 n4 c4 n5 c5 n6 c6 : Nat) (s : QSource) (w : World) (h1 : SlB 1 16 strR w (.slice A1 n1 c1) s.issuers) (h2 : SlB 5 56 qUnitR w (.slice A2 n2 c2) s.units) (h3 : SlB 6 96 qSchemaR w (.slice A3 n3 c3) s.schemas) (h4 : SlB 5 96 qRuleR w (.slice A4 n4 c4) s.rules) (h5 : SlB 5 72 qConvertR w (.slice A5 n5 c5) s.converts) (h6 : SlB 3 48 qPurposeR w (.slice A6 n6 c6) s.purposes) :
    Calls Try.prog 39 #[.agg #[.slice A1 n1 c1, .slice A2 n2 c2, .slice A3 n3 c3, .slice A4 n4 c4, .slice A5 n5 c5, .slice A6 n6 c6]] w fun e w' => e = .returned (.bool (sourceTwice s)) ∧ Below w.heap.size w w' := by
  have HL3 := Lib.hid h3.1.len
  have HL4 := Lib.hid h4.1.len
  have le3 := h3.1.le
  have le4 := h4.1.le
  have HS := Lib.hid (src_whole h1 h2 h3 h4 h5 h6)
  clear h1 h2 h3 h4 h5 h6
  go_enter Try.func39, Try.ntmps39
  go_upto_region 1 with fail
  have hk : Blk (w.alloc (.cells #[.slice A1 n1 c1, .slice A2 n2 c2, .slice A3 n3 c3, .slice A4 n4 c4, .slice A5 n5 c5, .slice A6 n6 c6] 29)) w.heap.size 29 #[.slice A1 n1 c1, .slice A2 n2 c2, .slice A3 n3 c3, .slice A4 n4 c4, .slice A5 n5 c5, .slice A6 n6 c6] := Blk.new _ _ _
  have hb : Below w.heap.size w (w.alloc (.cells #[.slice A1 n1 c1, .slice A2 n2 c2, .slice A3 n3 c3, .slice A4 n4 c4, .slice A5 n5 c5, .slice A6 n6 c6] 29)) := (Below.refl _ _).alloc (Nat.le_refl _) _
  obtain ⟨g, hg⟩ : ∃ g, g = w.heap.size := ⟨_, rfl⟩
  rw [← hg] at hk ⊢
  generalize w.alloc (.cells #[.slice A1 n1 c1, .slice A2 n2 c2, .slice A3 n3 c3, .slice A4 n4 c4, .slice A5 n5 c5, .slice A6 n6 c6] 29) = wb at hk hb ⊢
  have HKwb := Lib.hid hk
  have HBwb := Lib.hid hb
  clear hk hb hg
  obtain ⟨k0, k1, k2, k3, k4, k5⟩ := six_cells HKwb.out (Below.refl _ _)
  go_wp2_with fail
  have HPb := Lib.hid (src_parts (qSourceR_mono _ _ HBwb.out _ _ HS.out)).1.1
  with_reducible refine (refTwice_any A1 n1 c1 s.issuers wb HPb.out).mono ?_
  rintro e w' ⟨rfl, rfl⟩
  clear HPb
  obtain ⟨t, ht⟩ : ∃ t, t = twiceB s.issuers := ⟨_, rfl⟩
  rw [← ht]
  cases t with
  | true =>
    have HE : Hid (sourceTwice s = true) := Lib.hid (twice_any (.inl ht.symm))
    clear ht
    go_wp2_with fail
    go_ret
    exact ⟨by rw [HE.out]; rfl, HBwb.out⟩
  | false =>
    have HI := Lib.hid ht.symm
    clear ht
    go_wp2_with fail
    have HPw23 := Lib.hid (src_parts (qSourceR_mono _ _ HBwb.out _ _ HS.out))
    with_reducible refine (refUnits_any A1 A2 A3 A4 A5 A6 n1 c1 n2 c2 n3 c3 n4 c4 n5 c5 n6 c6 s wb HPw23.out.2.1).mono ?_
    rintro e w23 ⟨xA, xc, rfl, hsl, hb⟩
    have HBw23 := Lib.hid (below_step HBwb.out hb)
    have HKw23 := Lib.hid (HKwb.out.below hb HKwb.out.lt)
    have HSLw23 := Lib.hid hsl.1
    clear k0 k1 k2 k3 k4 k5 hsl hb HBwb HKwb HPw23
    obtain ⟨k0, k1, k2, k3, k4, k5⟩ := six_cells HKw23.out (Below.refl _ _)
    go_wp2_with fail
    with_reducible refine (refTwice_any xA _ xc (unitNames s) w23 HSLw23.out).mono ?_
    rintro e w' ⟨rfl, rfl⟩
    clear HSLw23
    obtain ⟨t, ht⟩ : ∃ t, t = twiceB (unitNames s) := ⟨_, rfl⟩
    rw [← ht]
    cases t with
    | true =>
      have HE : Hid (sourceTwice s = true) := Lib.hid (twice_any (.inr (.inl ht.symm)))
      clear ht
      go_wp2_with fail
      go_ret
      exact ⟨by rw [HE.out]; rfl, HBw23.out⟩
    | false =>
      have HunitNames := Lib.hid ht.symm
      clear ht
      go_wp2_with fail
      have HPw22 := Lib.hid (src_parts (qSourceR_mono _ _ HBw23.out _ _ HS.out))
      with_reducible refine (refSchemas_any A1 A2 A3 A4 A5 A6 n1 c1 n2 c2 n3 c3 n4 c4 n5 c5 n6 c6 s w23 HPw22.out.2.2.1).mono ?_
      rintro e w22 ⟨xA, xc, rfl, hsl, hb⟩
      have HBw22 := Lib.hid (below_step HBw23.out hb)
      have HKw22 := Lib.hid (HKw23.out.below hb HKw23.out.lt)
      have HSLw22 := Lib.hid hsl.1
      clear k0 k1 k2 k3 k4 k5 hsl hb HBw23 HKw23 HPw22
      obtain ⟨k0, k1, k2, k3, k4, k5⟩ := six_cells HKw22.out (Below.refl _ _)
      go_wp2_with fail
      with_reducible refine (refTwice_any xA _ xc (schemaNames s) w22 HSLw22.out).mono ?_
      rintro e w' ⟨rfl, rfl⟩
      clear HSLw22
      obtain ⟨t, ht⟩ : ∃ t, t = twiceB (schemaNames s) := ⟨_, rfl⟩
      rw [← ht]
      cases t with
      | true =>
        have HE : Hid (sourceTwice s = true) := Lib.hid (twice_any (.inr (.inr (.inl ht.symm))))
        clear ht
        go_wp2_with fail
        go_ret
        exact ⟨by rw [HE.out]; rfl, HBw22.out⟩
      | false =>
        have HschemaNames := Lib.hid ht.symm
        clear ht
        go_wp2_with fail
        have HPw21 := Lib.hid (src_parts (qSourceR_mono _ _ HBw22.out _ _ HS.out))
        with_reducible refine (refPurposes_any A1 A2 A3 A4 A5 A6 n1 c1 n2 c2 n3 c3 n4 c4 n5 c5 n6 c6 s w22 HPw21.out.2.2.2.2.2).mono ?_
        rintro e w21 ⟨xA, xc, rfl, hsl, hb⟩
        have HBw21 := Lib.hid (below_step HBw22.out hb)
        have HKw21 := Lib.hid (HKw22.out.below hb HKw22.out.lt)
        have HSLw21 := Lib.hid hsl.1
        clear k0 k1 k2 k3 k4 k5 hsl hb HBw22 HKw22 HPw21
        obtain ⟨k0, k1, k2, k3, k4, k5⟩ := six_cells HKw21.out (Below.refl _ _)
        go_wp2_with fail
        with_reducible refine (refTwice_any xA _ xc (purposeNames s) w21 HSLw21.out).mono ?_
        rintro e w' ⟨rfl, rfl⟩
        clear HSLw21
        obtain ⟨t, ht⟩ : ∃ t, t = twiceB (purposeNames s) := ⟨_, rfl⟩
        rw [← ht]
        cases t with
        | true =>
          have HE : Hid (sourceTwice s = true) := Lib.hid (twice_any (.inr (.inr (.inr (.inl ht.symm)))))
          clear ht
          go_wp2_with fail
          go_ret
          exact ⟨by rw [HE.out]; rfl, HBw21.out⟩
        | false =>
          have HpurposeNames := Lib.hid ht.symm
          clear ht
          go_wp2_with fail
          obtain ⟨v0, hv0⟩ : ∃ x, x = w21 := ⟨_, rfl⟩
          rw [← hv0] at HBw21 HKw21 k0 k1 k2 k3 k4 k5 ⊢
          clear hv0
          go_loopg [3] n3 (fun q i wr => ∃ kz : Nat, kz ≤ n3 ∧ q = n3 - kz ∧ i = .int .i64 kz ∧ (s.schemas.take kz).any (fun x => twiceB (fieldNames x)) = false ∧ Below v0.heap.size v0 wr)
          case atStart => exact ⟨0, Nat.zero_le _, rfl, rfl, rfl, Below.refl _ _⟩
          case round =>
            clear k0 k1 k2 k3 k4 k5
            obtain ⟨k, hk, hq, rfl, hno, hbr⟩ := hrel
            have HQ := Lib.hid hq
            have HNO := Lib.hid hno
            have HBr := Lib.hid (below_step HBw21.out hbr)
            have HKr := Lib.hid (HKw21.out.below hbr HKw21.out.lt)
            have HV := Lib.hid hbr
            clear hq hno hbr
            obtain ⟨k0, k1, k2, k3, k4, k5⟩ := six_cells HKr.out (Below.refl _ _)
            by_cases hlt : k < n3
            · have hkn : (k : Int) < (n3 : Int) := by omega
              have hk0 : (0 : Int) ≤ (k : Int) := by omega
              obtain ⟨y, hy⟩ : ∃ y, s.schemas[k]? = some y := ⟨s.schemas[k]'(by have := HL3.out; omega), List.getElem?_eq_getElem _⟩
              have HY := Lib.hid hy
              clear hy
              go_wp2_with fail
              have HPr := Lib.hid (src_parts (qSourceR_mono _ _ HBr.out _ _ HS.out)).2.2.1.1
              with_reducible refine (refFields_any A1 A2 A3 A4 A5 A6 n1 c1 n2 c2 n3 c3 n4 c4 n5 c5 n6 c6 s (k : Int) wr HPr.out).mono ?_
              rw [show fieldNo s (k : Int) = fieldNames y from by unfold fieldNo; rw [if_pos (by omega), Int.toNat_natCast, HY.out]; rfl]
              rintro e w8 ⟨xA, xc, rfl, hsl, hb⟩
              have HB8 := Lib.hid (below_step HV.out hb)
              have HK8 := Lib.hid (HKr.out.below hb HKr.out.lt)
              have HSL := Lib.hid hsl.1
              clear k0 k1 k2 k3 k4 k5 hsl hb HKr HPr
              obtain ⟨k0, k1, k2, k3, k4, k5⟩ := six_cells HK8.out (Below.refl _ _)
              go_wp2_with fail
              with_reducible refine (refTwice_any xA _ xc (fieldNames y) w8 HSL.out).mono ?_
              rintro e w' ⟨rfl, rfl⟩
              clear HSL
              obtain ⟨t, ht⟩ : ∃ t, t = twiceB (fieldNames y) := ⟨_, rfl⟩
              rw [← ht]
              cases t with
              | true =>
                have HE : Hid (sourceTwice s = true) := Lib.hid (twice_any (.inr (.inr (.inr (.inr (.inl (List.any_eq_true.2 ⟨y, List.mem_of_getElem? HY.out, ht.symm⟩)))))))
                clear ht
                go_wp2_with fail
                go_ret
                exact ⟨by rw [HE.out]; rfl, below_step HBw21.out HB8.out⟩
              | false =>
                have HN : Hid ((s.schemas.take (k + 1)).any (fun x => twiceB (fieldNames x)) = false) := Lib.hid (by rw [take_snoc HY.out]; exact any_snoc HNO.out ht.symm)
                clear ht
                go_wp2_with fail
                go_roundg (n3 - (k + 1))
                case measure => have := HQ.out; omega
                case rel => exact ⟨k + 1, by omega, rfl, by go_num, HN.out, HB8.out⟩
            · have hkn : ¬ (k : Int) < (n3 : Int) := by omega
              have hke : k = s.schemas.length := by have := HL3.out; omega
              have HF : Hid (s.schemas.any (fun x => twiceB (fieldNames x)) = false) := Lib.hid (by have := HNO.out; rwa [hke, List.take_length] at this)
              clear hke HNO HQ
              go_wp2_with fail
              clear hk hlt hkn
              obtain ⟨v1, hv1⟩ : ∃ x, x = wr := ⟨_, rfl⟩
              rw [← hv1] at HBr HKr HV k0 k1 k2 k3 k4 k5 ⊢
              clear hv1
              go_loopg [4] n4 (fun q i wr => ∃ kz : Nat, kz ≤ n4 ∧ q = n4 - kz ∧ i = .int .i64 kz ∧ (s.rules.take kz).any (fun x => twiceB (fromNames x)) = false ∧ Below v1.heap.size v1 wr)
              case atStart => exact ⟨0, Nat.zero_le _, rfl, rfl, rfl, Below.refl _ _⟩
              case round =>
                clear k0 k1 k2 k3 k4 k5
                obtain ⟨k, hk, hq, rfl, hno, hbr⟩ := hrel
                have HQ := Lib.hid hq
                have HNO := Lib.hid hno
                have HB2 := Lib.hid (below_step HBr.out hbr)
                have HK2 := Lib.hid (HKr.out.below hbr HKr.out.lt)
                have HV2 := Lib.hid hbr
                clear hq hno hbr
                obtain ⟨k0, k1, k2, k3, k4, k5⟩ := six_cells HK2.out (Below.refl _ _)
                by_cases hlt : k < n4
                · have hkn : (k : Int) < (n4 : Int) := by omega
                  have hk0 : (0 : Int) ≤ (k : Int) := by omega
                  have HP2 := Lib.hid (src_parts (qSourceR_mono _ _ HB2.out _ _ HS.out))
                  obtain ⟨b, off, r, B1, m1, e1, B2, m2, e2, B3, m3, e3, rfl, hbl, hy, s0, s1, s2, s3, s4, hfr, -⟩ := qRule_at HP2.out.2.2.2.1.1 hlt
                  have HY := Lib.hid hy
                  have HFR := Lib.hid hfr
                  clear hy hfr
                  go_wp2_with fail
                  with_reducible refine (refVariables_any B1 B2 B3 m1 e1 m2 e2 m3 e3 r wr HFR.out).mono ?_
                  rintro e w8 ⟨xA, xc, rfl, hsl, hb⟩
                  have HB8 := Lib.hid (below_step HV2.out hb)
                  have HSL := Lib.hid hsl.1
                  clear s0 s1 s2 s3 s4 hsl hb k0 k1 k2 k3 k4 k5
                  go_wp2_with fail
                  with_reducible refine (refTwice_any xA _ xc (fromNames r) w8 HSL.out).mono ?_
                  rintro e w' ⟨rfl, rfl⟩
                  clear HSL
                  obtain ⟨t, ht⟩ : ∃ t, t = twiceB (fromNames r) := ⟨_, rfl⟩
                  rw [← ht]
                  cases t with
                  | true =>
                    have HE : Hid (sourceTwice s = true) := Lib.hid (twice_any (.inr (.inr (.inr (.inr (.inr (List.any_eq_true.2 ⟨r, List.mem_of_getElem? HY.out, ht.symm⟩)))))))
                    clear ht
                    go_wp2_with fail
                    go_ret
                    exact ⟨by rw [HE.out]; rfl, below_step HBr.out HB8.out⟩
                  | false =>
                    have HN : Hid ((s.rules.take (k + 1)).any (fun x => twiceB (fromNames x)) = false) := Lib.hid (by rw [take_snoc HY.out]; exact any_snoc HNO.out ht.symm)
                    clear ht
                    go_wp2_with fail
                    go_roundg (n4 - (k + 1))
                    case measure => have := HQ.out; omega
                    case rel => exact ⟨k + 1, by omega, rfl, by go_num, HN.out, HB8.out⟩
                · have hkn : ¬ (k : Int) < (n4 : Int) := by omega
                  have hke : k = s.rules.length := by have := HL4.out; omega
                  have HE : Hid (sourceTwice s = false) := Lib.hid (twice_of HI.out HunitNames.out HschemaNames.out HpurposeNames.out HF.out (by have := HNO.out; rwa [hke, List.take_length] at this))
                  clear hke HNO HQ
                  go_wp2_with fail
                  go_ret
                  exact ⟨by rw [HE.out]; rfl, HB2.out⟩

end Go.Proofs.Ytkkkephjljiplaa
