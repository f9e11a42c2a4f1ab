/- Contracts of names.collect, each instance. Written by gencol.py. -/
import Derived.Test.YtkkkephjljiplaaNmW1
import Derived.Test.YtkkkephjljiplaaNmCol
namespace Go.Proofs.Ytkkkephjljiplaa
open Go.RowKit

theorem run_makeMapN (n : Int) (w : World) : (Instr.makeMap 98 (some (.int .i64 n))).run Try.prog w = .ok (.map (some w.heap.size)) (w.alloc (.map #[] 0)) := by
  simp [Instr.makeMap, run_underlying Try.underlying98, asInt, asIntOf]

set_option maxHeartbeats 1000000 in
theorem collectStr_any (A : Option Addr) (n c : Nat) (l : List ByteArray) (w : World) (hs : SlR 1 strR w (.slice A n c) l) :
    Calls Try.prog 62 #[.slice A n c, .func (.func 63) #[] #[]] w (RetCol l w) := by
  have hn2 : n ≤ 9223372036854775807 := by have := hs.le; omega
  have HN := Lib.hid hs.len
  have HS := Lib.hid hs
  clear hs
  have hmm := run_makeMapN
  go_enter Try.func62, Try.ntmps62
  go_wp2_with fail
  clear hmm
  have hm0 : MapAt strV i64V (w.alloc (.map #[] 0)) w.heap.size (colN l 0).1 := MapAt.new _ _ w
  have hb0 : Below w.heap.size w (w.alloc (.map #[] 0)) := (Below.refl _ _).alloc (Nat.le_refl _) _
  have HM0 := Lib.hid hm0
  have HB0 := Lib.hid hb0
  clear hm0 hb0
  go_loopg [5, 15] n (fun g t i wr => ∃ k : Nat, k ≤ n ∧ g = n - k ∧ i = .int .i64 k ∧ t = .bool (colN l k).2 ∧ MapAt strV i64V wr w.heap.size (colN l k).1 ∧ Below w.heap.size w wr)
  case atStart => exact ⟨0, Nat.zero_le _, rfl, rfl, rfl, HM0.out, HB0.out⟩
  case round =>
    clear HM0 HB0
    obtain ⟨k, hk, hg, rfl, rfl, hm, hb⟩ := hrel
    have HG := Lib.hid hg
    have HM := Lib.hid hm
    have HB := Lib.hid hb
    clear hg hm hb
    by_cases hlt : k < n
    · obtain ⟨b, off, x, rfl, hbl, hx, hc⟩ := str_at (HS.out.mono strR_mono HB.out) hlt
      have HX : Hid (l[k]? = some x) := hx
      clear hx
      have hxn : x = x := rfl
      clear hxn
      obtain ⟨t, ht⟩ : ∃ t, (colN l k).2 = t := ⟨_, rfl⟩
      have HT := Lib.hid ht
      rw [ht]
      clear ht
      go_wp2_with fail
      refine (idName_any _ _).mono ?_
      rintro e w' ⟨rfl, rfl⟩
      have hmw := HM.out
      have hbw := HB.out
      have hlook := run_lookup_m (keyEq_string Try.underlying9) Try.underlying98 (z := .int .i64 0) (by kernel_rfl) hmw x true
      have HMW := Lib.hid hmw
      have HBW := Lib.hid hbw
      clear hmw hbw HM HB
      cases hgt : getM (colN l k).1 x with
      | some v =>
        rw [hgt] at hlook
        simp only [if_true, Option.map_some, Option.getD_some, Option.isSome_some] at hlook
        have HGT := Lib.hid hgt
        clear hgt
        go_wp2_with fail
        go_roundg (n - (k + 1))
        case measure => have := HG.out; omega
        case rel =>
          have he : colN l (k + 1) = ((colN l k).1, true) := by rw [colN_succ HX.out, cstep_yes HGT.out]
          exact ⟨k + 1, by omega, rfl, by go_num, by rw [he], by rw [he]; exact HMW.out, HBW.out⟩
      | none =>
        rw [hgt] at hlook
        simp only [if_true, Option.map_none, Option.getD_none, Option.isSome_none] at hlook
        have HGT := Lib.hid hgt
        clear hgt
        go_wp2_with fail
        refine (idName_any _ _).mono ?_
        rintro e w' ⟨rfl, rfl⟩
        obtain ⟨w3, hrun3, hm3, hg3⟩ := run_update_m (keyEq_string Try.underlying9) Try.underlying98 HMW.out x (k : Int)
        have HB3 := Lib.hid (HBW.out.grown hg3 HBW.out.size (fun r e => by cases e; exact Nat.le_refl _))
        have HM3 := Lib.hid hm3
        clear hm3 hg3 hlook
        go_wp2_with fail
        go_roundg (n - (k + 1))
        case measure => have := HG.out; omega
        case rel =>
          have he : colN l (k + 1) = (putM (colN l k).1 x (k : Int), (colN l k).2) := by rw [colN_succ HX.out, cstep_no HGT.out]
          exact ⟨k + 1, by omega, rfl, by go_num, by rw [he, HT.out], by rw [he]; exact HM3.out, HB3.out⟩
    · have HE : Hid (colN l k = col l) := by show _ = _; have := HN.out; rw [col, show k = l.length by first | omega | (simp; omega)]
      go_wp2_with fail
      go_ret2
      exact ⟨_, by rw [HE.out]; rfl, by rw [← HE.out]; exact HM.out, Nat.le_refl _, HB.out⟩

set_option maxHeartbeats 1000000 in
theorem collectUnit_any (A : Option Addr) (n c : Nat) (l : List QUnit) (w : World) (hs : SlR 5 qUnitR w (.slice A n c) l) :
    Calls Try.prog 64 #[.slice A n c, .func (.func 65) #[] #[]] w (RetCol (l.map (·.name)) w) := by
  have hn2 : n ≤ 9223372036854775807 := by have := hs.le; omega
  have HN := Lib.hid hs.len
  have HS := Lib.hid hs
  clear hs
  have hmm := run_makeMapN
  go_enter Try.func64, Try.ntmps64
  go_wp2_with fail
  clear hmm
  have hm0 : MapAt strV i64V (w.alloc (.map #[] 0)) w.heap.size (colN (l.map (·.name)) 0).1 := MapAt.new _ _ w
  have hb0 : Below w.heap.size w (w.alloc (.map #[] 0)) := (Below.refl _ _).alloc (Nat.le_refl _) _
  have HM0 := Lib.hid hm0
  have HB0 := Lib.hid hb0
  clear hm0 hb0
  go_loopg [5, 15] n (fun g t i wr => ∃ k : Nat, k ≤ n ∧ g = n - k ∧ i = .int .i64 k ∧ t = .bool (colN (l.map (·.name)) k).2 ∧ MapAt strV i64V wr w.heap.size (colN (l.map (·.name)) k).1 ∧ Below w.heap.size w wr)
  case atStart => exact ⟨0, Nat.zero_le _, rfl, rfl, rfl, HM0.out, HB0.out⟩
  case round =>
    clear HM0 HB0
    obtain ⟨k, hk, hg, rfl, rfl, hm, hb⟩ := hrel
    have HG := Lib.hid hg
    have HM := Lib.hid hm
    have HB := Lib.hid hb
    clear hg hm hb
    by_cases hlt : k < n
    · obtain ⟨b, off, x, rfl, hbl, hx, e0, e1, e2, e3, e4⟩ := qUnit_at (HS.out.mono qUnitR_mono HB.out) hlt
      have HX : Hid ((l.map (·.name))[k]? = some x.name) := by show _ = _; rw [List.getElem?_map, hx]; rfl
      clear hx
      obtain ⟨t, ht⟩ : ∃ t, (colN (l.map (·.name)) k).2 = t := ⟨_, rfl⟩
      have HT := Lib.hid ht
      rw [ht]
      clear ht
      go_wp2_with fail
      have hmz : MapAt strV i64V (wr.alloc (.cells #[.string x.name, .string x.of_, .int .i64 x.factor, .int .i64 x.base, .int .i64 x.scale] 47)) w.heap.size (colN (l.map (·.name)) k).1 := HM.out.grown (World.grownBy_alloc _ _ none) (by simp)
      have hbz : Below w.heap.size w (wr.alloc (.cells #[.string x.name, .string x.of_, .int .i64 x.factor, .int .i64 x.base, .int .i64 x.scale] 47)) := HB.out.alloc HB.out.size _
      have hblk : Blk (wr.alloc (.cells #[.string x.name, .string x.of_, .int .i64 x.factor, .int .i64 x.base, .int .i64 x.scale] 47)) wr.heap.size 47 #[.string x.name, .string x.of_, .int .i64 x.factor, .int .i64 x.base, .int .i64 x.scale] := Blk.new _ _ _
      generalize wr.alloc (.cells #[.string x.name, .string x.of_, .int .i64 x.factor, .int .i64 x.base, .int .i64 x.scale] 47) = wz at hmz hbz hblk ⊢
      refine (unitName_any x _).mono ?_
      rintro e w' ⟨rfl, rfl⟩
      have hmw : MapAt strV i64V (wz.alloc (.cells #[.string x.name, .string x.of_, .int .i64 x.factor, .int .i64 x.base, .int .i64 x.scale] 47)) w.heap.size (colN (l.map (·.name)) k).1 := hmz.grown (World.grownBy_alloc _ _ none) (by simp)
      have hbw : Below w.heap.size w (wz.alloc (.cells #[.string x.name, .string x.of_, .int .i64 x.factor, .int .i64 x.base, .int .i64 x.scale] 47)) := hbz.alloc hbz.size _
      have hbk := hblk.alloc (.cells #[.string x.name, .string x.of_, .int .i64 x.factor, .int .i64 x.base, .int .i64 x.scale] 47)
      generalize wz.alloc (.cells #[.string x.name, .string x.of_, .int .i64 x.factor, .int .i64 x.base, .int .i64 x.scale] 47) = w1 at hmw hbw hbk ⊢
      have d0 := hbk.cell 0
      have d1 := hbk.cell 1
      have d2 := hbk.cell 2
      have d3 := hbk.cell 3
      have d4 := hbk.cell 4
      have lb := hbk.lt
      simp only [List.getElem?_toArray, List.getElem?_cons_zero, List.getElem?_cons_succ] at d0 d1 d2 d3 d4
      clear hmz hbz hblk hbk e0 e1 e2 e3 e4 hbl
      have hlook := run_lookup_m (keyEq_string Try.underlying9) Try.underlying98 (z := .int .i64 0) (by kernel_rfl) hmw x.name true
      have HMW := Lib.hid hmw
      have HBW := Lib.hid hbw
      clear hmw hbw HM HB
      cases hgt : getM (colN (l.map (·.name)) k).1 x.name with
      | some v =>
        rw [hgt] at hlook
        simp only [if_true, Option.map_some, Option.getD_some, Option.isSome_some] at hlook
        have HGT := Lib.hid hgt
        clear hgt
        go_wp2_with fail
        go_roundg (n - (k + 1))
        case measure => have := HG.out; omega
        case rel =>
          have he : colN (l.map (·.name)) (k + 1) = ((colN (l.map (·.name)) k).1, true) := by rw [colN_succ HX.out, cstep_yes HGT.out]
          exact ⟨k + 1, by omega, rfl, by go_num, by rw [he], by rw [he]; exact HMW.out, HBW.out⟩
      | none =>
        rw [hgt] at hlook
        simp only [if_true, Option.map_none, Option.getD_none, Option.isSome_none] at hlook
        have HGT := Lib.hid hgt
        clear hgt
        go_wp2_with fail
        refine (unitName_any x _).mono ?_
        rintro e w' ⟨rfl, rfl⟩
        have hmw2 : MapAt strV i64V (w1.alloc (.cells #[.string x.name, .string x.of_, .int .i64 x.factor, .int .i64 x.base, .int .i64 x.scale] 47)) w.heap.size (colN (l.map (·.name)) k).1 := HMW.out.grown (World.grownBy_alloc _ _ none) (by simp)
        have hbw2 : Below w.heap.size w (w1.alloc (.cells #[.string x.name, .string x.of_, .int .i64 x.factor, .int .i64 x.base, .int .i64 x.scale] 47)) := HBW.out.alloc HBW.out.size _
        generalize w1.alloc (.cells #[.string x.name, .string x.of_, .int .i64 x.factor, .int .i64 x.base, .int .i64 x.scale] 47) = w2 at hmw2 hbw2 ⊢
        obtain ⟨w3, hrun3, hm3, hg3⟩ := run_update_m (keyEq_string Try.underlying9) Try.underlying98 hmw2 x.name (k : Int)
        have HB3 := Lib.hid (hbw2.grown hg3 hbw2.size (fun r e => by cases e; exact Nat.le_refl _))
        clear hmw2 hbw2
        have HM3 := Lib.hid hm3
        clear hm3 hg3 hlook
        go_wp2_with fail
        go_roundg (n - (k + 1))
        case measure => have := HG.out; omega
        case rel =>
          have he : colN (l.map (·.name)) (k + 1) = (putM (colN (l.map (·.name)) k).1 x.name (k : Int), (colN (l.map (·.name)) k).2) := by rw [colN_succ HX.out, cstep_no HGT.out]
          exact ⟨k + 1, by omega, rfl, by go_num, by rw [he, HT.out], by rw [he]; exact HM3.out, HB3.out⟩
    · have HE : Hid (colN (l.map (·.name)) k = col (l.map (·.name))) := by show _ = _; have := HN.out; rw [col, show k = (l.map (·.name)).length by first | omega | (simp; omega)]
      go_wp2_with fail
      go_ret2
      exact ⟨_, by rw [HE.out]; rfl, by rw [← HE.out]; exact HM.out, Nat.le_refl _, HB.out⟩

set_option maxHeartbeats 1000000 in
theorem collectSchema_any (A : Option Addr) (n c : Nat) (l : List QSchema) (w : World) (hs : SlR 6 qSchemaR w (.slice A n c) l) :
    Calls Try.prog 66 #[.slice A n c, .func (.func 52) #[] #[]] w (RetCol (l.map (·.name)) w) := by
  have hn2 : n ≤ 9223372036854775807 := by have := hs.le; omega
  have HN := Lib.hid hs.len
  have HS := Lib.hid hs
  clear hs
  have hmm := run_makeMapN
  go_enter Try.func66, Try.ntmps66
  go_wp2_with fail
  clear hmm
  have hm0 : MapAt strV i64V (w.alloc (.map #[] 0)) w.heap.size (colN (l.map (·.name)) 0).1 := MapAt.new _ _ w
  have hb0 : Below w.heap.size w (w.alloc (.map #[] 0)) := (Below.refl _ _).alloc (Nat.le_refl _) _
  have HM0 := Lib.hid hm0
  have HB0 := Lib.hid hb0
  clear hm0 hb0
  go_loopg [5, 15] n (fun g t i wr => ∃ k : Nat, k ≤ n ∧ g = n - k ∧ i = .int .i64 k ∧ t = .bool (colN (l.map (·.name)) k).2 ∧ MapAt strV i64V wr w.heap.size (colN (l.map (·.name)) k).1 ∧ Below w.heap.size w wr)
  case atStart => exact ⟨0, Nat.zero_le _, rfl, rfl, rfl, HM0.out, HB0.out⟩
  case round =>
    clear HM0 HB0
    obtain ⟨k, hk, hg, rfl, rfl, hm, hb⟩ := hrel
    have HG := Lib.hid hg
    have HM := Lib.hid hm
    have HB := Lib.hid hb
    clear hg hm hb
    by_cases hlt : k < n
    · obtain ⟨b, off, x, A1, n1, c1, A2, n2, c2, rfl, hbl, hx, e0, e1, e2, e3, e4, e5, _, _⟩ := qSchema_at (HS.out.mono qSchemaR_mono HB.out) hlt
      have HX : Hid ((l.map (·.name))[k]? = some x.name) := by show _ = _; rw [List.getElem?_map, hx]; rfl
      clear hx
      obtain ⟨t, ht⟩ : ∃ t, (colN (l.map (·.name)) k).2 = t := ⟨_, rfl⟩
      have HT := Lib.hid ht
      rw [ht]
      clear ht
      go_wp2_with fail
      have hmz : MapAt strV i64V (wr.alloc (.cells #[.string x.name, .string x.by_, .int .i64 x.issuer, .int .i64 x.version, .slice A1 n1 c1, .slice A2 n2 c2] 40)) w.heap.size (colN (l.map (·.name)) k).1 := HM.out.grown (World.grownBy_alloc _ _ none) (by simp)
      have hbz : Below w.heap.size w (wr.alloc (.cells #[.string x.name, .string x.by_, .int .i64 x.issuer, .int .i64 x.version, .slice A1 n1 c1, .slice A2 n2 c2] 40)) := HB.out.alloc HB.out.size _
      have hblk : Blk (wr.alloc (.cells #[.string x.name, .string x.by_, .int .i64 x.issuer, .int .i64 x.version, .slice A1 n1 c1, .slice A2 n2 c2] 40)) wr.heap.size 40 #[.string x.name, .string x.by_, .int .i64 x.issuer, .int .i64 x.version, .slice A1 n1 c1, .slice A2 n2 c2] := Blk.new _ _ _
      generalize wr.alloc (.cells #[.string x.name, .string x.by_, .int .i64 x.issuer, .int .i64 x.version, .slice A1 n1 c1, .slice A2 n2 c2] 40) = wz at hmz hbz hblk ⊢
      refine (schemaName_any _ _ _ _ _ _ x _).mono ?_
      rintro e w' ⟨rfl, rfl⟩
      have hmw : MapAt strV i64V (wz.alloc (.cells #[.string x.name, .string x.by_, .int .i64 x.issuer, .int .i64 x.version, .slice A1 n1 c1, .slice A2 n2 c2] 40)) w.heap.size (colN (l.map (·.name)) k).1 := hmz.grown (World.grownBy_alloc _ _ none) (by simp)
      have hbw : Below w.heap.size w (wz.alloc (.cells #[.string x.name, .string x.by_, .int .i64 x.issuer, .int .i64 x.version, .slice A1 n1 c1, .slice A2 n2 c2] 40)) := hbz.alloc hbz.size _
      have hbk := hblk.alloc (.cells #[.string x.name, .string x.by_, .int .i64 x.issuer, .int .i64 x.version, .slice A1 n1 c1, .slice A2 n2 c2] 40)
      generalize wz.alloc (.cells #[.string x.name, .string x.by_, .int .i64 x.issuer, .int .i64 x.version, .slice A1 n1 c1, .slice A2 n2 c2] 40) = w1 at hmw hbw hbk ⊢
      have d0 := hbk.cell 0
      have d1 := hbk.cell 1
      have d2 := hbk.cell 2
      have d3 := hbk.cell 3
      have d4 := hbk.cell 4
      have d5 := hbk.cell 5
      have lb := hbk.lt
      simp only [List.getElem?_toArray, List.getElem?_cons_zero, List.getElem?_cons_succ] at d0 d1 d2 d3 d4 d5
      clear hmz hbz hblk hbk e0 e1 e2 e3 e4 e5 hbl
      have hlook := run_lookup_m (keyEq_string Try.underlying9) Try.underlying98 (z := .int .i64 0) (by kernel_rfl) hmw x.name true
      have HMW := Lib.hid hmw
      have HBW := Lib.hid hbw
      clear hmw hbw HM HB
      cases hgt : getM (colN (l.map (·.name)) k).1 x.name with
      | some v =>
        rw [hgt] at hlook
        simp only [if_true, Option.map_some, Option.getD_some, Option.isSome_some] at hlook
        have HGT := Lib.hid hgt
        clear hgt
        go_wp2_with fail
        go_roundg (n - (k + 1))
        case measure => have := HG.out; omega
        case rel =>
          have he : colN (l.map (·.name)) (k + 1) = ((colN (l.map (·.name)) k).1, true) := by rw [colN_succ HX.out, cstep_yes HGT.out]
          exact ⟨k + 1, by omega, rfl, by go_num, by rw [he], by rw [he]; exact HMW.out, HBW.out⟩
      | none =>
        rw [hgt] at hlook
        simp only [if_true, Option.map_none, Option.getD_none, Option.isSome_none] at hlook
        have HGT := Lib.hid hgt
        clear hgt
        go_wp2_with fail
        refine (schemaName_any _ _ _ _ _ _ x _).mono ?_
        rintro e w' ⟨rfl, rfl⟩
        have hmw2 : MapAt strV i64V (w1.alloc (.cells #[.string x.name, .string x.by_, .int .i64 x.issuer, .int .i64 x.version, .slice A1 n1 c1, .slice A2 n2 c2] 40)) w.heap.size (colN (l.map (·.name)) k).1 := HMW.out.grown (World.grownBy_alloc _ _ none) (by simp)
        have hbw2 : Below w.heap.size w (w1.alloc (.cells #[.string x.name, .string x.by_, .int .i64 x.issuer, .int .i64 x.version, .slice A1 n1 c1, .slice A2 n2 c2] 40)) := HBW.out.alloc HBW.out.size _
        generalize w1.alloc (.cells #[.string x.name, .string x.by_, .int .i64 x.issuer, .int .i64 x.version, .slice A1 n1 c1, .slice A2 n2 c2] 40) = w2 at hmw2 hbw2 ⊢
        obtain ⟨w3, hrun3, hm3, hg3⟩ := run_update_m (keyEq_string Try.underlying9) Try.underlying98 hmw2 x.name (k : Int)
        have HB3 := Lib.hid (hbw2.grown hg3 hbw2.size (fun r e => by cases e; exact Nat.le_refl _))
        clear hmw2 hbw2
        have HM3 := Lib.hid hm3
        clear hm3 hg3 hlook
        go_wp2_with fail
        go_roundg (n - (k + 1))
        case measure => have := HG.out; omega
        case rel =>
          have he : colN (l.map (·.name)) (k + 1) = (putM (colN (l.map (·.name)) k).1 x.name (k : Int), (colN (l.map (·.name)) k).2) := by rw [colN_succ HX.out, cstep_no HGT.out]
          exact ⟨k + 1, by omega, rfl, by go_num, by rw [he, HT.out], by rw [he]; exact HM3.out, HB3.out⟩
    · have HE : Hid (colN (l.map (·.name)) k = col (l.map (·.name))) := by show _ = _; have := HN.out; rw [col, show k = (l.map (·.name)).length by first | omega | (simp; omega)]
      go_wp2_with fail
      go_ret2
      exact ⟨_, by rw [HE.out]; rfl, by rw [← HE.out]; exact HM.out, Nat.le_refl _, HB.out⟩

set_option maxHeartbeats 1000000 in
theorem collectPurpose_any (A : Option Addr) (n c : Nat) (l : List QPurpose) (w : World) (hs : SlR 3 qPurposeR w (.slice A n c) l) :
    Calls Try.prog 67 #[.slice A n c, .func (.func 57) #[] #[]] w (RetCol (l.map (·.name)) w) := by
  have hn2 : n ≤ 9223372036854775807 := by have := hs.le; omega
  have HN := Lib.hid hs.len
  have HS := Lib.hid hs
  clear hs
  have hmm := run_makeMapN
  go_enter Try.func67, Try.ntmps67
  go_wp2_with fail
  clear hmm
  have hm0 : MapAt strV i64V (w.alloc (.map #[] 0)) w.heap.size (colN (l.map (·.name)) 0).1 := MapAt.new _ _ w
  have hb0 : Below w.heap.size w (w.alloc (.map #[] 0)) := (Below.refl _ _).alloc (Nat.le_refl _) _
  have HM0 := Lib.hid hm0
  have HB0 := Lib.hid hb0
  clear hm0 hb0
  go_loopg [5, 15] n (fun g t i wr => ∃ k : Nat, k ≤ n ∧ g = n - k ∧ i = .int .i64 k ∧ t = .bool (colN (l.map (·.name)) k).2 ∧ MapAt strV i64V wr w.heap.size (colN (l.map (·.name)) k).1 ∧ Below w.heap.size w wr)
  case atStart => exact ⟨0, Nat.zero_le _, rfl, rfl, rfl, HM0.out, HB0.out⟩
  case round =>
    clear HM0 HB0
    obtain ⟨k, hk, hg, rfl, rfl, hm, hb⟩ := hrel
    have HG := Lib.hid hg
    have HM := Lib.hid hm
    have HB := Lib.hid hb
    clear hg hm hb
    by_cases hlt : k < n
    · obtain ⟨b, off, x, A1, n1, c1, rfl, hbl, hx, e0, e1, e2, _⟩ := qPurpose_at (HS.out.mono qPurposeR_mono HB.out) hlt
      have HX : Hid ((l.map (·.name))[k]? = some x.name) := by show _ = _; rw [List.getElem?_map, hx]; rfl
      clear hx
      obtain ⟨t, ht⟩ : ∃ t, (colN (l.map (·.name)) k).2 = t := ⟨_, rfl⟩
      have HT := Lib.hid ht
      rw [ht]
      clear ht
      go_wp2_with fail
      have hmz : MapAt strV i64V (wr.alloc (.cells #[.string x.name, .slice A1 n1 c1, .int .i64 x.most] 74)) w.heap.size (colN (l.map (·.name)) k).1 := HM.out.grown (World.grownBy_alloc _ _ none) (by simp)
      have hbz : Below w.heap.size w (wr.alloc (.cells #[.string x.name, .slice A1 n1 c1, .int .i64 x.most] 74)) := HB.out.alloc HB.out.size _
      have hblk : Blk (wr.alloc (.cells #[.string x.name, .slice A1 n1 c1, .int .i64 x.most] 74)) wr.heap.size 74 #[.string x.name, .slice A1 n1 c1, .int .i64 x.most] := Blk.new _ _ _
      generalize wr.alloc (.cells #[.string x.name, .slice A1 n1 c1, .int .i64 x.most] 74) = wz at hmz hbz hblk ⊢
      refine (purposeName_any _ _ _ x _).mono ?_
      rintro e w' ⟨rfl, rfl⟩
      have hmw : MapAt strV i64V (wz.alloc (.cells #[.string x.name, .slice A1 n1 c1, .int .i64 x.most] 74)) w.heap.size (colN (l.map (·.name)) k).1 := hmz.grown (World.grownBy_alloc _ _ none) (by simp)
      have hbw : Below w.heap.size w (wz.alloc (.cells #[.string x.name, .slice A1 n1 c1, .int .i64 x.most] 74)) := hbz.alloc hbz.size _
      have hbk := hblk.alloc (.cells #[.string x.name, .slice A1 n1 c1, .int .i64 x.most] 74)
      generalize wz.alloc (.cells #[.string x.name, .slice A1 n1 c1, .int .i64 x.most] 74) = w1 at hmw hbw hbk ⊢
      have d0 := hbk.cell 0
      have d1 := hbk.cell 1
      have d2 := hbk.cell 2
      have lb := hbk.lt
      simp only [List.getElem?_toArray, List.getElem?_cons_zero, List.getElem?_cons_succ] at d0 d1 d2
      clear hmz hbz hblk hbk e0 e1 e2 hbl
      have hlook := run_lookup_m (keyEq_string Try.underlying9) Try.underlying98 (z := .int .i64 0) (by kernel_rfl) hmw x.name true
      have HMW := Lib.hid hmw
      have HBW := Lib.hid hbw
      clear hmw hbw HM HB
      cases hgt : getM (colN (l.map (·.name)) k).1 x.name with
      | some v =>
        rw [hgt] at hlook
        simp only [if_true, Option.map_some, Option.getD_some, Option.isSome_some] at hlook
        have HGT := Lib.hid hgt
        clear hgt
        go_wp2_with fail
        go_roundg (n - (k + 1))
        case measure => have := HG.out; omega
        case rel =>
          have he : colN (l.map (·.name)) (k + 1) = ((colN (l.map (·.name)) k).1, true) := by rw [colN_succ HX.out, cstep_yes HGT.out]
          exact ⟨k + 1, by omega, rfl, by go_num, by rw [he], by rw [he]; exact HMW.out, HBW.out⟩
      | none =>
        rw [hgt] at hlook
        simp only [if_true, Option.map_none, Option.getD_none, Option.isSome_none] at hlook
        have HGT := Lib.hid hgt
        clear hgt
        go_wp2_with fail
        refine (purposeName_any _ _ _ x _).mono ?_
        rintro e w' ⟨rfl, rfl⟩
        have hmw2 : MapAt strV i64V (w1.alloc (.cells #[.string x.name, .slice A1 n1 c1, .int .i64 x.most] 74)) w.heap.size (colN (l.map (·.name)) k).1 := HMW.out.grown (World.grownBy_alloc _ _ none) (by simp)
        have hbw2 : Below w.heap.size w (w1.alloc (.cells #[.string x.name, .slice A1 n1 c1, .int .i64 x.most] 74)) := HBW.out.alloc HBW.out.size _
        generalize w1.alloc (.cells #[.string x.name, .slice A1 n1 c1, .int .i64 x.most] 74) = w2 at hmw2 hbw2 ⊢
        obtain ⟨w3, hrun3, hm3, hg3⟩ := run_update_m (keyEq_string Try.underlying9) Try.underlying98 hmw2 x.name (k : Int)
        have HB3 := Lib.hid (hbw2.grown hg3 hbw2.size (fun r e => by cases e; exact Nat.le_refl _))
        clear hmw2 hbw2
        have HM3 := Lib.hid hm3
        clear hm3 hg3 hlook
        go_wp2_with fail
        go_roundg (n - (k + 1))
        case measure => have := HG.out; omega
        case rel =>
          have he : colN (l.map (·.name)) (k + 1) = (putM (colN (l.map (·.name)) k).1 x.name (k : Int), (colN (l.map (·.name)) k).2) := by rw [colN_succ HX.out, cstep_no HGT.out]
          exact ⟨k + 1, by omega, rfl, by go_num, by rw [he, HT.out], by rw [he]; exact HM3.out, HB3.out⟩
    · have HE : Hid (colN (l.map (·.name)) k = col (l.map (·.name))) := by show _ = _; have := HN.out; rw [col, show k = (l.map (·.name)).length by first | omega | (simp; omega)]
      go_wp2_with fail
      go_ret2
      exact ⟨_, by rw [HE.out]; rfl, by rw [← HE.out]; exact HM.out, Nat.le_refl _, HB.out⟩

set_option maxHeartbeats 1000000 in
theorem collectField_any (A : Option Addr) (n c : Nat) (l : List QField) (w : World) (hs : SlR 11 qFieldR w (.slice A n c) l) :
    Calls Try.prog 68 #[.slice A n c, .func (.func 60) #[] #[]] w (RetCol (l.map (·.name)) w) := by
  have hn2 : n ≤ 9223372036854775807 := by have := hs.le; omega
  have HN := Lib.hid hs.len
  have HS := Lib.hid hs
  clear hs
  have hmm := run_makeMapN
  go_enter Try.func68, Try.ntmps68
  go_wp2_with fail
  clear hmm
  have hm0 : MapAt strV i64V (w.alloc (.map #[] 0)) w.heap.size (colN (l.map (·.name)) 0).1 := MapAt.new _ _ w
  have hb0 : Below w.heap.size w (w.alloc (.map #[] 0)) := (Below.refl _ _).alloc (Nat.le_refl _) _
  have HM0 := Lib.hid hm0
  have HB0 := Lib.hid hb0
  clear hm0 hb0
  go_loopg [5, 15] n (fun g t i wr => ∃ k : Nat, k ≤ n ∧ g = n - k ∧ i = .int .i64 k ∧ t = .bool (colN (l.map (·.name)) k).2 ∧ MapAt strV i64V wr w.heap.size (colN (l.map (·.name)) k).1 ∧ Below w.heap.size w wr)
  case atStart => exact ⟨0, Nat.zero_le _, rfl, rfl, rfl, HM0.out, HB0.out⟩
  case round =>
    clear HM0 HB0
    obtain ⟨k, hk, hg, rfl, rfl, hm, hb⟩ := hrel
    have HG := Lib.hid hg
    have HM := Lib.hid hm
    have HB := Lib.hid hb
    clear hg hm hb
    by_cases hlt : k < n
    · obtain ⟨b, off, x, A1, n1, c1, rfl, hbl, hx, e0, e1, e2, e3, e4, e5, e6, e7, e8, e9, e10, _⟩ := qField_at (HS.out.mono qFieldR_mono HB.out) hlt
      have HX : Hid ((l.map (·.name))[k]? = some x.name) := by show _ = _; rw [List.getElem?_map, hx]; rfl
      clear hx
      obtain ⟨t, ht⟩ : ∃ t, (colN (l.map (·.name)) k).2 = t := ⟨_, rfl⟩
      have HT := Lib.hid ht
      rw [ht]
      clear ht
      go_wp2_with fail
      have hmz : MapAt strV i64V (wr.alloc (.cells #[.string x.name, .int .i64 x.type.kind, .int .i64 x.type.lo, .int .i64 x.type.hi, .string x.type.of_, .int .i64 x.type.unit, .slice A1 n1 c1, .int .i64 x.w0, .int .i64 x.w1, .int .i64 x.w2, .int .i64 x.w3] 45)) w.heap.size (colN (l.map (·.name)) k).1 := HM.out.grown (World.grownBy_alloc _ _ none) (by simp)
      have hbz : Below w.heap.size w (wr.alloc (.cells #[.string x.name, .int .i64 x.type.kind, .int .i64 x.type.lo, .int .i64 x.type.hi, .string x.type.of_, .int .i64 x.type.unit, .slice A1 n1 c1, .int .i64 x.w0, .int .i64 x.w1, .int .i64 x.w2, .int .i64 x.w3] 45)) := HB.out.alloc HB.out.size _
      have hblk : Blk (wr.alloc (.cells #[.string x.name, .int .i64 x.type.kind, .int .i64 x.type.lo, .int .i64 x.type.hi, .string x.type.of_, .int .i64 x.type.unit, .slice A1 n1 c1, .int .i64 x.w0, .int .i64 x.w1, .int .i64 x.w2, .int .i64 x.w3] 45)) wr.heap.size 45 #[.string x.name, .int .i64 x.type.kind, .int .i64 x.type.lo, .int .i64 x.type.hi, .string x.type.of_, .int .i64 x.type.unit, .slice A1 n1 c1, .int .i64 x.w0, .int .i64 x.w1, .int .i64 x.w2, .int .i64 x.w3] := Blk.new _ _ _
      generalize wr.alloc (.cells #[.string x.name, .int .i64 x.type.kind, .int .i64 x.type.lo, .int .i64 x.type.hi, .string x.type.of_, .int .i64 x.type.unit, .slice A1 n1 c1, .int .i64 x.w0, .int .i64 x.w1, .int .i64 x.w2, .int .i64 x.w3] 45) = wz at hmz hbz hblk ⊢
      refine (fieldName_any _ _ _ x _).mono ?_
      rintro e w' ⟨rfl, rfl⟩
      have hmw : MapAt strV i64V (wz.alloc (.cells #[.string x.name, .int .i64 x.type.kind, .int .i64 x.type.lo, .int .i64 x.type.hi, .string x.type.of_, .int .i64 x.type.unit, .slice A1 n1 c1, .int .i64 x.w0, .int .i64 x.w1, .int .i64 x.w2, .int .i64 x.w3] 45)) w.heap.size (colN (l.map (·.name)) k).1 := hmz.grown (World.grownBy_alloc _ _ none) (by simp)
      have hbw : Below w.heap.size w (wz.alloc (.cells #[.string x.name, .int .i64 x.type.kind, .int .i64 x.type.lo, .int .i64 x.type.hi, .string x.type.of_, .int .i64 x.type.unit, .slice A1 n1 c1, .int .i64 x.w0, .int .i64 x.w1, .int .i64 x.w2, .int .i64 x.w3] 45)) := hbz.alloc hbz.size _
      have hbk := hblk.alloc (.cells #[.string x.name, .int .i64 x.type.kind, .int .i64 x.type.lo, .int .i64 x.type.hi, .string x.type.of_, .int .i64 x.type.unit, .slice A1 n1 c1, .int .i64 x.w0, .int .i64 x.w1, .int .i64 x.w2, .int .i64 x.w3] 45)
      generalize wz.alloc (.cells #[.string x.name, .int .i64 x.type.kind, .int .i64 x.type.lo, .int .i64 x.type.hi, .string x.type.of_, .int .i64 x.type.unit, .slice A1 n1 c1, .int .i64 x.w0, .int .i64 x.w1, .int .i64 x.w2, .int .i64 x.w3] 45) = w1 at hmw hbw hbk ⊢
      have d0 := hbk.cell 0
      have d1 := hbk.cell 1
      have d2 := hbk.cell 2
      have d3 := hbk.cell 3
      have d4 := hbk.cell 4
      have d5 := hbk.cell 5
      have d6 := hbk.cell 6
      have d7 := hbk.cell 7
      have d8 := hbk.cell 8
      have d9 := hbk.cell 9
      have d10 := hbk.cell 10
      have lb := hbk.lt
      simp only [List.getElem?_toArray, List.getElem?_cons_zero, List.getElem?_cons_succ] at d0 d1 d2 d3 d4 d5 d6 d7 d8 d9 d10
      clear hmz hbz hblk hbk e0 e1 e2 e3 e4 e5 e6 e7 e8 e9 e10 hbl
      have hlook := run_lookup_m (keyEq_string Try.underlying9) Try.underlying98 (z := .int .i64 0) (by kernel_rfl) hmw x.name true
      have HMW := Lib.hid hmw
      have HBW := Lib.hid hbw
      clear hmw hbw HM HB
      cases hgt : getM (colN (l.map (·.name)) k).1 x.name with
      | some v =>
        rw [hgt] at hlook
        simp only [if_true, Option.map_some, Option.getD_some, Option.isSome_some] at hlook
        have HGT := Lib.hid hgt
        clear hgt
        go_wp2_with fail
        go_roundg (n - (k + 1))
        case measure => have := HG.out; omega
        case rel =>
          have he : colN (l.map (·.name)) (k + 1) = ((colN (l.map (·.name)) k).1, true) := by rw [colN_succ HX.out, cstep_yes HGT.out]
          exact ⟨k + 1, by omega, rfl, by go_num, by rw [he], by rw [he]; exact HMW.out, HBW.out⟩
      | none =>
        rw [hgt] at hlook
        simp only [if_true, Option.map_none, Option.getD_none, Option.isSome_none] at hlook
        have HGT := Lib.hid hgt
        clear hgt
        go_wp2_with fail
        refine (fieldName_any _ _ _ x _).mono ?_
        rintro e w' ⟨rfl, rfl⟩
        have hmw2 : MapAt strV i64V (w1.alloc (.cells #[.string x.name, .int .i64 x.type.kind, .int .i64 x.type.lo, .int .i64 x.type.hi, .string x.type.of_, .int .i64 x.type.unit, .slice A1 n1 c1, .int .i64 x.w0, .int .i64 x.w1, .int .i64 x.w2, .int .i64 x.w3] 45)) w.heap.size (colN (l.map (·.name)) k).1 := HMW.out.grown (World.grownBy_alloc _ _ none) (by simp)
        have hbw2 : Below w.heap.size w (w1.alloc (.cells #[.string x.name, .int .i64 x.type.kind, .int .i64 x.type.lo, .int .i64 x.type.hi, .string x.type.of_, .int .i64 x.type.unit, .slice A1 n1 c1, .int .i64 x.w0, .int .i64 x.w1, .int .i64 x.w2, .int .i64 x.w3] 45)) := HBW.out.alloc HBW.out.size _
        generalize w1.alloc (.cells #[.string x.name, .int .i64 x.type.kind, .int .i64 x.type.lo, .int .i64 x.type.hi, .string x.type.of_, .int .i64 x.type.unit, .slice A1 n1 c1, .int .i64 x.w0, .int .i64 x.w1, .int .i64 x.w2, .int .i64 x.w3] 45) = w2 at hmw2 hbw2 ⊢
        obtain ⟨w3, hrun3, hm3, hg3⟩ := run_update_m (keyEq_string Try.underlying9) Try.underlying98 hmw2 x.name (k : Int)
        have HB3 := Lib.hid (hbw2.grown hg3 hbw2.size (fun r e => by cases e; exact Nat.le_refl _))
        clear hmw2 hbw2
        have HM3 := Lib.hid hm3
        clear hm3 hg3 hlook
        go_wp2_with fail
        go_roundg (n - (k + 1))
        case measure => have := HG.out; omega
        case rel =>
          have he : colN (l.map (·.name)) (k + 1) = (putM (colN (l.map (·.name)) k).1 x.name (k : Int), (colN (l.map (·.name)) k).2) := by rw [colN_succ HX.out, cstep_no HGT.out]
          exact ⟨k + 1, by omega, rfl, by go_num, by rw [he, HT.out], by rw [he]; exact HM3.out, HB3.out⟩
    · have HE : Hid (colN (l.map (·.name)) k = col (l.map (·.name))) := by show _ = _; have := HN.out; rw [col, show k = (l.map (·.name)).length by first | omega | (simp; omega)]
      go_wp2_with fail
      go_ret2
      exact ⟨_, by rw [HE.out]; rfl, by rw [← HE.out]; exact HM.out, Nat.le_refl _, HB.out⟩

set_option maxHeartbeats 1000000 in
theorem collectFrom_any (A : Option Addr) (n c : Nat) (l : List QFrom) (w : World) (hs : SlR 8 qFromR w (.slice A n c) l) :
    Calls Try.prog 69 #[.slice A n c, .func (.func 70) #[] #[]] w (RetCol (l.map (·.name)) w) := by
  have hn2 : n ≤ 9223372036854775807 := by have := hs.le; omega
  have HN := Lib.hid hs.len
  have HS := Lib.hid hs
  clear hs
  have hmm := run_makeMapN
  go_enter Try.func69, Try.ntmps69
  go_wp2_with fail
  clear hmm
  have hm0 : MapAt strV i64V (w.alloc (.map #[] 0)) w.heap.size (colN (l.map (·.name)) 0).1 := MapAt.new _ _ w
  have hb0 : Below w.heap.size w (w.alloc (.map #[] 0)) := (Below.refl _ _).alloc (Nat.le_refl _) _
  have HM0 := Lib.hid hm0
  have HB0 := Lib.hid hb0
  clear hm0 hb0
  go_loopg [5, 15] n (fun g t i wr => ∃ k : Nat, k ≤ n ∧ g = n - k ∧ i = .int .i64 k ∧ t = .bool (colN (l.map (·.name)) k).2 ∧ MapAt strV i64V wr w.heap.size (colN (l.map (·.name)) k).1 ∧ Below w.heap.size w wr)
  case atStart => exact ⟨0, Nat.zero_le _, rfl, rfl, rfl, HM0.out, HB0.out⟩
  case round =>
    clear HM0 HB0
    obtain ⟨k, hk, hg, rfl, rfl, hm, hb⟩ := hrel
    have HG := Lib.hid hg
    have HM := Lib.hid hm
    have HB := Lib.hid hb
    clear hg hm hb
    by_cases hlt : k < n
    · obtain ⟨b, off, x, rfl, hbl, hx, e0, e1, e2, e3, e4, e5, e6, e7⟩ := qFrom_at (HS.out.mono qFromR_mono HB.out) hlt
      have HX : Hid ((l.map (·.name))[k]? = some x.name) := by show _ = _; rw [List.getElem?_map, hx]; rfl
      clear hx
      obtain ⟨t, ht⟩ : ∃ t, (colN (l.map (·.name)) k).2 = t := ⟨_, rfl⟩
      have HT := Lib.hid ht
      rw [ht]
      clear ht
      go_wp2_with fail
      have hmz : MapAt strV i64V (wr.alloc (.cells #[.string x.name, .string x.kind, .int .i64 x.schema, .string x.of_.name, .string x.of_.path, .int .i64 x.of_.var, .int .i64 x.of_.field, .int .i64 x.of_.n] 61)) w.heap.size (colN (l.map (·.name)) k).1 := HM.out.grown (World.grownBy_alloc _ _ none) (by simp)
      have hbz : Below w.heap.size w (wr.alloc (.cells #[.string x.name, .string x.kind, .int .i64 x.schema, .string x.of_.name, .string x.of_.path, .int .i64 x.of_.var, .int .i64 x.of_.field, .int .i64 x.of_.n] 61)) := HB.out.alloc HB.out.size _
      have hblk : Blk (wr.alloc (.cells #[.string x.name, .string x.kind, .int .i64 x.schema, .string x.of_.name, .string x.of_.path, .int .i64 x.of_.var, .int .i64 x.of_.field, .int .i64 x.of_.n] 61)) wr.heap.size 61 #[.string x.name, .string x.kind, .int .i64 x.schema, .string x.of_.name, .string x.of_.path, .int .i64 x.of_.var, .int .i64 x.of_.field, .int .i64 x.of_.n] := Blk.new _ _ _
      generalize wr.alloc (.cells #[.string x.name, .string x.kind, .int .i64 x.schema, .string x.of_.name, .string x.of_.path, .int .i64 x.of_.var, .int .i64 x.of_.field, .int .i64 x.of_.n] 61) = wz at hmz hbz hblk ⊢
      refine (fromName_any x _).mono ?_
      rintro e w' ⟨rfl, rfl⟩
      have hmw : MapAt strV i64V (wz.alloc (.cells #[.string x.name, .string x.kind, .int .i64 x.schema, .string x.of_.name, .string x.of_.path, .int .i64 x.of_.var, .int .i64 x.of_.field, .int .i64 x.of_.n] 61)) w.heap.size (colN (l.map (·.name)) k).1 := hmz.grown (World.grownBy_alloc _ _ none) (by simp)
      have hbw : Below w.heap.size w (wz.alloc (.cells #[.string x.name, .string x.kind, .int .i64 x.schema, .string x.of_.name, .string x.of_.path, .int .i64 x.of_.var, .int .i64 x.of_.field, .int .i64 x.of_.n] 61)) := hbz.alloc hbz.size _
      have hbk := hblk.alloc (.cells #[.string x.name, .string x.kind, .int .i64 x.schema, .string x.of_.name, .string x.of_.path, .int .i64 x.of_.var, .int .i64 x.of_.field, .int .i64 x.of_.n] 61)
      generalize wz.alloc (.cells #[.string x.name, .string x.kind, .int .i64 x.schema, .string x.of_.name, .string x.of_.path, .int .i64 x.of_.var, .int .i64 x.of_.field, .int .i64 x.of_.n] 61) = w1 at hmw hbw hbk ⊢
      have d0 := hbk.cell 0
      have d1 := hbk.cell 1
      have d2 := hbk.cell 2
      have d3 := hbk.cell 3
      have d4 := hbk.cell 4
      have d5 := hbk.cell 5
      have d6 := hbk.cell 6
      have d7 := hbk.cell 7
      have lb := hbk.lt
      simp only [List.getElem?_toArray, List.getElem?_cons_zero, List.getElem?_cons_succ] at d0 d1 d2 d3 d4 d5 d6 d7
      clear hmz hbz hblk hbk e0 e1 e2 e3 e4 e5 e6 e7 hbl
      have hlook := run_lookup_m (keyEq_string Try.underlying9) Try.underlying98 (z := .int .i64 0) (by kernel_rfl) hmw x.name true
      have HMW := Lib.hid hmw
      have HBW := Lib.hid hbw
      clear hmw hbw HM HB
      cases hgt : getM (colN (l.map (·.name)) k).1 x.name with
      | some v =>
        rw [hgt] at hlook
        simp only [if_true, Option.map_some, Option.getD_some, Option.isSome_some] at hlook
        have HGT := Lib.hid hgt
        clear hgt
        go_wp2_with fail
        go_roundg (n - (k + 1))
        case measure => have := HG.out; omega
        case rel =>
          have he : colN (l.map (·.name)) (k + 1) = ((colN (l.map (·.name)) k).1, true) := by rw [colN_succ HX.out, cstep_yes HGT.out]
          exact ⟨k + 1, by omega, rfl, by go_num, by rw [he], by rw [he]; exact HMW.out, HBW.out⟩
      | none =>
        rw [hgt] at hlook
        simp only [if_true, Option.map_none, Option.getD_none, Option.isSome_none] at hlook
        have HGT := Lib.hid hgt
        clear hgt
        go_wp2_with fail
        refine (fromName_any x _).mono ?_
        rintro e w' ⟨rfl, rfl⟩
        have hmw2 : MapAt strV i64V (w1.alloc (.cells #[.string x.name, .string x.kind, .int .i64 x.schema, .string x.of_.name, .string x.of_.path, .int .i64 x.of_.var, .int .i64 x.of_.field, .int .i64 x.of_.n] 61)) w.heap.size (colN (l.map (·.name)) k).1 := HMW.out.grown (World.grownBy_alloc _ _ none) (by simp)
        have hbw2 : Below w.heap.size w (w1.alloc (.cells #[.string x.name, .string x.kind, .int .i64 x.schema, .string x.of_.name, .string x.of_.path, .int .i64 x.of_.var, .int .i64 x.of_.field, .int .i64 x.of_.n] 61)) := HBW.out.alloc HBW.out.size _
        generalize w1.alloc (.cells #[.string x.name, .string x.kind, .int .i64 x.schema, .string x.of_.name, .string x.of_.path, .int .i64 x.of_.var, .int .i64 x.of_.field, .int .i64 x.of_.n] 61) = w2 at hmw2 hbw2 ⊢
        obtain ⟨w3, hrun3, hm3, hg3⟩ := run_update_m (keyEq_string Try.underlying9) Try.underlying98 hmw2 x.name (k : Int)
        have HB3 := Lib.hid (hbw2.grown hg3 hbw2.size (fun r e => by cases e; exact Nat.le_refl _))
        clear hmw2 hbw2
        have HM3 := Lib.hid hm3
        clear hm3 hg3 hlook
        go_wp2_with fail
        go_roundg (n - (k + 1))
        case measure => have := HG.out; omega
        case rel =>
          have he : colN (l.map (·.name)) (k + 1) = (putM (colN (l.map (·.name)) k).1 x.name (k : Int), (colN (l.map (·.name)) k).2) := by rw [colN_succ HX.out, cstep_no HGT.out]
          exact ⟨k + 1, by omega, rfl, by go_num, by rw [he, HT.out], by rw [he]; exact HM3.out, HB3.out⟩
    · have HE : Hid (colN (l.map (·.name)) k = col (l.map (·.name))) := by show _ = _; have := HN.out; rw [col, show k = (l.map (·.name)).length by first | omega | (simp; omega)]
      go_wp2_with fail
      go_ret2
      exact ⟨_, by rw [HE.out]; rfl, by rw [← HE.out]; exact HM.out, Nat.le_refl _, HB.out⟩

end Go.Proofs.Ytkkkephjljiplaa
