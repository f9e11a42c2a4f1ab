/- Contracts of names.first at three types, of Schema, Field and Purpose. Written by genfst.py. -/
import Derived.Test.YtkkkephjljiplaaNmColW
import Derived.Deep.RegionHeld3
namespace Go.Proofs.Ytkkkephjljiplaa
open Go.RowKit

/-- The place of a name, or -1. -/
def idxO (l : List ByteArray) (x : ByteArray) : Int := match idx l x with
  | none => -1
  | some n => (n : Int)
/-- The place of a name and true, or 0 and false. -/
def firstI (l : List ByteArray) (x : ByteArray) : Int := match idx l x with
  | none => 0
  | some n => (n : Int)
def firstB (l : List ByteArray) (x : ByteArray) : Bool := (idx l x).isSome
theorem idx_step {l : List ByteArray} {k : Nat} {x y : ByteArray} (h : idx (l.take k) x = none) (hk : l[k]? = some y) (hne : y ≠ x) : idx (l.take (k + 1)) x = none := by
  rw [List.take_add_one, hk, Option.toList, idx_snoc, h, if_neg hne]; rfl
theorem idx_hit {l : List ByteArray} {k : Nat} {x y : ByteArray} (h : idx (l.take k) x = none) (hk : l[k]? = some y) (he : y = x) : idx l x = some k := by
  have hl := (List.getElem?_eq_some_iff.1 hk).1
  unfold idx at h ⊢
  rw [List.findIdx?_eq_none_iff] at h
  rw [List.findIdx?_eq_some_iff_getElem]
  refine ⟨hl, ?_, fun j hj => ?_⟩
  · have : l[k] = y := (List.getElem?_eq_some_iff.1 hk).2
    simp [this, he]
  · have := h l[j] (by
      rw [List.mem_take_iff_getElem]
      exact ⟨j, by omega, rfl⟩)
    simpa using this

theorem firstFieldC_any (A1 : Option Addr) (n1 c1 : Nat) (x : QField) (F N : Nat) (nm : ByteArray) (w : World) (hF : w.cell? ⟨F, 0, none⟩ = some (.func (.func 60) #[] #[])) (hN : w.cell? ⟨N, 0, none⟩ = some (.string nm)) (lF : F < w.heap.size) (lN : N < w.heap.size) :
    Calls Try.prog 92 #[.agg #[.string x.name, .int .i64 x.type.kind, .int .i64 x.type.lo, .int .i64 x.type.hi, .string x.type.of_, .int .i64 x.type.unit, .slice A1 n1 c1, .int .i64 x.w0, .int .i64 x.w1, .int .i64 x.w2, .int .i64 x.w3], .pointer (some ⟨F, 0, none⟩), .pointer (some ⟨N, 0, none⟩)] w fun e w' => e = .returned (.bool (decide (x.name = nm))) ∧ Below w.heap.size w w' := by
  go_enter Try.func92, Try.ntmps92
  go_upto_region 1 with fail
  have hk : Blk (w.alloc (.cells #[.string x.name, .int .i64 x.type.kind, .int .i64 x.type.lo, .int .i64 x.type.hi, .string x.type.of_, .int .i64 x.type.unit, .slice A1 n1 c1, .int .i64 x.w0, .int .i64 x.w1, .int .i64 x.w2, .int .i64 x.w3] 45)) w.heap.size 45 #[.string x.name, .int .i64 x.type.kind, .int .i64 x.type.lo, .int .i64 x.type.hi, .string x.type.of_, .int .i64 x.type.unit, .slice A1 n1 c1, .int .i64 x.w0, .int .i64 x.w1, .int .i64 x.w2, .int .i64 x.w3] := Blk.new _ _ _
  have hb : Below w.heap.size w (w.alloc (.cells #[.string x.name, .int .i64 x.type.kind, .int .i64 x.type.lo, .int .i64 x.type.hi, .string x.type.of_, .int .i64 x.type.unit, .slice A1 n1 c1, .int .i64 x.w0, .int .i64 x.w1, .int .i64 x.w2, .int .i64 x.w3] 45)) := (Below.refl _ _).alloc (Nat.le_refl _) _
  obtain ⟨g, hg⟩ : ∃ g, g = w.heap.size := ⟨_, rfl⟩
  have hF' := (hb.cell (p := ⟨F, 0, none⟩) lF).trans hF
  have hN' := (hb.cell (p := ⟨N, 0, none⟩) lN).trans hN
  have lF' := Nat.lt_of_lt_of_le lF hb.size
  have lN' := Nat.lt_of_lt_of_le lN hb.size
  rw [← hg] at hk ⊢
  generalize w.alloc (.cells #[.string x.name, .int .i64 x.type.kind, .int .i64 x.type.lo, .int .i64 x.type.hi, .string x.type.of_, .int .i64 x.type.unit, .slice A1 n1 c1, .int .i64 x.w0, .int .i64 x.w1, .int .i64 x.w2, .int .i64 x.w3] 45) = wb at hk hb hF' hN' lF' lN' ⊢
  have d0 := hk.cell 0
  have d1 := hk.cell 1
  have d2 := hk.cell 2
  have d3 := hk.cell 3
  have d4 := hk.cell 4
  have d5 := hk.cell 5
  have d6 := hk.cell 6
  have d7 := hk.cell 7
  have d8 := hk.cell 8
  have d9 := hk.cell 9
  have d10 := hk.cell 10
  have ld := hk.lt
  simp only [List.getElem?_toArray, List.getElem?_cons_zero, List.getElem?_cons_succ] at d0 d1 d2 d3 d4 d5 d6 d7 d8 d9 d10
  have HB := Lib.hid hb
  clear hk hb hF hN hg lF lN
  go_region_held3 (fun w' => w'.cell? ⟨F, 0, none⟩ = some (.func (.func 60) #[] #[]) ∧ w'.cell? ⟨N, 0, none⟩ = some (.string nm) ∧ w'.cell? ⟨g, 0, none⟩ = some (.string x.name) ∧ w'.cell? ⟨g, 1, none⟩ = some (.int .i64 x.type.kind) ∧ w'.cell? ⟨g, 2, none⟩ = some (.int .i64 x.type.lo) ∧ w'.cell? ⟨g, 3, none⟩ = some (.int .i64 x.type.hi) ∧ w'.cell? ⟨g, 4, none⟩ = some (.string x.type.of_) ∧ w'.cell? ⟨g, 5, none⟩ = some (.int .i64 x.type.unit) ∧ w'.cell? ⟨g, 6, none⟩ = some (.slice A1 n1 c1) ∧ w'.cell? ⟨g, 7, none⟩ = some (.int .i64 x.w0) ∧ w'.cell? ⟨g, 8, none⟩ = some (.int .i64 x.w1) ∧ w'.cell? ⟨g, 9, none⟩ = some (.int .i64 x.w2) ∧ w'.cell? ⟨g, 10, none⟩ = some (.int .i64 x.w3) ∧ Below w.heap.size w w')
    (first | (refine ⟨?_, ?_, ?_, ?_, ?_, ?_, ?_, ?_, ?_, ?_, ?_, ?_, ?_, ?_⟩ <;> first | assumption | exact HB.out.drew | exact HB.out | (simp only [go_sem]; assumption) | (simp [go_sem, *]; done) | exact HB.out.drew.alloc (by have := HB.out.size; simpa using this) _))
    (first | (go_at_call 60; refine (fieldName_any _ _ _ x _).mono ?_; rintro e w' ⟨rfl, rfl⟩))
  go_wp2
  go_ret
  exact ⟨by rw [str_beq]; rfl, by first | exact HB.out.drew.alloc (by have := HB.out.size; simpa using this) _ | exact (HB.out.alloc HB.out.size _).drew⟩

set_option maxHeartbeats 1000000 in
theorem indexField_any (A : Option Addr) (n c : Nat) (l : List QField) (F N : Nat) (nm : ByteArray) (w : World) (hs : SlR 11 qFieldR w (.slice A n c) l) (hF : w.cell? ⟨F, 0, none⟩ = some (.func (.func 60) #[] #[])) (hN : w.cell? ⟨N, 0, none⟩ = some (.string nm)) (lF : F < w.heap.size) (lN : N < w.heap.size) :
    Calls Try.prog 91 #[.slice A n c, .func (.func 92) #[] #[.pointer (some ⟨F, 0, none⟩), .pointer (some ⟨N, 0, none⟩)]] w fun e w' => e = .returned (.int .i64 (idxO (l.map (·.name)) nm)) ∧ Below w.heap.size w w' := by
  have hn2 : n ≤ 9223372036854775807 := by have := hs.le; omega
  have HL := Lib.hid hs.len
  have HS := Lib.hid hs
  have HF := Lib.hid hF
  have HN := Lib.hid hN
  clear hs hF hN
  go_enter Try.func91, Try.ntmps91
  go_wp2_with fail
  go_loopg [8] n (fun g i wr => ∃ k : Nat, k ≤ n ∧ g = n - k ∧ i = .int .i64 k ∧ idx ((l.map (·.name)).take k) nm = none ∧ Below w.heap.size w wr)
  case atStart => exact ⟨0, Nat.zero_le _, rfl, rfl, rfl, Below.refl _ _⟩
  case round =>
    obtain ⟨k, hk, hg, rfl, hno, hb⟩ := hrel
    have HG := Lib.hid hg
    have HNO := Lib.hid hno
    have HB := Lib.hid hb
    clear hg hno hb
    by_cases hlt : k < n
    · obtain ⟨b, off, x, A1, n1, c1, rfl, hbl, hx, e0, e1, e2, e3, e4, e5, e6, e7, e8, e9, e10, _⟩ := qField_at (HS.out.mono qFieldR_mono HB.out) hlt
      have HX : Hid ((l.map (·.name))[k]? = some x.name) := by show _ = _; rw [List.getElem?_map, hx]; rfl
      clear hx
      have hkn : (k : Int) < (n : Int) := by omega
      have hk0 : (0 : Int) ≤ (k : Int) := by omega
      go_wp2_with fail
      refine (firstFieldC_any A1 n1 c1 x F N nm wr ((HB.out.cell (p := ⟨F, 0, none⟩) lF).trans HF.out) ((HB.out.cell (p := ⟨N, 0, none⟩) lN).trans HN.out) (Nat.lt_of_lt_of_le lF HB.out.size) (Nat.lt_of_lt_of_le lN HB.out.size)).mono ?_
      rintro e w' ⟨rfl, hb'⟩
      have HB' := Lib.hid (HB.out.trans (hb'.mono HB.out.size))
      clear hb' e0
      by_cases he : x.name = nm
      · have td : decide (x.name = nm) = true := by simpa using he
        rw [td]
        have HE : Hid (idxO (l.map (·.name)) nm = (k : Int)) := Lib.hid (by unfold idxO; rw [idx_hit HNO.out HX.out he])
        clear td he
        go_wp2_with fail
        go_ret
        exact ⟨by rw [HE.out]; rfl, HB'.out⟩
      · have td : decide (x.name = nm) = false := by simpa using he
        rw [td]
        have HE := Lib.hid (idx_step HNO.out HX.out he)
        clear td he
        go_wp2_with fail
        go_roundg (n - (k + 1))
        case measure => have := HG.out; omega
        case rel => exact ⟨k + 1, by omega, rfl, by go_num, HE.out, HB'.out⟩
    · have HE : Hid (idxO (l.map (·.name)) nm = -1) := Lib.hid (by
        have h0 := HNO.out
        rw [List.take_of_length_le (by have := HL.out; simp; omega)] at h0
        unfold idxO; rw [h0])
      go_wp2_with fail
      go_ret
      exact ⟨by rw [HE.out]; rfl, HB.out⟩

theorem firstField_any (A : Option Addr) (n c : Nat) (l : List QField) (nm : ByteArray) (w : World) (hs : SlR 11 qFieldR w (.slice A n c) l) :
    Calls Try.prog 59 #[.slice A n c, .func (.func 60) #[] #[], .string nm] w fun e w' => e = .returned (.tuple #[.int .i64 (firstI (l.map (·.name)) nm), .bool (firstB (l.map (·.name)) nm)]) ∧ Below w.heap.size w w' := by
  have HS := Lib.hid hs
  clear hs
  have hmf : ∀ (fn : Fn) (first cap : Array Value) (w : World), (Instr.makeFunc fn first cap).run Try.prog w = .ok (.func fn first cap) w := fun _ _ _ _ => rfl
  go_enter Try.func59, Try.ntmps59
  go_wp2_with fail
  have hb : Below w.heap.size w ((w.alloc (.cells #[.func (.func 60) #[] #[]] 132)).alloc (.cells #[.string nm] 9)) := ((Below.refl _ _).alloc (Nat.le_refl _) _).alloc (by simp) _
  refine (indexField_any A n c l w.heap.size (w.heap.size + 1) nm _ (HS.out.mono qFieldR_mono hb) (by simp [go_sem]) (by simp [go_sem]) (by simp; omega) (by simp)).mono ?_
  rintro e w' ⟨rfl, hb'⟩
  have HB := Lib.hid (hb.trans (hb'.mono hb.size))
  clear hb hb'
  cases hix : idx (l.map (·.name)) nm with
  | none =>
    have e1 : idxO (l.map (·.name)) nm = -1 := by unfold idxO; rw [hix]
    have HE1 : Hid (firstI (l.map (·.name)) nm = 0) := Lib.hid (by unfold firstI; rw [hix])
    have HE2 : Hid (firstB (l.map (·.name)) nm = false) := Lib.hid (by unfold firstB; rw [hix]; rfl)
    rw [e1]
    clear hix e1
    go_wp2_with fail
    go_ret2
    exact ⟨by rw [HE1.out, HE2.out]; rfl, HB.out⟩
  | some q =>
    have e1 : idxO (l.map (·.name)) nm = (q : Int) := by unfold idxO; rw [hix]
    have HE1 : Hid (firstI (l.map (·.name)) nm = (q : Int)) := Lib.hid (by unfold firstI; rw [hix])
    have HE2 : Hid (firstB (l.map (·.name)) nm = true) := Lib.hid (by unfold firstB; rw [hix]; rfl)
    have tq : decide ((q : Int) < 0) = false := by simp
    rw [e1]
    clear hix e1
    go_wp2_with fail
    go_ret2
    exact ⟨by rw [HE1.out, HE2.out]; rfl, HB.out⟩

theorem firstSchemaC_any (A1 A2 : Option Addr) (n1 c1 n2 c2 : Nat) (x : QSchema) (F N : Nat) (nm : ByteArray) (w : World) (hF : w.cell? ⟨F, 0, none⟩ = some (.func (.func 52) #[] #[])) (hN : w.cell? ⟨N, 0, none⟩ = some (.string nm)) (lF : F < w.heap.size) (lN : N < w.heap.size) :
    Calls Try.prog 88 #[.agg #[.string x.name, .string x.by_, .int .i64 x.issuer, .int .i64 x.version, .slice A1 n1 c1, .slice A2 n2 c2], .pointer (some ⟨F, 0, none⟩), .pointer (some ⟨N, 0, none⟩)] w fun e w' => e = .returned (.bool (decide (x.name = nm))) ∧ Below w.heap.size w w' := by
  go_enter Try.func88, Try.ntmps88
  go_upto_region 1 with fail
  have hk : Blk (w.alloc (.cells #[.string x.name, .string x.by_, .int .i64 x.issuer, .int .i64 x.version, .slice A1 n1 c1, .slice A2 n2 c2] 40)) w.heap.size 40 #[.string x.name, .string x.by_, .int .i64 x.issuer, .int .i64 x.version, .slice A1 n1 c1, .slice A2 n2 c2] := Blk.new _ _ _
  have hb : Below w.heap.size w (w.alloc (.cells #[.string x.name, .string x.by_, .int .i64 x.issuer, .int .i64 x.version, .slice A1 n1 c1, .slice A2 n2 c2] 40)) := (Below.refl _ _).alloc (Nat.le_refl _) _
  obtain ⟨g, hg⟩ : ∃ g, g = w.heap.size := ⟨_, rfl⟩
  have hF' := (hb.cell (p := ⟨F, 0, none⟩) lF).trans hF
  have hN' := (hb.cell (p := ⟨N, 0, none⟩) lN).trans hN
  have lF' := Nat.lt_of_lt_of_le lF hb.size
  have lN' := Nat.lt_of_lt_of_le lN hb.size
  rw [← hg] at hk ⊢
  generalize w.alloc (.cells #[.string x.name, .string x.by_, .int .i64 x.issuer, .int .i64 x.version, .slice A1 n1 c1, .slice A2 n2 c2] 40) = wb at hk hb hF' hN' lF' lN' ⊢
  have d0 := hk.cell 0
  have d1 := hk.cell 1
  have d2 := hk.cell 2
  have d3 := hk.cell 3
  have d4 := hk.cell 4
  have d5 := hk.cell 5
  have ld := hk.lt
  simp only [List.getElem?_toArray, List.getElem?_cons_zero, List.getElem?_cons_succ] at d0 d1 d2 d3 d4 d5
  have HB := Lib.hid hb
  clear hk hb hF hN hg lF lN
  go_region_held3 (fun w' => w'.cell? ⟨F, 0, none⟩ = some (.func (.func 52) #[] #[]) ∧ w'.cell? ⟨N, 0, none⟩ = some (.string nm) ∧ w'.cell? ⟨g, 0, none⟩ = some (.string x.name) ∧ w'.cell? ⟨g, 1, none⟩ = some (.string x.by_) ∧ w'.cell? ⟨g, 2, none⟩ = some (.int .i64 x.issuer) ∧ w'.cell? ⟨g, 3, none⟩ = some (.int .i64 x.version) ∧ w'.cell? ⟨g, 4, none⟩ = some (.slice A1 n1 c1) ∧ w'.cell? ⟨g, 5, none⟩ = some (.slice A2 n2 c2) ∧ Below w.heap.size w w')
    (first | (refine ⟨?_, ?_, ?_, ?_, ?_, ?_, ?_, ?_, ?_⟩ <;> first | assumption | exact HB.out.drew | exact HB.out | (simp only [go_sem]; assumption) | (simp [go_sem, *]; done) | exact HB.out.drew.alloc (by have := HB.out.size; simpa using this) _))
    (first | (go_at_call 52; refine (schemaName_any _ _ _ _ _ _ x _).mono ?_; rintro e w' ⟨rfl, rfl⟩))
  go_wp2
  go_ret
  exact ⟨by rw [str_beq]; rfl, by first | exact HB.out.drew.alloc (by have := HB.out.size; simpa using this) _ | exact (HB.out.alloc HB.out.size _).drew⟩

set_option maxHeartbeats 1000000 in
theorem indexSchema_any (A : Option Addr) (n c : Nat) (l : List QSchema) (F N : Nat) (nm : ByteArray) (w : World) (hs : SlR 6 qSchemaR w (.slice A n c) l) (hF : w.cell? ⟨F, 0, none⟩ = some (.func (.func 52) #[] #[])) (hN : w.cell? ⟨N, 0, none⟩ = some (.string nm)) (lF : F < w.heap.size) (lN : N < w.heap.size) :
    Calls Try.prog 87 #[.slice A n c, .func (.func 88) #[] #[.pointer (some ⟨F, 0, none⟩), .pointer (some ⟨N, 0, none⟩)]] w fun e w' => e = .returned (.int .i64 (idxO (l.map (·.name)) nm)) ∧ Below w.heap.size w w' := by
  have hn2 : n ≤ 9223372036854775807 := by have := hs.le; omega
  have HL := Lib.hid hs.len
  have HS := Lib.hid hs
  have HF := Lib.hid hF
  have HN := Lib.hid hN
  clear hs hF hN
  go_enter Try.func87, Try.ntmps87
  go_wp2_with fail
  go_loopg [8] n (fun g i wr => ∃ k : Nat, k ≤ n ∧ g = n - k ∧ i = .int .i64 k ∧ idx ((l.map (·.name)).take k) nm = none ∧ Below w.heap.size w wr)
  case atStart => exact ⟨0, Nat.zero_le _, rfl, rfl, rfl, Below.refl _ _⟩
  case round =>
    obtain ⟨k, hk, hg, rfl, hno, hb⟩ := hrel
    have HG := Lib.hid hg
    have HNO := Lib.hid hno
    have HB := Lib.hid hb
    clear hg hno hb
    by_cases hlt : k < n
    · obtain ⟨b, off, x, A1, n1, c1, A2, n2, c2, rfl, hbl, hx, e0, e1, e2, e3, e4, e5, _, _⟩ := qSchema_at (HS.out.mono qSchemaR_mono HB.out) hlt
      have HX : Hid ((l.map (·.name))[k]? = some x.name) := by show _ = _; rw [List.getElem?_map, hx]; rfl
      clear hx
      have hkn : (k : Int) < (n : Int) := by omega
      have hk0 : (0 : Int) ≤ (k : Int) := by omega
      go_wp2_with fail
      refine (firstSchemaC_any A1 A2 n1 c1 n2 c2 x F N nm wr ((HB.out.cell (p := ⟨F, 0, none⟩) lF).trans HF.out) ((HB.out.cell (p := ⟨N, 0, none⟩) lN).trans HN.out) (Nat.lt_of_lt_of_le lF HB.out.size) (Nat.lt_of_lt_of_le lN HB.out.size)).mono ?_
      rintro e w' ⟨rfl, hb'⟩
      have HB' := Lib.hid (HB.out.trans (hb'.mono HB.out.size))
      clear hb' e0
      by_cases he : x.name = nm
      · have td : decide (x.name = nm) = true := by simpa using he
        rw [td]
        have HE : Hid (idxO (l.map (·.name)) nm = (k : Int)) := Lib.hid (by unfold idxO; rw [idx_hit HNO.out HX.out he])
        clear td he
        go_wp2_with fail
        go_ret
        exact ⟨by rw [HE.out]; rfl, HB'.out⟩
      · have td : decide (x.name = nm) = false := by simpa using he
        rw [td]
        have HE := Lib.hid (idx_step HNO.out HX.out he)
        clear td he
        go_wp2_with fail
        go_roundg (n - (k + 1))
        case measure => have := HG.out; omega
        case rel => exact ⟨k + 1, by omega, rfl, by go_num, HE.out, HB'.out⟩
    · have HE : Hid (idxO (l.map (·.name)) nm = -1) := Lib.hid (by
        have h0 := HNO.out
        rw [List.take_of_length_le (by have := HL.out; simp; omega)] at h0
        unfold idxO; rw [h0])
      go_wp2_with fail
      go_ret
      exact ⟨by rw [HE.out]; rfl, HB.out⟩

theorem firstSchema_any (A : Option Addr) (n c : Nat) (l : List QSchema) (nm : ByteArray) (w : World) (hs : SlR 6 qSchemaR w (.slice A n c) l) :
    Calls Try.prog 51 #[.slice A n c, .func (.func 52) #[] #[], .string nm] w fun e w' => e = .returned (.tuple #[.int .i64 (firstI (l.map (·.name)) nm), .bool (firstB (l.map (·.name)) nm)]) ∧ Below w.heap.size w w' := by
  have HS := Lib.hid hs
  clear hs
  have hmf : ∀ (fn : Fn) (first cap : Array Value) (w : World), (Instr.makeFunc fn first cap).run Try.prog w = .ok (.func fn first cap) w := fun _ _ _ _ => rfl
  go_enter Try.func51, Try.ntmps51
  go_wp2_with fail
  have hb : Below w.heap.size w ((w.alloc (.cells #[.func (.func 52) #[] #[]] 125)).alloc (.cells #[.string nm] 9)) := ((Below.refl _ _).alloc (Nat.le_refl _) _).alloc (by simp) _
  refine (indexSchema_any A n c l w.heap.size (w.heap.size + 1) nm _ (HS.out.mono qSchemaR_mono hb) (by simp [go_sem]) (by simp [go_sem]) (by simp; omega) (by simp)).mono ?_
  rintro e w' ⟨rfl, hb'⟩
  have HB := Lib.hid (hb.trans (hb'.mono hb.size))
  clear hb hb'
  cases hix : idx (l.map (·.name)) nm with
  | none =>
    have e1 : idxO (l.map (·.name)) nm = -1 := by unfold idxO; rw [hix]
    have HE1 : Hid (firstI (l.map (·.name)) nm = 0) := Lib.hid (by unfold firstI; rw [hix])
    have HE2 : Hid (firstB (l.map (·.name)) nm = false) := Lib.hid (by unfold firstB; rw [hix]; rfl)
    rw [e1]
    clear hix e1
    go_wp2_with fail
    go_ret2
    exact ⟨by rw [HE1.out, HE2.out]; rfl, HB.out⟩
  | some q =>
    have e1 : idxO (l.map (·.name)) nm = (q : Int) := by unfold idxO; rw [hix]
    have HE1 : Hid (firstI (l.map (·.name)) nm = (q : Int)) := Lib.hid (by unfold firstI; rw [hix])
    have HE2 : Hid (firstB (l.map (·.name)) nm = true) := Lib.hid (by unfold firstB; rw [hix]; rfl)
    have tq : decide ((q : Int) < 0) = false := by simp
    rw [e1]
    clear hix e1
    go_wp2_with fail
    go_ret2
    exact ⟨by rw [HE1.out, HE2.out]; rfl, HB.out⟩

theorem firstPurposeC_any (A1 : Option Addr) (n1 c1 : Nat) (x : QPurpose) (F N : Nat) (nm : ByteArray) (w : World) (hF : w.cell? ⟨F, 0, none⟩ = some (.func (.func 57) #[] #[])) (hN : w.cell? ⟨N, 0, none⟩ = some (.string nm)) (lF : F < w.heap.size) (lN : N < w.heap.size) :
    Calls Try.prog 90 #[.agg #[.string x.name, .slice A1 n1 c1, .int .i64 x.most], .pointer (some ⟨F, 0, none⟩), .pointer (some ⟨N, 0, none⟩)] w fun e w' => e = .returned (.bool (decide (x.name = nm))) ∧ Below w.heap.size w w' := by
  go_enter Try.func90, Try.ntmps90
  go_upto_region 1 with fail
  have hk : Blk (w.alloc (.cells #[.string x.name, .slice A1 n1 c1, .int .i64 x.most] 74)) w.heap.size 74 #[.string x.name, .slice A1 n1 c1, .int .i64 x.most] := Blk.new _ _ _
  have hb : Below w.heap.size w (w.alloc (.cells #[.string x.name, .slice A1 n1 c1, .int .i64 x.most] 74)) := (Below.refl _ _).alloc (Nat.le_refl _) _
  obtain ⟨g, hg⟩ : ∃ g, g = w.heap.size := ⟨_, rfl⟩
  have hF' := (hb.cell (p := ⟨F, 0, none⟩) lF).trans hF
  have hN' := (hb.cell (p := ⟨N, 0, none⟩) lN).trans hN
  have lF' := Nat.lt_of_lt_of_le lF hb.size
  have lN' := Nat.lt_of_lt_of_le lN hb.size
  rw [← hg] at hk ⊢
  generalize w.alloc (.cells #[.string x.name, .slice A1 n1 c1, .int .i64 x.most] 74) = wb at hk hb hF' hN' lF' lN' ⊢
  have d0 := hk.cell 0
  have d1 := hk.cell 1
  have d2 := hk.cell 2
  have ld := hk.lt
  simp only [List.getElem?_toArray, List.getElem?_cons_zero, List.getElem?_cons_succ] at d0 d1 d2
  have HB := Lib.hid hb
  clear hk hb hF hN hg lF lN
  go_region_held3 (fun w' => w'.cell? ⟨F, 0, none⟩ = some (.func (.func 57) #[] #[]) ∧ w'.cell? ⟨N, 0, none⟩ = some (.string nm) ∧ w'.cell? ⟨g, 0, none⟩ = some (.string x.name) ∧ w'.cell? ⟨g, 1, none⟩ = some (.slice A1 n1 c1) ∧ w'.cell? ⟨g, 2, none⟩ = some (.int .i64 x.most) ∧ Below w.heap.size w w')
    (first | (refine ⟨?_, ?_, ?_, ?_, ?_, ?_⟩ <;> first | assumption | exact HB.out.drew | exact HB.out | (simp only [go_sem]; assumption) | (simp [go_sem, *]; done) | exact HB.out.drew.alloc (by have := HB.out.size; simpa using this) _))
    (first | (go_at_call 57; refine (purposeName_any _ _ _ x _).mono ?_; rintro e w' ⟨rfl, rfl⟩))
  go_wp2
  go_ret
  exact ⟨by rw [str_beq]; rfl, by first | exact HB.out.drew.alloc (by have := HB.out.size; simpa using this) _ | exact (HB.out.alloc HB.out.size _).drew⟩

set_option maxHeartbeats 1000000 in
theorem indexPurpose_any (A : Option Addr) (n c : Nat) (l : List QPurpose) (F N : Nat) (nm : ByteArray) (w : World) (hs : SlR 3 qPurposeR w (.slice A n c) l) (hF : w.cell? ⟨F, 0, none⟩ = some (.func (.func 57) #[] #[])) (hN : w.cell? ⟨N, 0, none⟩ = some (.string nm)) (lF : F < w.heap.size) (lN : N < w.heap.size) :
    Calls Try.prog 89 #[.slice A n c, .func (.func 90) #[] #[.pointer (some ⟨F, 0, none⟩), .pointer (some ⟨N, 0, none⟩)]] w fun e w' => e = .returned (.int .i64 (idxO (l.map (·.name)) nm)) ∧ Below w.heap.size w w' := by
  have hn2 : n ≤ 9223372036854775807 := by have := hs.le; omega
  have HL := Lib.hid hs.len
  have HS := Lib.hid hs
  have HF := Lib.hid hF
  have HN := Lib.hid hN
  clear hs hF hN
  go_enter Try.func89, Try.ntmps89
  go_wp2_with fail
  go_loopg [8] n (fun g i wr => ∃ k : Nat, k ≤ n ∧ g = n - k ∧ i = .int .i64 k ∧ idx ((l.map (·.name)).take k) nm = none ∧ Below w.heap.size w wr)
  case atStart => exact ⟨0, Nat.zero_le _, rfl, rfl, rfl, Below.refl _ _⟩
  case round =>
    obtain ⟨k, hk, hg, rfl, hno, hb⟩ := hrel
    have HG := Lib.hid hg
    have HNO := Lib.hid hno
    have HB := Lib.hid hb
    clear hg hno hb
    by_cases hlt : k < n
    · obtain ⟨b, off, x, A1, n1, c1, rfl, hbl, hx, e0, e1, e2, _⟩ := qPurpose_at (HS.out.mono qPurposeR_mono HB.out) hlt
      have HX : Hid ((l.map (·.name))[k]? = some x.name) := by show _ = _; rw [List.getElem?_map, hx]; rfl
      clear hx
      have hkn : (k : Int) < (n : Int) := by omega
      have hk0 : (0 : Int) ≤ (k : Int) := by omega
      go_wp2_with fail
      refine (firstPurposeC_any A1 n1 c1 x F N nm wr ((HB.out.cell (p := ⟨F, 0, none⟩) lF).trans HF.out) ((HB.out.cell (p := ⟨N, 0, none⟩) lN).trans HN.out) (Nat.lt_of_lt_of_le lF HB.out.size) (Nat.lt_of_lt_of_le lN HB.out.size)).mono ?_
      rintro e w' ⟨rfl, hb'⟩
      have HB' := Lib.hid (HB.out.trans (hb'.mono HB.out.size))
      clear hb' e0
      by_cases he : x.name = nm
      · have td : decide (x.name = nm) = true := by simpa using he
        rw [td]
        have HE : Hid (idxO (l.map (·.name)) nm = (k : Int)) := Lib.hid (by unfold idxO; rw [idx_hit HNO.out HX.out he])
        clear td he
        go_wp2_with fail
        go_ret
        exact ⟨by rw [HE.out]; rfl, HB'.out⟩
      · have td : decide (x.name = nm) = false := by simpa using he
        rw [td]
        have HE := Lib.hid (idx_step HNO.out HX.out he)
        clear td he
        go_wp2_with fail
        go_roundg (n - (k + 1))
        case measure => have := HG.out; omega
        case rel => exact ⟨k + 1, by omega, rfl, by go_num, HE.out, HB'.out⟩
    · have HE : Hid (idxO (l.map (·.name)) nm = -1) := Lib.hid (by
        have h0 := HNO.out
        rw [List.take_of_length_le (by have := HL.out; simp; omega)] at h0
        unfold idxO; rw [h0])
      go_wp2_with fail
      go_ret
      exact ⟨by rw [HE.out]; rfl, HB.out⟩

theorem firstPurpose_any (A : Option Addr) (n c : Nat) (l : List QPurpose) (nm : ByteArray) (w : World) (hs : SlR 3 qPurposeR w (.slice A n c) l) :
    Calls Try.prog 56 #[.slice A n c, .func (.func 57) #[] #[], .string nm] w fun e w' => e = .returned (.tuple #[.int .i64 (firstI (l.map (·.name)) nm), .bool (firstB (l.map (·.name)) nm)]) ∧ Below w.heap.size w w' := by
  have HS := Lib.hid hs
  clear hs
  have hmf : ∀ (fn : Fn) (first cap : Array Value) (w : World), (Instr.makeFunc fn first cap).run Try.prog w = .ok (.func fn first cap) w := fun _ _ _ _ => rfl
  go_enter Try.func56, Try.ntmps56
  go_wp2_with fail
  have hb : Below w.heap.size w ((w.alloc (.cells #[.func (.func 57) #[] #[]] 130)).alloc (.cells #[.string nm] 9)) := ((Below.refl _ _).alloc (Nat.le_refl _) _).alloc (by simp) _
  refine (indexPurpose_any A n c l w.heap.size (w.heap.size + 1) nm _ (HS.out.mono qPurposeR_mono hb) (by simp [go_sem]) (by simp [go_sem]) (by simp; omega) (by simp)).mono ?_
  rintro e w' ⟨rfl, hb'⟩
  have HB := Lib.hid (hb.trans (hb'.mono hb.size))
  clear hb hb'
  cases hix : idx (l.map (·.name)) nm with
  | none =>
    have e1 : idxO (l.map (·.name)) nm = -1 := by unfold idxO; rw [hix]
    have HE1 : Hid (firstI (l.map (·.name)) nm = 0) := Lib.hid (by unfold firstI; rw [hix])
    have HE2 : Hid (firstB (l.map (·.name)) nm = false) := Lib.hid (by unfold firstB; rw [hix]; rfl)
    rw [e1]
    clear hix e1
    go_wp2_with fail
    go_ret2
    exact ⟨by rw [HE1.out, HE2.out]; rfl, HB.out⟩
  | some q =>
    have e1 : idxO (l.map (·.name)) nm = (q : Int) := by unfold idxO; rw [hix]
    have HE1 : Hid (firstI (l.map (·.name)) nm = (q : Int)) := Lib.hid (by unfold firstI; rw [hix])
    have HE2 : Hid (firstB (l.map (·.name)) nm = true) := Lib.hid (by unfold firstB; rw [hix]; rfl)
    have tq : decide ((q : Int) < 0) = false := by simp
    rw [e1]
    clear hix e1
    go_wp2_with fail
    go_ret2
    exact ⟨by rw [HE1.out, HE2.out]; rfl, HB.out⟩

theorem namesSchema_any (A1 A2 A3 A4 A5 A6 : Option Addr) (n1 c1 n2 c2 n3 c3 n4 c4 n5 c5 n6 c6 : Nat) (s : QSource) (nm : ByteArray) (w : World) (hs : SlR 6 qSchemaR w (.slice A3 n3 c3) s.schemas) :
    Calls Try.prog 19 #[.agg #[.slice A1 n1 c1, .slice A2 n2 c2, .slice A3 n3 c3, .slice A4 n4 c4, .slice A5 n5 c5, .slice A6 n6 c6], .string nm] w fun e w' => e = .returned (.tuple #[.int .i64 (firstI (s.schemas.map (·.name)) nm), .bool (firstB (s.schemas.map (·.name)) nm)]) ∧ Below w.heap.size w w' := by
  have HS := Lib.hid hs
  clear hs
  go_enter Try.func19, Try.ntmps19
  go_wp2_with fail
  have hb : Below w.heap.size w (w.alloc (.cells #[.slice A1 n1 c1, .slice A2 n2 c2, .slice A3 n3 c3, .slice A4 n4 c4, .slice A5 n5 c5, .slice A6 n6 c6] 29)) := (Below.refl _ _).alloc (Nat.le_refl _) _
  refine (firstSchema_any A3 n3 c3 s.schemas nm _ (HS.out.mono qSchemaR_mono hb)).mono ?_
  rintro e w' ⟨rfl, hb'⟩
  have HB := Lib.hid (hb.trans (hb'.mono hb.size))
  clear hb hb'
  go_wp2_with fail
  go_ret2
  exact ⟨rfl, HB.out⟩

theorem namesPurpose_any (A1 A2 A3 A4 A5 A6 : Option Addr) (n1 c1 n2 c2 n3 c3 n4 c4 n5 c5 n6 c6 : Nat) (s : QSource) (nm : ByteArray) (w : World) (hs : SlR 3 qPurposeR w (.slice A6 n6 c6) s.purposes) :
    Calls Try.prog 21 #[.agg #[.slice A1 n1 c1, .slice A2 n2 c2, .slice A3 n3 c3, .slice A4 n4 c4, .slice A5 n5 c5, .slice A6 n6 c6], .string nm] w fun e w' => e = .returned (.tuple #[.int .i64 (firstI (s.purposes.map (·.name)) nm), .bool (firstB (s.purposes.map (·.name)) nm)]) ∧ Below w.heap.size w w' := by
  have HS := Lib.hid hs
  clear hs
  go_enter Try.func21, Try.ntmps21
  go_wp2_with fail
  have hb : Below w.heap.size w (w.alloc (.cells #[.slice A1 n1 c1, .slice A2 n2 c2, .slice A3 n3 c3, .slice A4 n4 c4, .slice A5 n5 c5, .slice A6 n6 c6] 29)) := (Below.refl _ _).alloc (Nat.le_refl _) _
  refine (firstPurpose_any A6 n6 c6 s.purposes nm _ (HS.out.mono qPurposeR_mono hb)).mono ?_
  rintro e w' ⟨rfl, hb'⟩
  have HB := Lib.hid (hb.trans (hb'.mono hb.size))
  clear hb hb'
  go_wp2_with fail
  go_ret2
  exact ⟨rfl, HB.out⟩

/-- The place of a field, by the schema's number. -/
def fieldNo (s : QSource) (sc : Int) : List ByteArray := if 0 ≤ sc then match s.schemas[sc.toNat]? with
    | some x => x.fields.map (·.name)
    | none => []
  else []
theorem namesField_any (A1 A2 A3 A4 A5 A6 : Option Addr) (n1 c1 n2 c2 n3 c3 n4 c4 n5 c5 n6 c6 : Nat) (s : QSource) (sc : Int) (nm : ByteArray) (w : World) (hs : SlR 6 qSchemaR w (.slice A3 n3 c3) s.schemas) :
    Calls Try.prog 23 #[.agg #[.slice A1 n1 c1, .slice A2 n2 c2, .slice A3 n3 c3, .slice A4 n4 c4, .slice A5 n5 c5, .slice A6 n6 c6], .int .i64 sc, .string nm] w fun e w' => e = .returned (.tuple #[.int .i64 (firstI (fieldNo s sc) nm), .bool (firstB (fieldNo s sc) nm)]) ∧ Below w.heap.size w w' := by
  have hn2 : n3 ≤ 9223372036854775807 := by have := hs.le; omega
  have HL := Lib.hid hs.len
  have HS := Lib.hid hs
  clear hs
  have hb : Below w.heap.size w (w.alloc (.cells #[.slice A1 n1 c1, .slice A2 n2 c2, .slice A3 n3 c3, .slice A4 n4 c4, .slice A5 n5 c5, .slice A6 n6 c6] 29)) := (Below.refl _ _).alloc (Nat.le_refl _) _
  have HB := Lib.hid hb
  clear hb
  go_enter Try.func23, Try.ntmps23
  by_cases hin : 0 ≤ sc ∧ sc < (n3 : Int)
  · obtain ⟨h0, h1⟩ := hin
    obtain ⟨k, rfl⟩ : ∃ k : Nat, sc = (k : Int) := ⟨sc.toNat, by omega⟩
    have hk : k < n3 := by omega
    obtain ⟨b, off, x, B1, m1, d1, B2, m2, d2, rfl, hbl, hx, e0, e1, e2, e3, e4, e5, hf, _⟩ := qSchema_at (HS.out.mono qSchemaR_mono HB.out) hk
    have HE : Hid (fieldNo s (k : Int) = x.fields.map (·.name)) := Lib.hid (by unfold fieldNo; rw [if_pos h0, show ((k : Int)).toNat = k from rfl, hx])
    have HF := Lib.hid hf
    have t0 : decide ((k : Int) < 0) = false := by simp
    have t1 : decide (n3 ≤ k) = false := by simp; omega
    clear hx hf
    go_wp2_with fail
    refine (firstField_any B1 m1 d1 x.fields nm _ HF.out.1).mono ?_
    rintro e w' ⟨rfl, hb'⟩
    have HB2 := Lib.hid (HB.out.trans (hb'.mono HB.out.size))
    clear hb'
    go_wp2_with fail
    go_ret2
    exact ⟨by rw [HE.out]; rfl, HB2.out⟩
  · have HE : Hid (fieldNo s sc = []) := Lib.hid (by
      unfold fieldNo
      split
      · rename_i h0
        rw [List.getElem?_eq_none (by have := HL.out; omega)]
      · rfl)
    by_cases h0 : 0 ≤ sc
    · have h1 : (n3 : Int) ≤ sc := by omega
      have t0 : decide (sc < 0) = false := by simp; omega
      have t1 : decide ((n3 : Int) ≤ sc) = true := by simpa using h1
      clear hin
      go_wp2_with fail
      go_ret2
      exact ⟨by rw [HE.out]; rfl, HB.out⟩
    · have t0 : decide (sc < 0) = true := by simp; omega
      clear hin
      go_wp2_with fail
      go_ret2
      exact ⟨by rw [HE.out]; rfl, HB.out⟩

end Go.Proofs.Ytkkkephjljiplaa
