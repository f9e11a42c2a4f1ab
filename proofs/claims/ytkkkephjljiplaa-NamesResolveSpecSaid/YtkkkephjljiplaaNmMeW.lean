/- Contracts: field, called and means of the law answer true where the numbers mean what the names say. -/
import Derived.Test.YtkkkephjljiplaaNmMeP
import Derived.Test.YtkkkephjljiplaaNmSane
namespace Go.Proofs.Ytkkkephjljiplaa
open Go.RowKit

/-- The element of a schema's row that is known. -/
theorem schema_is {w : World} {A : Option Addr} {n c : Nat} {l : List QSchema} (h : SlR 6 qSchemaR w (.slice A n c) l) {i : Nat} {y : QSchema} (hy : l[i]? = some y) :
    ∃ b off B1 m1 d1 B2 m2 d2, A = some ⟨b, off, none⟩ ∧ b < w.heap.size ∧ i < n ∧ n ≤ 9223372036854775807 ∧ w.cell? ⟨b, off + i * 6, none⟩ = some (.string y.name) ∧ w.cell? ⟨b, off + i * 6 + 4, none⟩ = some (.slice B1 m1 d1) ∧ SlB 11 120 qFieldR w (.slice B1 m1 d1) y.fields ∧ w.cell? ⟨b, off + i * 6 + 5, none⟩ = some (.slice B2 m2 d2) ∧ SlB 4 72 qDepR w (.slice B2 m2 d2) y.deps := by
  have hl := h.len
  have hle := h.le
  have hi := (List.getElem?_eq_some_iff.1 hy).1
  obtain ⟨b, off, y', B1, m1, d1, B2, m2, d2, rfl, hb, hy', e0, _, _, _, e4, e5, k1, k2⟩ := qSchema_at h (show i < n by omega)
  rw [hy, Option.some.injEq] at hy'
  subst hy'
  exact ⟨b, off, B1, m1, d1, B2, m2, d2, rfl, hb, by omega, by omega, e0, e4, k1, e5, k2⟩
theorem field_is {w : World} {A : Option Addr} {n c : Nat} {l : List QField} (h : SlR 11 qFieldR w (.slice A n c) l) {i : Nat} {y : QField} (hy : l[i]? = some y) :
    ∃ b off, A = some ⟨b, off, none⟩ ∧ b < w.heap.size ∧ i < n ∧ n ≤ 9223372036854775807 ∧ w.cell? ⟨b, off + i * 11, none⟩ = some (.string y.name) := by
  have hl := h.len
  have hle := h.le
  have hi := (List.getElem?_eq_some_iff.1 hy).1
  obtain ⟨b, off, y', B1, m1, d1, rfl, hb, hy', e0, _⟩ := qField_at h (show i < n by omega)
  rw [hy, Option.some.injEq] at hy'
  subst hy'
  exact ⟨b, off, rfl, hb, by omega, by omega, e0⟩

set_option maxHeartbeats 1000000 in
set_option maxRecDepth 100000 in
theorem field_yes (A1 A2 A3 A4 A5 A6 : Option Addr) (n1 c1 n2 c2 n3 c3 n4 c4 n5 c5 n6 c6 : Nat) (x : QSource) (a q : Int) (nm : ByteArray) (w : World) (h3 : SlR 6 qSchemaR w (.slice A3 n3 c3) x.schemas) (hf : IsField x a q nm) :
    Calls Try.prog 16 #[.agg #[.slice A1 n1 c1, .slice A2 n2 c2, .slice A3 n3 c3, .slice A4 n4 c4, .slice A5 n5 c5, .slice A6 n6 c6], .int .i64 a, .int .i64 q, .string nm] w fun e w' => e = .returned (.bool true) ∧ Below w.heap.size w w' := by
  obtain ⟨i, j, y, f, rfl, rfl, hy, hj, rfl⟩ := hf
  have hb : Below w.heap.size w (w.alloc (.cells #[.slice A1 n1 c1, .slice A2 n2 c2, .slice A3 n3 c3, .slice A4 n4 c4, .slice A5 n5 c5, .slice A6 n6 c6] 29)) := (Below.refl _ _).alloc (Nat.le_refl _) _
  have hk : Blk (w.alloc (.cells #[.slice A1 n1 c1, .slice A2 n2 c2, .slice A3 n3 c3, .slice A4 n4 c4, .slice A5 n5 c5, .slice A6 n6 c6] 29)) w.heap.size 29 #[.slice A1 n1 c1, .slice A2 n2 c2, .slice A3 n3 c3, .slice A4 n4 c4, .slice A5 n5 c5, .slice A6 n6 c6] := Blk.new _ _ _
  obtain ⟨b, off, B1, m1, d1, B2, m2, d2, rfl, hbl, hin, hn3, e0, e4, k1, _, _⟩ := schema_is (h3.mono qSchemaR_mono hb) hy
  obtain ⟨b', off', rfl, hbl', hjm, hm1, e0'⟩ := field_is k1.1 hj
  have hi1 : (i : Int) < (n3 : Int) := by omega
  have hi0 : (0 : Int) ≤ (i : Int) := by omega
  have hj1 : (j : Int) < (m1 : Int) := by omega
  have hj0 : (0 : Int) ≤ (j : Int) := by omega
  have HB := Lib.hid hb
  clear hy hj k1 h3 hb
  go_enter Try.func16, Try.ntmps16
  go_upto_region 1 with fail
  obtain ⟨g, hg⟩ : ∃ g, g = w.heap.size := ⟨_, rfl⟩
  rw [← hg] at hk ⊢
  generalize w.alloc (.cells #[.slice A1 n1 c1, .slice A2 n2 c2, .slice (some ⟨b, off, none⟩) n3 c3, .slice A4 n4 c4, .slice A5 n5 c5, .slice A6 n6 c6] 29) = wb at hk hbl e0 e4 hbl' e0' HB ⊢
  have z2 := hk.cell 2
  have lz := hk.lt
  simp only [List.getElem?_toArray, List.getElem?_cons_zero, List.getElem?_cons_succ] at z2
  clear hk hg e0
  go_wp2
  go_ret
  exact ⟨rfl, HB.out⟩

set_option maxHeartbeats 1000000 in
set_option maxRecDepth 100000 in
theorem called_yes (A1 A2 A3 A4 A5 A6 : Option Addr) (n1 c1 n2 c2 n3 c3 n4 c4 n5 c5 n6 c6 : Nat) (x : QSource) (a : Int) (nm : ByteArray) (w : World) (h3 : SlR 6 qSchemaR w (.slice A3 n3 c3) x.schemas) (hf : IsCalled x a nm) :
    Calls Try.prog 17 #[.agg #[.slice A1 n1 c1, .slice A2 n2 c2, .slice A3 n3 c3, .slice A4 n4 c4, .slice A5 n5 c5, .slice A6 n6 c6], .int .i64 a, .string nm] w fun e w' => e = .returned (.bool true) ∧ Below w.heap.size w w' := by
  obtain ⟨i, y, rfl, hy, rfl⟩ := hf
  have hb : Below w.heap.size w (w.alloc (.cells #[.slice A1 n1 c1, .slice A2 n2 c2, .slice A3 n3 c3, .slice A4 n4 c4, .slice A5 n5 c5, .slice A6 n6 c6] 29)) := (Below.refl _ _).alloc (Nat.le_refl _) _
  have hk : Blk (w.alloc (.cells #[.slice A1 n1 c1, .slice A2 n2 c2, .slice A3 n3 c3, .slice A4 n4 c4, .slice A5 n5 c5, .slice A6 n6 c6] 29)) w.heap.size 29 #[.slice A1 n1 c1, .slice A2 n2 c2, .slice A3 n3 c3, .slice A4 n4 c4, .slice A5 n5 c5, .slice A6 n6 c6] := Blk.new _ _ _
  obtain ⟨b, off, B1, m1, d1, B2, m2, d2, rfl, hbl, hin, hn3, e0, e4, _, _, _⟩ := schema_is (h3.mono qSchemaR_mono hb) hy
  have hi1 : (i : Int) < (n3 : Int) := by omega
  have hi0 : (0 : Int) ≤ (i : Int) := by omega
  have HB := Lib.hid hb
  clear hy h3 hb
  go_enter Try.func17, Try.ntmps17
  go_upto_region 1 with fail
  obtain ⟨g, hg⟩ : ∃ g, g = w.heap.size := ⟨_, rfl⟩
  rw [← hg] at hk ⊢
  generalize w.alloc (.cells #[.slice A1 n1 c1, .slice A2 n2 c2, .slice (some ⟨b, off, none⟩) n3 c3, .slice A4 n4 c4, .slice A5 n5 c5, .slice A6 n6 c6] 29) = wb at hk hbl e0 e4 HB ⊢
  have z2 := hk.cell 2
  have lz := hk.lt
  simp only [List.getElem?_toArray, List.getElem?_cons_zero, List.getElem?_cons_succ] at z2
  clear hk hg e4
  go_wp2
  go_ret
  exact ⟨rfl, HB.out⟩

set_option maxHeartbeats 2000000 in
set_option maxRecDepth 100000 in
theorem means_yes (A1 A2 A3 A4 A5 A6 : Option Addr) (n1 c1 n2 c2 n3 c3 n4 c4 n5 c5 n6 c6 : Nat) (B : Option Addr) (m d : Nat) (x : QSource) (froms : List QFrom) (before : Nat) (t : QTerm) (w : World) (h3 : SlR 6 qSchemaR w (.slice A3 n3 c3) x.schemas) (hfr : SlR 8 qFromR w (.slice B m d) froms) (hbf : before ≤ froms.length) (hm : Means x froms before t) :
    Calls Try.prog 18 #[.agg #[.slice A1 n1 c1, .slice A2 n2 c2, .slice A3 n3 c3, .slice A4 n4 c4, .slice A5 n5 c5, .slice A6 n6 c6], .slice B m d, .int .i64 (before : Int), .agg #[.string t.name, .string t.path, .int .i64 t.var, .int .i64 t.field, .int .i64 t.n]] w fun e w' => e = .returned (.bool true) ∧ Below w.heap.size w w' := by
  have hb : Below w.heap.size w ((w.alloc (.cells #[.slice A1 n1 c1, .slice A2 n2 c2, .slice A3 n3 c3, .slice A4 n4 c4, .slice A5 n5 c5, .slice A6 n6 c6] 29)).alloc (.cells #[.string t.name, .string t.path, .int .i64 t.var, .int .i64 t.field, .int .i64 t.n] 59)) := ((Below.refl _ _).alloc (Nat.le_refl _) _).alloc (by simp) _
  have hk : Blk ((w.alloc (.cells #[.slice A1 n1 c1, .slice A2 n2 c2, .slice A3 n3 c3, .slice A4 n4 c4, .slice A5 n5 c5, .slice A6 n6 c6] 29)).alloc (.cells #[.string t.name, .string t.path, .int .i64 t.var, .int .i64 t.field, .int .i64 t.n] 59)) w.heap.size 29 #[.slice A1 n1 c1, .slice A2 n2 c2, .slice A3 n3 c3, .slice A4 n4 c4, .slice A5 n5 c5, .slice A6 n6 c6] := (Blk.new _ _ _).alloc _
  have hkt : Blk ((w.alloc (.cells #[.slice A1 n1 c1, .slice A2 n2 c2, .slice A3 n3 c3, .slice A4 n4 c4, .slice A5 n5 c5, .slice A6 n6 c6] 29)).alloc (.cells #[.string t.name, .string t.path, .int .i64 t.var, .int .i64 t.field, .int .i64 t.n] 59)) (w.heap.size + 1) 59 #[.string t.name, .string t.path, .int .i64 t.var, .int .i64 t.field, .int .i64 t.n] := blk_new' (by simp)
  have h3b := h3.mono qSchemaR_mono hb
  have hfb := hfr.mono qFromR_mono hb
  have HB := Lib.hid hb
  clear h3 hfr hb
  go_enter Try.func18, Try.ntmps18
  go_upto_region 1 with fail
  obtain ⟨g, hg⟩ : ∃ g, g = w.heap.size := ⟨_, rfl⟩
  obtain ⟨g', hg'⟩ : ∃ g, g = w.heap.size + 1 := ⟨_, rfl⟩
  rw [← hg'] at hkt ⊢
  rw [← hg] at hk ⊢
  generalize (w.alloc (.cells #[.slice A1 n1 c1, .slice A2 n2 c2, .slice A3 n3 c3, .slice A4 n4 c4, .slice A5 n5 c5, .slice A6 n6 c6] 29)).alloc (.cells #[.string t.name, .string t.path, .int .i64 t.var, .int .i64 t.field, .int .i64 t.n] 59) = wb at hk hkt h3b hfb HB ⊢
  have s0 := hk.cell 0
  have s1 := hk.cell 1
  have s2 := hk.cell 2
  have s3 := hk.cell 3
  have s4 := hk.cell 4
  have s5 := hk.cell 5
  have t0 := hkt.cell 0
  have t1 := hkt.cell 1
  have t2 := hkt.cell 2
  have t3 := hkt.cell 3
  have t4 := hkt.cell 4
  have ls := hk.lt
  have lt := hkt.lt
  simp only [List.getElem?_toArray, List.getElem?_cons_zero, List.getElem?_cons_succ] at s0 s1 s2 s3 s4 s5 t0 t1 t2 t3 t4
  have H3 := Lib.hid h3b
  clear hk hkt hg hg' h3b
  rcases hm with ⟨hz, hv, hf⟩ | ⟨hz, v, f, hv, hvb, hfv, hnm, hfld⟩
  · have e1 : t.name.toList.isEmpty = true := by rw [hz, noStr_list]; rfl
    have e2 : t.name.toList = [] := by rw [hz, noStr_list]
    rw [hv] at t2
    rw [hf] at t3
    clear hz hv hf hfb
    go_wp2
    go_ret
    exact ⟨rfl, HB.out⟩
  · have e1 : t.name.toList.isEmpty = false := noStr_ne hz
    have e2 : ¬ t.name.toList = [] := by intro e; rw [e] at e1; cases e1
    have hlen := hfb.len
    have hle := hfb.le
    obtain ⟨b, off, f', rfl, hbl, hf', u0, _, u2, _⟩ := qFrom_at hfb (show v < m by omega)
    rw [hfv, Option.some.injEq] at hf'
    subst hf'
    rw [hv] at t2
    rw [hnm] at u0
    have HFL := Lib.hid hfld
    have hv0 : (0 : Int) ≤ (v : Int) := by omega
    have hv1 : (v : Int) < (before : Int) := by omega
    have hv2 : (v : Int) < (m : Int) := by omega
    have dv0 : decide ((0 : Int) ≤ (v : Int)) = true := by simp
    have dv1 : decide ((v : Int) < (before : Int)) = true := by simpa using hvb
    have dv2 : decide ((v : Int) < (m : Int)) = true := by simp; omega
    have te : (t.name.toList == t.name.toList) = true := by simp
    have hvm : v < m := by omega
    have hm2 : m ≤ 9223372036854775807 := by omega
    clear hz hv hfv hnm hfld hfb hlen hle
    go_wp2_with fail
    go_region_held3 (fun w' => w'.cell? ⟨g, 0, none⟩ = some (.slice A1 n1 c1) ∧ w'.cell? ⟨g, 1, none⟩ = some (.slice A2 n2 c2) ∧ w'.cell? ⟨g, 2, none⟩ = some (.slice A3 n3 c3) ∧ w'.cell? ⟨g, 3, none⟩ = some (.slice A4 n4 c4) ∧ w'.cell? ⟨g, 4, none⟩ = some (.slice A5 n5 c5) ∧ w'.cell? ⟨g, 5, none⟩ = some (.slice A6 n6 c6) ∧ w'.cell? ⟨g', 0, none⟩ = some (.string t.name) ∧ w'.cell? ⟨g', 1, none⟩ = some (.string t.path) ∧ w'.cell? ⟨g', 2, none⟩ = some (.int .i64 (v : Int)) ∧ w'.cell? ⟨g', 3, none⟩ = some (.int .i64 t.field) ∧ w'.cell? ⟨b, off + v * 8, none⟩ = some (.string t.name) ∧ w'.cell? ⟨b, off + v * 8 + 2, none⟩ = some (.int .i64 f.schema))
      (first | (refine ⟨?_, ?_, ?_, ?_, ?_, ?_, ?_, ?_, ?_, ?_, ?_, ?_⟩ <;> first | assumption | (simp only [go_sem]; assumption)))
      (first | (go_at_call 16; refine (field_yes _ _ _ _ _ _ _ _ _ _ _ _ _ _ _ _ _ _ x _ _ _ _ (H3.out.mono qSchemaR_mono (Below.refl _ _).drew) HFL.out).mono ?_; rintro e w' ⟨rfl, hb'⟩
                have HB' := Lib.hid (HB.out.drew.trans (hb'.mono HB.out.size))
                have hb'' : Below wb.heap.size wb w' := (Below.refl _ _).drew.trans hb'
                have c0 := (hb''.cell (p := ⟨g, 0, none⟩) ls).trans s0
                have c1' := (hb''.cell (p := ⟨g, 1, none⟩) ls).trans s1
                have c2' := (hb''.cell (p := ⟨g, 2, none⟩) ls).trans s2
                have c3' := (hb''.cell (p := ⟨g, 3, none⟩) ls).trans s3
                have c4' := (hb''.cell (p := ⟨g, 4, none⟩) ls).trans s4
                have c5' := (hb''.cell (p := ⟨g, 5, none⟩) ls).trans s5
                have q0 := (hb''.cell (p := ⟨g', 0, none⟩) lt).trans t0
                have q1 := (hb''.cell (p := ⟨g', 1, none⟩) lt).trans t1
                have q2 := (hb''.cell (p := ⟨g', 2, none⟩) lt).trans t2
                have q3 := (hb''.cell (p := ⟨g', 3, none⟩) lt).trans t3
                have r0 := (hb''.cell (p := ⟨b, off + v * 8, none⟩) hbl).trans u0
                have r2 := (hb''.cell (p := ⟨b, off + v * 8 + 2, none⟩) hbl).trans u2
                clear hb' hb''))
    go_wp2
    go_ret
    exact ⟨rfl, HB'.out⟩

end Go.Proofs.Ytkkkephjljiplaa
