/- Sources as wholes: contracts of Bare and Same at readings of whole sources. Written by genmeans.py. -/
import Derived.Test.YtkkkephjljiplaaNmBare
import Derived.Test.YtkkkephjljiplaaNmSameF
import Derived.Test.YtkkkephjljiplaaNmMeW
namespace Go.Proofs.Ytkkkephjljiplaa
open Go.RowKit

theorem src_parts {A1 A2 A3 A4 A5 A6 : Option Addr} {n1 c1 n2 c2 n3 c3 n4 c4 n5 c5 n6 c6 : Nat} {s : QSource} {w : World} (h : qSourceR w [.slice A1 n1 c1, .slice A2 n2 c2, .slice A3 n3 c3, .slice A4 n4 c4, .slice A5 n5 c5, .slice A6 n6 c6] s) :
    SlB 1 16 strR w (.slice A1 n1 c1) s.issuers ∧ SlB 5 56 qUnitR w (.slice A2 n2 c2) s.units ∧ SlB 6 96 qSchemaR w (.slice A3 n3 c3) s.schemas ∧ SlB 5 96 qRuleR w (.slice A4 n4 c4) s.rules ∧ SlB 5 72 qConvertR w (.slice A5 n5 c5) s.converts ∧ SlB 3 48 qPurposeR w (.slice A6 n6 c6) s.purposes := by
  obtain ⟨B1, m1, d1, B2, m2, d2, B3, m3, d3, B4, m4, d4, B5, m5, d5, B6, m6, d6, e, h1, h2, h3, h4, h5, h6⟩ := h
  simp only [List.cons.injEq, Value.slice.injEq, and_true] at e
  obtain ⟨⟨rfl, rfl, rfl⟩, ⟨rfl, rfl, rfl⟩, ⟨rfl, rfl, rfl⟩, ⟨rfl, rfl, rfl⟩, ⟨rfl, rfl, rfl⟩, ⟨rfl, rfl, rfl⟩⟩ := e
  exact ⟨h1, h2, h3, h4, h5, h6⟩
theorem src_whole {A1 A2 A3 A4 A5 A6 : Option Addr} {n1 c1 n2 c2 n3 c3 n4 c4 n5 c5 n6 c6 : Nat} {s : QSource} {w : World} (h1 : SlB 1 16 strR w (.slice A1 n1 c1) s.issuers) (h2 : SlB 5 56 qUnitR w (.slice A2 n2 c2) s.units) (h3 : SlB 6 96 qSchemaR w (.slice A3 n3 c3) s.schemas) (h4 : SlB 5 96 qRuleR w (.slice A4 n4 c4) s.rules) (h5 : SlB 5 72 qConvertR w (.slice A5 n5 c5) s.converts) (h6 : SlB 3 48 qPurposeR w (.slice A6 n6 c6) s.purposes) :
    qSourceR w [.slice A1 n1 c1, .slice A2 n2 c2, .slice A3 n3 c3, .slice A4 n4 c4, .slice A5 n5 c5, .slice A6 n6 c6] s := ⟨A1, n1, c1, A2, n2, c2, A3, n3, c3, A4, n4, c4, A5, n5, c5, A6, n6, c6, rfl, h1, h2, h3, h4, h5, h6⟩
theorem bare_src (cs : List Value) (s : QSource) (w : World) (h : qSourceR w cs s) : Calls Try.prog 15 #[.agg cs.toArray] w (RetSource (bareP s) w) := by
  obtain ⟨A1, n1, c1, A2, n2, c2, A3, n3, c3, A4, n4, c4, A5, n5, c5, A6, n6, c6, rfl, h1, h2, h3, h4, h5, h6⟩ := h
  exact bare_any A1 n1 c1 A2 n2 c2 A3 n3 c3 A4 n4 c4 A5 n5 c5 A6 n6 c6 s w h1 h2 h3 h4 h5 h6
theorem same_src (cs ds : List Value) (s : QSource) (w : World) (h : qSourceR w cs s) (k : qSourceR w ds s) : Calls Try.prog 14 #[.agg cs.toArray, .agg ds.toArray] w fun e w' => e = .returned (.bool true) ∧ Below w.heap.size w w' := by
  obtain ⟨A1, n1, c1, A2, n2, c2, A3, n3, c3, A4, n4, c4, A5, n5, c5, A6, n6, c6, rfl, h1, h2, h3, h4, h5, h6⟩ := h
  obtain ⟨B1, m1, d1, B2, m2, d2, B3, m3, d3, B4, m4, d4, B5, m5, d5, B6, m6, d6, rfl, k1, k2, k3, k4, k5, k6⟩ := k
  obtain rfl : n1 = m1 := by rw [h1.1.len, k1.1.len]
  obtain rfl : n2 = m2 := by rw [h2.1.len, k2.1.len]
  obtain rfl : n3 = m3 := by rw [h3.1.len, k3.1.len]
  obtain rfl : n4 = m4 := by rw [h4.1.len, k4.1.len]
  obtain rfl : n5 = m5 := by rw [h5.1.len, k5.1.len]
  obtain rfl : n6 = m6 := by rw [h6.1.len, k6.1.len]
  exact same_eq A1 B1 A2 B2 A3 B3 A4 B4 A5 B5 A6 B6 n1 c1 d1 n2 c2 d2 n3 c3 d3 n4 c4 d4 n5 c5 d5 n6 c6 d6 s w h1.1 k1.1 h2.1 k2.1 h3.1 k3.1 h4.1 k4.1 h5.1 k5.1 h6.1 k6.1
theorem below_step {a b c : World} (h : Below a.heap.size a b) (h' : Below b.heap.size b c) : Below a.heap.size a c := h.trans (h'.mono h.size)
theorem six_cells {w w' : World} {g : Nat} {t : TypeId} {a1 a2 a3 a4 a5 a6 : Value} (k : Blk w g t #[a1, a2, a3, a4, a5, a6]) (hb : Below w.heap.size w w') :
    w'.cell? ⟨g, 0, none⟩ = some a1 ∧ w'.cell? ⟨g, 1, none⟩ = some a2 ∧ w'.cell? ⟨g, 2, none⟩ = some a3 ∧ w'.cell? ⟨g, 3, none⟩ = some a4 ∧ w'.cell? ⟨g, 4, none⟩ = some a5 ∧ w'.cell? ⟨g, 5, none⟩ = some a6 := by
  have h := k.below hb k.lt
  have k0 := h.cell 0
  have k1 := h.cell 1
  have k2 := h.cell 2
  have k3 := h.cell 3
  have k4 := h.cell 4
  have k5 := h.cell 5
  simp only [List.getElem?_toArray, List.getElem?_cons_zero, List.getElem?_cons_succ] at k0 k1 k2 k3 k4 k5
  exact ⟨k0, k1, k2, k3, k4, k5⟩
theorem twelve {w w' : World} {g gx : Nat} {t t' : TypeId} {a1 a2 a3 a4 a5 a6 b1 b2 b3 b4 b5 b6 : Value} (k : Blk w g t #[a1, a2, a3, a4, a5, a6]) (kx : Blk w gx t' #[b1, b2, b3, b4, b5, b6]) (hb : Below w.heap.size w w') :
    w'.cell? ⟨g, 0, none⟩ = some a1 ∧ w'.cell? ⟨g, 1, none⟩ = some a2 ∧ w'.cell? ⟨g, 2, none⟩ = some a3 ∧ w'.cell? ⟨g, 3, none⟩ = some a4 ∧ w'.cell? ⟨g, 4, none⟩ = some a5 ∧ w'.cell? ⟨g, 5, none⟩ = some a6 ∧
    w'.cell? ⟨gx, 0, none⟩ = some b1 ∧ w'.cell? ⟨gx, 1, none⟩ = some b2 ∧ w'.cell? ⟨gx, 2, none⟩ = some b3 ∧ w'.cell? ⟨gx, 3, none⟩ = some b4 ∧ w'.cell? ⟨gx, 4, none⟩ = some b5 ∧ w'.cell? ⟨gx, 5, none⟩ = some b6 ∧ Below w.heap.size w w' := by
  obtain ⟨h1, h2, h3, h4, h5, h6⟩ := six_cells k hb
  obtain ⟨k1, k2, k3, k4, k5, k6⟩ := six_cells kx hb
  exact ⟨h1, h2, h3, h4, h5, h6, k1, k2, k3, k4, k5, k6, hb⟩

end Go.Proofs.Ytkkkephjljiplaa
