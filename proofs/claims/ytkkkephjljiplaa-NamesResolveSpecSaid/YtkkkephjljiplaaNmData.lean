/- The data of the package api that chapter 11 reads, as Lean structures; how they lie in memory. Written by gen11.py. -/
import Derived.Test.YtkkkephjljiplaaCells
namespace Go.Proofs.Ytkkkephjljiplaa
open Go.RowKit

def strR (_ : World) (cs : List Value) (x : ByteArray) : Prop := cs = [.string x]
def iR (_ : World) (cs : List Value) (x : Int) : Prop := cs = [.int .i64 x]
theorem strR_mono : Mono strR := fun _ _ _ _ _ h => h
theorem iR_mono : Mono iR := fun _ _ _ _ _ h => h
theorem strR_one : One strR := by
  rintro w cs x rfl u hu
  simp only [List.mem_singleton] at hu
  subst hu
  rfl
theorem iR_one : One iR := by
  rintro w cs x rfl u hu
  simp only [List.mem_singleton] at hu
  subst hu
  rfl

/-- A slice that reads as l, and that a slice of elements of so many bytes can be. -/
def SlB {α : Type} (sz bytes : Nat) (R : World → List Value → α → Prop) (w : World) (v : Value) (l : List α) : Prop := SlR sz R w v l ∧ l.length * bytes ≤ 140737488355328
theorem SlB.mono {α : Type} {sz bytes : Nat} {R : World → List Value → α → Prop} {w w' : World} {l : List α} (hR : Mono R) (hb : Below w.heap.size w w') {v : Value} (h : SlB sz bytes R w v l) : SlB sz bytes R w' v l := ⟨h.1.mono hR hb, h.2⟩

theorem str_at {w : World} {A : Option Addr} {n cap : Nat} {l : List ByteArray} (h : SlR 1 strR w (.slice A n cap) l) {k : Nat} (hk : k < n) :
    ∃ b off x, A = some ⟨b, off, none⟩ ∧ b < w.heap.size ∧ l[k]? = some x ∧ w.cell? ⟨b, off + k, none⟩ = some (.string x) := by
  obtain ⟨b, off, x, cs, e, hb, hl, hlen, hc, rfl⟩ := h.at_ hk
  exact ⟨b, off, x, e, hb, hl, by simpa using hc 0 _ rfl⟩

theorem i_at {w : World} {A : Option Addr} {n cap : Nat} {l : List Int} (h : SlR 1 iR w (.slice A n cap) l) {k : Nat} (hk : k < n) :
    ∃ b off x, A = some ⟨b, off, none⟩ ∧ b < w.heap.size ∧ l[k]? = some x ∧ w.cell? ⟨b, off + k, none⟩ = some (.int .i64 x) := by
  obtain ⟨b, off, x, cs, e, hb, hl, hlen, hc, rfl⟩ := h.at_ hk
  exact ⟨b, off, x, e, hb, hl, by simpa using hc 0 _ rfl⟩

structure QUnit where
  name : ByteArray
  of_ : ByteArray
  factor : Int
  base : Int
  scale : Int
  deriving DecidableEq

structure QTerm where
  name : ByteArray
  path : ByteArray
  var : Int
  field : Int
  n : Int
  deriving DecidableEq

structure QAtom where
  op : Int
  a : QTerm
  b : QTerm
  deriving DecidableEq

structure QFrom where
  name : ByteArray
  kind : ByteArray
  schema : Int
  of_ : QTerm
  deriving DecidableEq

structure QSet where
  path : ByteArray
  field : Int
  term : QTerm
  deriving DecidableEq

structure QMove where
  to_ : ByteArray
  from_ : ByteArray
  b : Int
  a : Int
  shift : Int
  deriving DecidableEq

structure QRef where
  name : ByteArray
  path : ByteArray
  schema : Int
  field : Int
  deriving DecidableEq

structure QType where
  kind : Int
  lo : Int
  hi : Int
  of_ : ByteArray
  unit : Int
  names : List ByteArray
  deriving DecidableEq

structure QField where
  name : ByteArray
  type : QType
  w0 : Int
  w1 : Int
  w2 : Int
  w3 : Int
  deriving DecidableEq

structure QDep where
  names : List ByteArray
  name : ByteArray
  src : List Int
  dst : Int
  deriving DecidableEq

structure QSchema where
  name : ByteArray
  by_ : ByteArray
  issuer : Int
  version : Int
  fields : List QField
  deps : List QDep
  deriving DecidableEq

structure QRule where
  head : ByteArray
  schema : Int
  froms : List QFrom
  where_ : List QAtom
  sets : List QSet
  deriving DecidableEq

structure QConvert where
  from_ : ByteArray
  to_ : ByteArray
  a : Int
  b : Int
  moves : List QMove
  deriving DecidableEq

structure QPurpose where
  name : ByteArray
  may : List QRef
  most : Int
  deriving DecidableEq

structure QSource where
  issuers : List ByteArray
  units : List QUnit
  schemas : List QSchema
  rules : List QRule
  converts : List QConvert
  purposes : List QPurpose
  deriving DecidableEq

/-- api.Unit: 5 cells. -/
def qUnitR (_ : World) (cs : List Value) (x : QUnit) : Prop := cs = [.string x.name, .string x.of_, .int .i64 x.factor, .int .i64 x.base, .int .i64 x.scale]
theorem qUnitR_mono : Mono qUnitR := fun _ _ _ _ _ h => h
theorem qUnitR_one : One qUnitR := by
  rintro w cs x rfl u hu
  simp only [List.mem_cons, List.not_mem_nil, or_false] at hu
  rcases hu with rfl | rfl | rfl | rfl | rfl <;> rfl
theorem qUnit_at {w : World} {A : Option Addr} {n cap : Nat} {l : List QUnit} (h : SlR 5 qUnitR w (.slice A n cap) l) {k : Nat} (hk : k < n) :
    ∃ b off x, A = some ⟨b, off, none⟩ ∧ b < w.heap.size ∧ l[k]? = some x ∧
      w.cell? ⟨b, off + k * 5, none⟩ = some (.string x.name) ∧
      w.cell? ⟨b, off + k * 5 + 1, none⟩ = some (.string x.of_) ∧
      w.cell? ⟨b, off + k * 5 + 2, none⟩ = some (.int .i64 x.factor) ∧
      w.cell? ⟨b, off + k * 5 + 3, none⟩ = some (.int .i64 x.base) ∧
      w.cell? ⟨b, off + k * 5 + 4, none⟩ = some (.int .i64 x.scale) := by
  obtain ⟨b, off, x, cs, e, hb, hl, hlen, hc, hR⟩ := h.at_ hk
  have hR' : cs = _ := hR
  subst hR'
  exact ⟨b, off, x, e, hb, hl, by simpa using hc 0 _ rfl, by simpa [Nat.add_assoc] using hc 1 _ rfl, by simpa [Nat.add_assoc] using hc 2 _ rfl, by simpa [Nat.add_assoc] using hc 3 _ rfl, by simpa [Nat.add_assoc] using hc 4 _ rfl⟩

/-- api.Term: 5 cells. -/
def qTermR (_ : World) (cs : List Value) (x : QTerm) : Prop := cs = [.string x.name, .string x.path, .int .i64 x.var, .int .i64 x.field, .int .i64 x.n]
theorem qTermR_mono : Mono qTermR := fun _ _ _ _ _ h => h
theorem qTermR_one : One qTermR := by
  rintro w cs x rfl u hu
  simp only [List.mem_cons, List.not_mem_nil, or_false] at hu
  rcases hu with rfl | rfl | rfl | rfl | rfl <;> rfl
theorem qTerm_at {w : World} {A : Option Addr} {n cap : Nat} {l : List QTerm} (h : SlR 5 qTermR w (.slice A n cap) l) {k : Nat} (hk : k < n) :
    ∃ b off x, A = some ⟨b, off, none⟩ ∧ b < w.heap.size ∧ l[k]? = some x ∧
      w.cell? ⟨b, off + k * 5, none⟩ = some (.string x.name) ∧
      w.cell? ⟨b, off + k * 5 + 1, none⟩ = some (.string x.path) ∧
      w.cell? ⟨b, off + k * 5 + 2, none⟩ = some (.int .i64 x.var) ∧
      w.cell? ⟨b, off + k * 5 + 3, none⟩ = some (.int .i64 x.field) ∧
      w.cell? ⟨b, off + k * 5 + 4, none⟩ = some (.int .i64 x.n) := by
  obtain ⟨b, off, x, cs, e, hb, hl, hlen, hc, hR⟩ := h.at_ hk
  have hR' : cs = _ := hR
  subst hR'
  exact ⟨b, off, x, e, hb, hl, by simpa using hc 0 _ rfl, by simpa [Nat.add_assoc] using hc 1 _ rfl, by simpa [Nat.add_assoc] using hc 2 _ rfl, by simpa [Nat.add_assoc] using hc 3 _ rfl, by simpa [Nat.add_assoc] using hc 4 _ rfl⟩

/-- api.Atom: 11 cells. -/
def qAtomR (_ : World) (cs : List Value) (x : QAtom) : Prop := cs = [.int .i64 x.op, .string x.a.name, .string x.a.path, .int .i64 x.a.var, .int .i64 x.a.field, .int .i64 x.a.n, .string x.b.name, .string x.b.path, .int .i64 x.b.var, .int .i64 x.b.field, .int .i64 x.b.n]
theorem qAtomR_mono : Mono qAtomR := fun _ _ _ _ _ h => h
theorem qAtomR_one : One qAtomR := by
  rintro w cs x rfl u hu
  simp only [List.mem_cons, List.not_mem_nil, or_false] at hu
  rcases hu with rfl | rfl | rfl | rfl | rfl | rfl | rfl | rfl | rfl | rfl | rfl <;> rfl
theorem qAtom_at {w : World} {A : Option Addr} {n cap : Nat} {l : List QAtom} (h : SlR 11 qAtomR w (.slice A n cap) l) {k : Nat} (hk : k < n) :
    ∃ b off x, A = some ⟨b, off, none⟩ ∧ b < w.heap.size ∧ l[k]? = some x ∧
      w.cell? ⟨b, off + k * 11, none⟩ = some (.int .i64 x.op) ∧
      w.cell? ⟨b, off + k * 11 + 1, none⟩ = some (.string x.a.name) ∧
      w.cell? ⟨b, off + k * 11 + 2, none⟩ = some (.string x.a.path) ∧
      w.cell? ⟨b, off + k * 11 + 3, none⟩ = some (.int .i64 x.a.var) ∧
      w.cell? ⟨b, off + k * 11 + 4, none⟩ = some (.int .i64 x.a.field) ∧
      w.cell? ⟨b, off + k * 11 + 5, none⟩ = some (.int .i64 x.a.n) ∧
      w.cell? ⟨b, off + k * 11 + 6, none⟩ = some (.string x.b.name) ∧
      w.cell? ⟨b, off + k * 11 + 7, none⟩ = some (.string x.b.path) ∧
      w.cell? ⟨b, off + k * 11 + 8, none⟩ = some (.int .i64 x.b.var) ∧
      w.cell? ⟨b, off + k * 11 + 9, none⟩ = some (.int .i64 x.b.field) ∧
      w.cell? ⟨b, off + k * 11 + 10, none⟩ = some (.int .i64 x.b.n) := by
  obtain ⟨b, off, x, cs, e, hb, hl, hlen, hc, hR⟩ := h.at_ hk
  have hR' : cs = _ := hR
  subst hR'
  exact ⟨b, off, x, e, hb, hl, by simpa using hc 0 _ rfl, by simpa [Nat.add_assoc] using hc 1 _ rfl, by simpa [Nat.add_assoc] using hc 2 _ rfl, by simpa [Nat.add_assoc] using hc 3 _ rfl, by simpa [Nat.add_assoc] using hc 4 _ rfl, by simpa [Nat.add_assoc] using hc 5 _ rfl, by simpa [Nat.add_assoc] using hc 6 _ rfl, by simpa [Nat.add_assoc] using hc 7 _ rfl, by simpa [Nat.add_assoc] using hc 8 _ rfl, by simpa [Nat.add_assoc] using hc 9 _ rfl, by simpa [Nat.add_assoc] using hc 10 _ rfl⟩

/-- api.From: 8 cells. -/
def qFromR (_ : World) (cs : List Value) (x : QFrom) : Prop := cs = [.string x.name, .string x.kind, .int .i64 x.schema, .string x.of_.name, .string x.of_.path, .int .i64 x.of_.var, .int .i64 x.of_.field, .int .i64 x.of_.n]
theorem qFromR_mono : Mono qFromR := fun _ _ _ _ _ h => h
theorem qFromR_one : One qFromR := by
  rintro w cs x rfl u hu
  simp only [List.mem_cons, List.not_mem_nil, or_false] at hu
  rcases hu with rfl | rfl | rfl | rfl | rfl | rfl | rfl | rfl <;> rfl
theorem qFrom_at {w : World} {A : Option Addr} {n cap : Nat} {l : List QFrom} (h : SlR 8 qFromR w (.slice A n cap) l) {k : Nat} (hk : k < n) :
    ∃ b off x, A = some ⟨b, off, none⟩ ∧ b < w.heap.size ∧ l[k]? = some x ∧
      w.cell? ⟨b, off + k * 8, none⟩ = some (.string x.name) ∧
      w.cell? ⟨b, off + k * 8 + 1, none⟩ = some (.string x.kind) ∧
      w.cell? ⟨b, off + k * 8 + 2, none⟩ = some (.int .i64 x.schema) ∧
      w.cell? ⟨b, off + k * 8 + 3, none⟩ = some (.string x.of_.name) ∧
      w.cell? ⟨b, off + k * 8 + 4, none⟩ = some (.string x.of_.path) ∧
      w.cell? ⟨b, off + k * 8 + 5, none⟩ = some (.int .i64 x.of_.var) ∧
      w.cell? ⟨b, off + k * 8 + 6, none⟩ = some (.int .i64 x.of_.field) ∧
      w.cell? ⟨b, off + k * 8 + 7, none⟩ = some (.int .i64 x.of_.n) := by
  obtain ⟨b, off, x, cs, e, hb, hl, hlen, hc, hR⟩ := h.at_ hk
  have hR' : cs = _ := hR
  subst hR'
  exact ⟨b, off, x, e, hb, hl, by simpa using hc 0 _ rfl, by simpa [Nat.add_assoc] using hc 1 _ rfl, by simpa [Nat.add_assoc] using hc 2 _ rfl, by simpa [Nat.add_assoc] using hc 3 _ rfl, by simpa [Nat.add_assoc] using hc 4 _ rfl, by simpa [Nat.add_assoc] using hc 5 _ rfl, by simpa [Nat.add_assoc] using hc 6 _ rfl, by simpa [Nat.add_assoc] using hc 7 _ rfl⟩

/-- api.Set: 7 cells. -/
def qSetR (_ : World) (cs : List Value) (x : QSet) : Prop := cs = [.string x.path, .int .i64 x.field, .string x.term.name, .string x.term.path, .int .i64 x.term.var, .int .i64 x.term.field, .int .i64 x.term.n]
theorem qSetR_mono : Mono qSetR := fun _ _ _ _ _ h => h
theorem qSetR_one : One qSetR := by
  rintro w cs x rfl u hu
  simp only [List.mem_cons, List.not_mem_nil, or_false] at hu
  rcases hu with rfl | rfl | rfl | rfl | rfl | rfl | rfl <;> rfl
theorem qSet_at {w : World} {A : Option Addr} {n cap : Nat} {l : List QSet} (h : SlR 7 qSetR w (.slice A n cap) l) {k : Nat} (hk : k < n) :
    ∃ b off x, A = some ⟨b, off, none⟩ ∧ b < w.heap.size ∧ l[k]? = some x ∧
      w.cell? ⟨b, off + k * 7, none⟩ = some (.string x.path) ∧
      w.cell? ⟨b, off + k * 7 + 1, none⟩ = some (.int .i64 x.field) ∧
      w.cell? ⟨b, off + k * 7 + 2, none⟩ = some (.string x.term.name) ∧
      w.cell? ⟨b, off + k * 7 + 3, none⟩ = some (.string x.term.path) ∧
      w.cell? ⟨b, off + k * 7 + 4, none⟩ = some (.int .i64 x.term.var) ∧
      w.cell? ⟨b, off + k * 7 + 5, none⟩ = some (.int .i64 x.term.field) ∧
      w.cell? ⟨b, off + k * 7 + 6, none⟩ = some (.int .i64 x.term.n) := by
  obtain ⟨b, off, x, cs, e, hb, hl, hlen, hc, hR⟩ := h.at_ hk
  have hR' : cs = _ := hR
  subst hR'
  exact ⟨b, off, x, e, hb, hl, by simpa using hc 0 _ rfl, by simpa [Nat.add_assoc] using hc 1 _ rfl, by simpa [Nat.add_assoc] using hc 2 _ rfl, by simpa [Nat.add_assoc] using hc 3 _ rfl, by simpa [Nat.add_assoc] using hc 4 _ rfl, by simpa [Nat.add_assoc] using hc 5 _ rfl, by simpa [Nat.add_assoc] using hc 6 _ rfl⟩

/-- api.Move: 5 cells. -/
def qMoveR (_ : World) (cs : List Value) (x : QMove) : Prop := cs = [.string x.to_, .string x.from_, .int .i64 x.b, .int .i64 x.a, .int .i64 x.shift]
theorem qMoveR_mono : Mono qMoveR := fun _ _ _ _ _ h => h
theorem qMoveR_one : One qMoveR := by
  rintro w cs x rfl u hu
  simp only [List.mem_cons, List.not_mem_nil, or_false] at hu
  rcases hu with rfl | rfl | rfl | rfl | rfl <;> rfl
theorem qMove_at {w : World} {A : Option Addr} {n cap : Nat} {l : List QMove} (h : SlR 5 qMoveR w (.slice A n cap) l) {k : Nat} (hk : k < n) :
    ∃ b off x, A = some ⟨b, off, none⟩ ∧ b < w.heap.size ∧ l[k]? = some x ∧
      w.cell? ⟨b, off + k * 5, none⟩ = some (.string x.to_) ∧
      w.cell? ⟨b, off + k * 5 + 1, none⟩ = some (.string x.from_) ∧
      w.cell? ⟨b, off + k * 5 + 2, none⟩ = some (.int .i64 x.b) ∧
      w.cell? ⟨b, off + k * 5 + 3, none⟩ = some (.int .i64 x.a) ∧
      w.cell? ⟨b, off + k * 5 + 4, none⟩ = some (.int .i64 x.shift) := by
  obtain ⟨b, off, x, cs, e, hb, hl, hlen, hc, hR⟩ := h.at_ hk
  have hR' : cs = _ := hR
  subst hR'
  exact ⟨b, off, x, e, hb, hl, by simpa using hc 0 _ rfl, by simpa [Nat.add_assoc] using hc 1 _ rfl, by simpa [Nat.add_assoc] using hc 2 _ rfl, by simpa [Nat.add_assoc] using hc 3 _ rfl, by simpa [Nat.add_assoc] using hc 4 _ rfl⟩

/-- api.Ref: 4 cells. -/
def qRefR (_ : World) (cs : List Value) (x : QRef) : Prop := cs = [.string x.name, .string x.path, .int .i64 x.schema, .int .i64 x.field]
theorem qRefR_mono : Mono qRefR := fun _ _ _ _ _ h => h
theorem qRefR_one : One qRefR := by
  rintro w cs x rfl u hu
  simp only [List.mem_cons, List.not_mem_nil, or_false] at hu
  rcases hu with rfl | rfl | rfl | rfl <;> rfl
theorem qRef_at {w : World} {A : Option Addr} {n cap : Nat} {l : List QRef} (h : SlR 4 qRefR w (.slice A n cap) l) {k : Nat} (hk : k < n) :
    ∃ b off x, A = some ⟨b, off, none⟩ ∧ b < w.heap.size ∧ l[k]? = some x ∧
      w.cell? ⟨b, off + k * 4, none⟩ = some (.string x.name) ∧
      w.cell? ⟨b, off + k * 4 + 1, none⟩ = some (.string x.path) ∧
      w.cell? ⟨b, off + k * 4 + 2, none⟩ = some (.int .i64 x.schema) ∧
      w.cell? ⟨b, off + k * 4 + 3, none⟩ = some (.int .i64 x.field) := by
  obtain ⟨b, off, x, cs, e, hb, hl, hlen, hc, hR⟩ := h.at_ hk
  have hR' : cs = _ := hR
  subst hR'
  exact ⟨b, off, x, e, hb, hl, by simpa using hc 0 _ rfl, by simpa [Nat.add_assoc] using hc 1 _ rfl, by simpa [Nat.add_assoc] using hc 2 _ rfl, by simpa [Nat.add_assoc] using hc 3 _ rfl⟩

/-- api.Type: 6 cells. -/
def qTypeR (w : World) (cs : List Value) (x : QType) : Prop := ∃ A1 n1 c1, cs = [.int .i64 x.kind, .int .i64 x.lo, .int .i64 x.hi, .string x.of_, .int .i64 x.unit, .slice A1 n1 c1] ∧ SlB 1 16 strR w (.slice A1 n1 c1) x.names
theorem qTypeR_mono : Mono qTypeR := by
  rintro w w' hb cs x ⟨A1, n1, c1, h0, h1⟩
  exact ⟨A1, n1, c1, h0, h1.mono strR_mono hb⟩
theorem qTypeR_one : One qTypeR := by
  rintro w cs x ⟨A1, n1, c1, rfl, _⟩ u hu
  simp only [List.mem_cons, List.not_mem_nil, or_false] at hu
  rcases hu with rfl | rfl | rfl | rfl | rfl | rfl <;> rfl
theorem qType_at {w : World} {A : Option Addr} {n cap : Nat} {l : List QType} (h : SlR 6 qTypeR w (.slice A n cap) l) {k : Nat} (hk : k < n) :
    ∃ b off x A1 n1 c1, A = some ⟨b, off, none⟩ ∧ b < w.heap.size ∧ l[k]? = some x ∧
      w.cell? ⟨b, off + k * 6, none⟩ = some (.int .i64 x.kind) ∧
      w.cell? ⟨b, off + k * 6 + 1, none⟩ = some (.int .i64 x.lo) ∧
      w.cell? ⟨b, off + k * 6 + 2, none⟩ = some (.int .i64 x.hi) ∧
      w.cell? ⟨b, off + k * 6 + 3, none⟩ = some (.string x.of_) ∧
      w.cell? ⟨b, off + k * 6 + 4, none⟩ = some (.int .i64 x.unit) ∧
      w.cell? ⟨b, off + k * 6 + 5, none⟩ = some (.slice A1 n1 c1) ∧ SlB 1 16 strR w (.slice A1 n1 c1) x.names := by
  obtain ⟨b, off, x, cs, e, hb, hl, hlen, hc, hR⟩ := h.at_ hk
  obtain ⟨A1, n1, c1, rfl, h1⟩ := hR
  exact ⟨b, off, x, A1, n1, c1, e, hb, hl, by simpa using hc 0 _ rfl, by simpa [Nat.add_assoc] using hc 1 _ rfl, by simpa [Nat.add_assoc] using hc 2 _ rfl, by simpa [Nat.add_assoc] using hc 3 _ rfl, by simpa [Nat.add_assoc] using hc 4 _ rfl, by simpa [Nat.add_assoc] using hc 5 _ rfl, h1⟩

/-- api.Field: 11 cells. -/
def qFieldR (w : World) (cs : List Value) (x : QField) : Prop := ∃ A1 n1 c1, cs = [.string x.name, .int .i64 x.type.kind, .int .i64 x.type.lo, .int .i64 x.type.hi, .string x.type.of_, .int .i64 x.type.unit, .slice A1 n1 c1, .int .i64 x.w0, .int .i64 x.w1, .int .i64 x.w2, .int .i64 x.w3] ∧ SlB 1 16 strR w (.slice A1 n1 c1) x.type.names
theorem qFieldR_mono : Mono qFieldR := by
  rintro w w' hb cs x ⟨A1, n1, c1, h0, h1⟩
  exact ⟨A1, n1, c1, h0, h1.mono strR_mono hb⟩
theorem qFieldR_one : One qFieldR := by
  rintro w cs x ⟨A1, n1, c1, rfl, _⟩ u hu
  simp only [List.mem_cons, List.not_mem_nil, or_false] at hu
  rcases hu with rfl | rfl | rfl | rfl | rfl | rfl | rfl | rfl | rfl | rfl | rfl <;> rfl
theorem qField_at {w : World} {A : Option Addr} {n cap : Nat} {l : List QField} (h : SlR 11 qFieldR w (.slice A n cap) l) {k : Nat} (hk : k < n) :
    ∃ b off x A1 n1 c1, A = some ⟨b, off, none⟩ ∧ b < w.heap.size ∧ l[k]? = some x ∧
      w.cell? ⟨b, off + k * 11, none⟩ = some (.string x.name) ∧
      w.cell? ⟨b, off + k * 11 + 1, none⟩ = some (.int .i64 x.type.kind) ∧
      w.cell? ⟨b, off + k * 11 + 2, none⟩ = some (.int .i64 x.type.lo) ∧
      w.cell? ⟨b, off + k * 11 + 3, none⟩ = some (.int .i64 x.type.hi) ∧
      w.cell? ⟨b, off + k * 11 + 4, none⟩ = some (.string x.type.of_) ∧
      w.cell? ⟨b, off + k * 11 + 5, none⟩ = some (.int .i64 x.type.unit) ∧
      w.cell? ⟨b, off + k * 11 + 6, none⟩ = some (.slice A1 n1 c1) ∧
      w.cell? ⟨b, off + k * 11 + 7, none⟩ = some (.int .i64 x.w0) ∧
      w.cell? ⟨b, off + k * 11 + 8, none⟩ = some (.int .i64 x.w1) ∧
      w.cell? ⟨b, off + k * 11 + 9, none⟩ = some (.int .i64 x.w2) ∧
      w.cell? ⟨b, off + k * 11 + 10, none⟩ = some (.int .i64 x.w3) ∧ SlB 1 16 strR w (.slice A1 n1 c1) x.type.names := by
  obtain ⟨b, off, x, cs, e, hb, hl, hlen, hc, hR⟩ := h.at_ hk
  obtain ⟨A1, n1, c1, rfl, h1⟩ := hR
  exact ⟨b, off, x, A1, n1, c1, e, hb, hl, by simpa using hc 0 _ rfl, by simpa [Nat.add_assoc] using hc 1 _ rfl, by simpa [Nat.add_assoc] using hc 2 _ rfl, by simpa [Nat.add_assoc] using hc 3 _ rfl, by simpa [Nat.add_assoc] using hc 4 _ rfl, by simpa [Nat.add_assoc] using hc 5 _ rfl, by simpa [Nat.add_assoc] using hc 6 _ rfl, by simpa [Nat.add_assoc] using hc 7 _ rfl, by simpa [Nat.add_assoc] using hc 8 _ rfl, by simpa [Nat.add_assoc] using hc 9 _ rfl, by simpa [Nat.add_assoc] using hc 10 _ rfl, h1⟩

/-- api.Depend: 4 cells. -/
def qDepR (w : World) (cs : List Value) (x : QDep) : Prop := ∃ A1 n1 c1 A2 n2 c2, cs = [.slice A1 n1 c1, .string x.name, .slice A2 n2 c2, .int .i64 x.dst] ∧ SlB 1 16 strR w (.slice A1 n1 c1) x.names ∧ SlB 1 8 iR w (.slice A2 n2 c2) x.src
theorem qDepR_mono : Mono qDepR := by
  rintro w w' hb cs x ⟨A1, n1, c1, A2, n2, c2, h0, h1, h2⟩
  exact ⟨A1, n1, c1, A2, n2, c2, h0, h1.mono strR_mono hb, h2.mono iR_mono hb⟩
theorem qDepR_one : One qDepR := by
  rintro w cs x ⟨A1, n1, c1, A2, n2, c2, rfl, _⟩ u hu
  simp only [List.mem_cons, List.not_mem_nil, or_false] at hu
  rcases hu with rfl | rfl | rfl | rfl <;> rfl
theorem qDep_at {w : World} {A : Option Addr} {n cap : Nat} {l : List QDep} (h : SlR 4 qDepR w (.slice A n cap) l) {k : Nat} (hk : k < n) :
    ∃ b off x A1 n1 c1 A2 n2 c2, A = some ⟨b, off, none⟩ ∧ b < w.heap.size ∧ l[k]? = some x ∧
      w.cell? ⟨b, off + k * 4, none⟩ = some (.slice A1 n1 c1) ∧
      w.cell? ⟨b, off + k * 4 + 1, none⟩ = some (.string x.name) ∧
      w.cell? ⟨b, off + k * 4 + 2, none⟩ = some (.slice A2 n2 c2) ∧
      w.cell? ⟨b, off + k * 4 + 3, none⟩ = some (.int .i64 x.dst) ∧ SlB 1 16 strR w (.slice A1 n1 c1) x.names ∧ SlB 1 8 iR w (.slice A2 n2 c2) x.src := by
  obtain ⟨b, off, x, cs, e, hb, hl, hlen, hc, hR⟩ := h.at_ hk
  obtain ⟨A1, n1, c1, A2, n2, c2, rfl, h1, h2⟩ := hR
  exact ⟨b, off, x, A1, n1, c1, A2, n2, c2, e, hb, hl, by simpa using hc 0 _ rfl, by simpa [Nat.add_assoc] using hc 1 _ rfl, by simpa [Nat.add_assoc] using hc 2 _ rfl, by simpa [Nat.add_assoc] using hc 3 _ rfl, h1, h2⟩

/-- api.Schema: 6 cells. -/
def qSchemaR (w : World) (cs : List Value) (x : QSchema) : Prop := ∃ A1 n1 c1 A2 n2 c2, cs = [.string x.name, .string x.by_, .int .i64 x.issuer, .int .i64 x.version, .slice A1 n1 c1, .slice A2 n2 c2] ∧ SlB 11 120 qFieldR w (.slice A1 n1 c1) x.fields ∧ SlB 4 72 qDepR w (.slice A2 n2 c2) x.deps
theorem qSchemaR_mono : Mono qSchemaR := by
  rintro w w' hb cs x ⟨A1, n1, c1, A2, n2, c2, h0, h1, h2⟩
  exact ⟨A1, n1, c1, A2, n2, c2, h0, h1.mono qFieldR_mono hb, h2.mono qDepR_mono hb⟩
theorem qSchemaR_one : One qSchemaR := by
  rintro w cs x ⟨A1, n1, c1, A2, n2, c2, rfl, _⟩ u hu
  simp only [List.mem_cons, List.not_mem_nil, or_false] at hu
  rcases hu with rfl | rfl | rfl | rfl | rfl | rfl <;> rfl
theorem qSchema_at {w : World} {A : Option Addr} {n cap : Nat} {l : List QSchema} (h : SlR 6 qSchemaR w (.slice A n cap) l) {k : Nat} (hk : k < n) :
    ∃ b off x A1 n1 c1 A2 n2 c2, A = some ⟨b, off, none⟩ ∧ b < w.heap.size ∧ l[k]? = some x ∧
      w.cell? ⟨b, off + k * 6, none⟩ = some (.string x.name) ∧
      w.cell? ⟨b, off + k * 6 + 1, none⟩ = some (.string x.by_) ∧
      w.cell? ⟨b, off + k * 6 + 2, none⟩ = some (.int .i64 x.issuer) ∧
      w.cell? ⟨b, off + k * 6 + 3, none⟩ = some (.int .i64 x.version) ∧
      w.cell? ⟨b, off + k * 6 + 4, none⟩ = some (.slice A1 n1 c1) ∧
      w.cell? ⟨b, off + k * 6 + 5, none⟩ = some (.slice A2 n2 c2) ∧ SlB 11 120 qFieldR w (.slice A1 n1 c1) x.fields ∧ SlB 4 72 qDepR w (.slice A2 n2 c2) x.deps := by
  obtain ⟨b, off, x, cs, e, hb, hl, hlen, hc, hR⟩ := h.at_ hk
  obtain ⟨A1, n1, c1, A2, n2, c2, rfl, h1, h2⟩ := hR
  exact ⟨b, off, x, A1, n1, c1, A2, n2, c2, e, hb, hl, by simpa using hc 0 _ rfl, by simpa [Nat.add_assoc] using hc 1 _ rfl, by simpa [Nat.add_assoc] using hc 2 _ rfl, by simpa [Nat.add_assoc] using hc 3 _ rfl, by simpa [Nat.add_assoc] using hc 4 _ rfl, by simpa [Nat.add_assoc] using hc 5 _ rfl, h1, h2⟩

/-- api.Rule: 5 cells. -/
def qRuleR (w : World) (cs : List Value) (x : QRule) : Prop := ∃ A1 n1 c1 A2 n2 c2 A3 n3 c3, cs = [.string x.head, .int .i64 x.schema, .slice A1 n1 c1, .slice A2 n2 c2, .slice A3 n3 c3] ∧ SlB 8 96 qFromR w (.slice A1 n1 c1) x.froms ∧ SlB 11 120 qAtomR w (.slice A2 n2 c2) x.where_ ∧ SlB 7 80 qSetR w (.slice A3 n3 c3) x.sets
theorem qRuleR_mono : Mono qRuleR := by
  rintro w w' hb cs x ⟨A1, n1, c1, A2, n2, c2, A3, n3, c3, h0, h1, h2, h3⟩
  exact ⟨A1, n1, c1, A2, n2, c2, A3, n3, c3, h0, h1.mono qFromR_mono hb, h2.mono qAtomR_mono hb, h3.mono qSetR_mono hb⟩
theorem qRuleR_one : One qRuleR := by
  rintro w cs x ⟨A1, n1, c1, A2, n2, c2, A3, n3, c3, rfl, _⟩ u hu
  simp only [List.mem_cons, List.not_mem_nil, or_false] at hu
  rcases hu with rfl | rfl | rfl | rfl | rfl <;> rfl
theorem qRule_at {w : World} {A : Option Addr} {n cap : Nat} {l : List QRule} (h : SlR 5 qRuleR w (.slice A n cap) l) {k : Nat} (hk : k < n) :
    ∃ b off x A1 n1 c1 A2 n2 c2 A3 n3 c3, A = some ⟨b, off, none⟩ ∧ b < w.heap.size ∧ l[k]? = some x ∧
      w.cell? ⟨b, off + k * 5, none⟩ = some (.string x.head) ∧
      w.cell? ⟨b, off + k * 5 + 1, none⟩ = some (.int .i64 x.schema) ∧
      w.cell? ⟨b, off + k * 5 + 2, none⟩ = some (.slice A1 n1 c1) ∧
      w.cell? ⟨b, off + k * 5 + 3, none⟩ = some (.slice A2 n2 c2) ∧
      w.cell? ⟨b, off + k * 5 + 4, none⟩ = some (.slice A3 n3 c3) ∧ SlB 8 96 qFromR w (.slice A1 n1 c1) x.froms ∧ SlB 11 120 qAtomR w (.slice A2 n2 c2) x.where_ ∧ SlB 7 80 qSetR w (.slice A3 n3 c3) x.sets := by
  obtain ⟨b, off, x, cs, e, hb, hl, hlen, hc, hR⟩ := h.at_ hk
  obtain ⟨A1, n1, c1, A2, n2, c2, A3, n3, c3, rfl, h1, h2, h3⟩ := hR
  exact ⟨b, off, x, A1, n1, c1, A2, n2, c2, A3, n3, c3, e, hb, hl, by simpa using hc 0 _ rfl, by simpa [Nat.add_assoc] using hc 1 _ rfl, by simpa [Nat.add_assoc] using hc 2 _ rfl, by simpa [Nat.add_assoc] using hc 3 _ rfl, by simpa [Nat.add_assoc] using hc 4 _ rfl, h1, h2, h3⟩

/-- api.Convert: 5 cells. -/
def qConvertR (w : World) (cs : List Value) (x : QConvert) : Prop := ∃ A1 n1 c1, cs = [.string x.from_, .string x.to_, .int .i64 x.a, .int .i64 x.b, .slice A1 n1 c1] ∧ SlB 5 56 qMoveR w (.slice A1 n1 c1) x.moves
theorem qConvertR_mono : Mono qConvertR := by
  rintro w w' hb cs x ⟨A1, n1, c1, h0, h1⟩
  exact ⟨A1, n1, c1, h0, h1.mono qMoveR_mono hb⟩
theorem qConvertR_one : One qConvertR := by
  rintro w cs x ⟨A1, n1, c1, rfl, _⟩ u hu
  simp only [List.mem_cons, List.not_mem_nil, or_false] at hu
  rcases hu with rfl | rfl | rfl | rfl | rfl <;> rfl
theorem qConvert_at {w : World} {A : Option Addr} {n cap : Nat} {l : List QConvert} (h : SlR 5 qConvertR w (.slice A n cap) l) {k : Nat} (hk : k < n) :
    ∃ b off x A1 n1 c1, A = some ⟨b, off, none⟩ ∧ b < w.heap.size ∧ l[k]? = some x ∧
      w.cell? ⟨b, off + k * 5, none⟩ = some (.string x.from_) ∧
      w.cell? ⟨b, off + k * 5 + 1, none⟩ = some (.string x.to_) ∧
      w.cell? ⟨b, off + k * 5 + 2, none⟩ = some (.int .i64 x.a) ∧
      w.cell? ⟨b, off + k * 5 + 3, none⟩ = some (.int .i64 x.b) ∧
      w.cell? ⟨b, off + k * 5 + 4, none⟩ = some (.slice A1 n1 c1) ∧ SlB 5 56 qMoveR w (.slice A1 n1 c1) x.moves := by
  obtain ⟨b, off, x, cs, e, hb, hl, hlen, hc, hR⟩ := h.at_ hk
  obtain ⟨A1, n1, c1, rfl, h1⟩ := hR
  exact ⟨b, off, x, A1, n1, c1, e, hb, hl, by simpa using hc 0 _ rfl, by simpa [Nat.add_assoc] using hc 1 _ rfl, by simpa [Nat.add_assoc] using hc 2 _ rfl, by simpa [Nat.add_assoc] using hc 3 _ rfl, by simpa [Nat.add_assoc] using hc 4 _ rfl, h1⟩

/-- api.Purpose: 3 cells. -/
def qPurposeR (w : World) (cs : List Value) (x : QPurpose) : Prop := ∃ A1 n1 c1, cs = [.string x.name, .slice A1 n1 c1, .int .i64 x.most] ∧ SlB 4 48 qRefR w (.slice A1 n1 c1) x.may
theorem qPurposeR_mono : Mono qPurposeR := by
  rintro w w' hb cs x ⟨A1, n1, c1, h0, h1⟩
  exact ⟨A1, n1, c1, h0, h1.mono qRefR_mono hb⟩
theorem qPurposeR_one : One qPurposeR := by
  rintro w cs x ⟨A1, n1, c1, rfl, _⟩ u hu
  simp only [List.mem_cons, List.not_mem_nil, or_false] at hu
  rcases hu with rfl | rfl | rfl <;> rfl
theorem qPurpose_at {w : World} {A : Option Addr} {n cap : Nat} {l : List QPurpose} (h : SlR 3 qPurposeR w (.slice A n cap) l) {k : Nat} (hk : k < n) :
    ∃ b off x A1 n1 c1, A = some ⟨b, off, none⟩ ∧ b < w.heap.size ∧ l[k]? = some x ∧
      w.cell? ⟨b, off + k * 3, none⟩ = some (.string x.name) ∧
      w.cell? ⟨b, off + k * 3 + 1, none⟩ = some (.slice A1 n1 c1) ∧
      w.cell? ⟨b, off + k * 3 + 2, none⟩ = some (.int .i64 x.most) ∧ SlB 4 48 qRefR w (.slice A1 n1 c1) x.may := by
  obtain ⟨b, off, x, cs, e, hb, hl, hlen, hc, hR⟩ := h.at_ hk
  obtain ⟨A1, n1, c1, rfl, h1⟩ := hR
  exact ⟨b, off, x, A1, n1, c1, e, hb, hl, by simpa using hc 0 _ rfl, by simpa [Nat.add_assoc] using hc 1 _ rfl, by simpa [Nat.add_assoc] using hc 2 _ rfl, h1⟩

/-- api.Source: 6 cells. -/
def qSourceR (w : World) (cs : List Value) (x : QSource) : Prop := ∃ A1 n1 c1 A2 n2 c2 A3 n3 c3 A4 n4 c4 A5 n5 c5 A6 n6 c6, cs = [.slice A1 n1 c1, .slice A2 n2 c2, .slice A3 n3 c3, .slice A4 n4 c4, .slice A5 n5 c5, .slice A6 n6 c6] ∧ SlB 1 16 strR w (.slice A1 n1 c1) x.issuers ∧ SlB 5 56 qUnitR w (.slice A2 n2 c2) x.units ∧ SlB 6 96 qSchemaR w (.slice A3 n3 c3) x.schemas ∧ SlB 5 96 qRuleR w (.slice A4 n4 c4) x.rules ∧ SlB 5 72 qConvertR w (.slice A5 n5 c5) x.converts ∧ SlB 3 48 qPurposeR w (.slice A6 n6 c6) x.purposes
theorem qSourceR_mono : Mono qSourceR := by
  rintro w w' hb cs x ⟨A1, n1, c1, A2, n2, c2, A3, n3, c3, A4, n4, c4, A5, n5, c5, A6, n6, c6, h0, h1, h2, h3, h4, h5, h6⟩
  exact ⟨A1, n1, c1, A2, n2, c2, A3, n3, c3, A4, n4, c4, A5, n5, c5, A6, n6, c6, h0, h1.mono strR_mono hb, h2.mono qUnitR_mono hb, h3.mono qSchemaR_mono hb, h4.mono qRuleR_mono hb, h5.mono qConvertR_mono hb, h6.mono qPurposeR_mono hb⟩
theorem qSourceR_one : One qSourceR := by
  rintro w cs x ⟨A1, n1, c1, A2, n2, c2, A3, n3, c3, A4, n4, c4, A5, n5, c5, A6, n6, c6, rfl, _⟩ u hu
  simp only [List.mem_cons, List.not_mem_nil, or_false] at hu
  rcases hu with rfl | rfl | rfl | rfl | rfl | rfl <;> rfl
theorem qSource_at {w : World} {A : Option Addr} {n cap : Nat} {l : List QSource} (h : SlR 6 qSourceR w (.slice A n cap) l) {k : Nat} (hk : k < n) :
    ∃ b off x A1 n1 c1 A2 n2 c2 A3 n3 c3 A4 n4 c4 A5 n5 c5 A6 n6 c6, A = some ⟨b, off, none⟩ ∧ b < w.heap.size ∧ l[k]? = some x ∧
      w.cell? ⟨b, off + k * 6, none⟩ = some (.slice A1 n1 c1) ∧
      w.cell? ⟨b, off + k * 6 + 1, none⟩ = some (.slice A2 n2 c2) ∧
      w.cell? ⟨b, off + k * 6 + 2, none⟩ = some (.slice A3 n3 c3) ∧
      w.cell? ⟨b, off + k * 6 + 3, none⟩ = some (.slice A4 n4 c4) ∧
      w.cell? ⟨b, off + k * 6 + 4, none⟩ = some (.slice A5 n5 c5) ∧
      w.cell? ⟨b, off + k * 6 + 5, none⟩ = some (.slice A6 n6 c6) ∧ SlB 1 16 strR w (.slice A1 n1 c1) x.issuers ∧ SlB 5 56 qUnitR w (.slice A2 n2 c2) x.units ∧ SlB 6 96 qSchemaR w (.slice A3 n3 c3) x.schemas ∧ SlB 5 96 qRuleR w (.slice A4 n4 c4) x.rules ∧ SlB 5 72 qConvertR w (.slice A5 n5 c5) x.converts ∧ SlB 3 48 qPurposeR w (.slice A6 n6 c6) x.purposes := by
  obtain ⟨b, off, x, cs, e, hb, hl, hlen, hc, hR⟩ := h.at_ hk
  obtain ⟨A1, n1, c1, A2, n2, c2, A3, n3, c3, A4, n4, c4, A5, n5, c5, A6, n6, c6, rfl, h1, h2, h3, h4, h5, h6⟩ := hR
  exact ⟨b, off, x, A1, n1, c1, A2, n2, c2, A3, n3, c3, A4, n4, c4, A5, n5, c5, A6, n6, c6, e, hb, hl, by simpa using hc 0 _ rfl, by simpa [Nat.add_assoc] using hc 1 _ rfl, by simpa [Nat.add_assoc] using hc 2 _ rfl, by simpa [Nat.add_assoc] using hc 3 _ rfl, by simpa [Nat.add_assoc] using hc 4 _ rfl, by simpa [Nat.add_assoc] using hc 5 _ rfl, h1, h2, h3, h4, h5, h6⟩

end Go.Proofs.Ytkkkephjljiplaa
