/- A map that reads as a list of pairs: look-up and store as equations on the operation's run, whatever the key's type. Plain lemmas, no program. -/
import Derived.Test.YtkgmonplcdnnbaaGreatPm00
import Derived.MapKept
namespace Go.Proofs.YtkgmonplcdnnbaaGreat
open Go.RowKit
def strR (_ : World) (cs : List Value) (x : ByteArray) : Prop := cs = [.string x]
def iR (_ : World) (cs : List Value) (x : Int) : Prop := cs = [.int .i64 x]
theorem strR_mono : Mono strR := fun _ _ _ _ _ h => h
theorem iR_mono : Mono iR := fun _ _ _ _ _ h => h
theorem strR_one : One strR := by
 rintro w cs x rfl u hu
 simp only [List.mem_singleton] at hu
 subst hu
 rfl
theorem iR_one : One iR := by
 rintro w cs x rfl u hu
 simp only [List.mem_singleton] at hu
 subst hu
 rfl
def SlB {α : Type} (sz bytes : Nat) (R : World → List Value → α → Prop) (w : World) (v : Value) (l : List α) : Prop := SlR sz R w v l ∧ l.length * bytes ≤ 140737488355328
theorem SlB.mono {α : Type} {sz bytes : Nat} {R : World → List Value → α → Prop} {w w' : World} {l : List α} (hR : Mono R) (hb : Below w.heap.size w w') {v : Value} (h : SlB sz bytes R w v l) : SlB sz bytes R w' v l := ⟨h.1.mono hR hb, h.2⟩
theorem str_at {w : World} {A : Option Addr} {n cap : Nat} {l : List ByteArray} (h : SlR 1 strR w (.slice A n cap) l) {k : Nat} (hk : k < n) :
 ∃ b off x, A = some ⟨b, off, none⟩ ∧ b < w.heap.size ∧ l[k]? = some x ∧ w.cell? ⟨b, off + k, none⟩ = some (.string x) := by
 obtain ⟨b, off, x, cs, e, hb, hl, hlen, hc, rfl⟩ := h.at_ hk
 exact ⟨b, off, x, e, hb, hl, by simpa using hc 0 _ rfl⟩
theorem i_at {w : World} {A : Option Addr} {n cap : Nat} {l : List Int} (h : SlR 1 iR w (.slice A n cap) l) {k : Nat} (hk : k < n) :
 ∃ b off x, A = some ⟨b, off, none⟩ ∧ b < w.heap.size ∧ l[k]? = some x ∧ w.cell? ⟨b, off + k, none⟩ = some (.int .i64 x) := by
 obtain ⟨b, off, x, cs, e, hb, hl, hlen, hc, rfl⟩ := h.at_ hk
 exact ⟨b, off, x, e, hb, hl, by simpa using hc 0 _ rfl⟩
structure QUnit where
 name : ByteArray
 of_ : ByteArray
 factor : Int
 base : Int
 scale : Int
 deriving DecidableEq
structure QTerm where
 name : ByteArray
 path : ByteArray
 var : Int
 field : Int
 n : Int
 deriving DecidableEq
structure QAtom where
 op : Int
 a : QTerm
 b : QTerm
 deriving DecidableEq
structure QFrom where
 name : ByteArray
 kind : ByteArray
 schema : Int
 of_ : QTerm
 deriving DecidableEq
structure QSet where
 path : ByteArray
 field : Int
 term : QTerm
 deriving DecidableEq
structure QMove where
 to_ : ByteArray
 from_ : ByteArray
 b : Int
 a : Int
 shift : Int
 deriving DecidableEq
structure QRef where
 name : ByteArray
 path : ByteArray
 schema : Int
 field : Int
 deriving DecidableEq
structure QType where
 kind : Int
 lo : Int
 hi : Int
 of_ : ByteArray
 unit : Int
 names : List ByteArray
 deriving DecidableEq
structure QField where
 name : ByteArray
 type : QType
 w0 : Int
 w1 : Int
 w2 : Int
 w3 : Int
 deriving DecidableEq
structure QDep where
 names : List ByteArray
 name : ByteArray
 src : List Int
 dst : Int
 deriving DecidableEq
structure QSchema where
 name : ByteArray
 by_ : ByteArray
 issuer : Int
 version : Int
 fields : List QField
 deps : List QDep
 deriving DecidableEq
structure QRule where
 head : ByteArray
 schema : Int
 froms : List QFrom
 where_ : List QAtom
 sets : List QSet
 deriving DecidableEq
structure QConvert where
 from_ : ByteArray
 to_ : ByteArray
 a : Int
 b : Int
 moves : List QMove
 deriving DecidableEq
structure QPurpose where
 name : ByteArray
 may : List QRef
 most : Int
 deriving DecidableEq
structure QSource where
 issuers : List ByteArray
 units : List QUnit
 schemas : List QSchema
 rules : List QRule
 converts : List QConvert
 purposes : List QPurpose
 deriving DecidableEq
def qUnitR (_ : World) (cs : List Value) (x : QUnit) : Prop := cs = [.string x.name, .string x.of_, .int .i64 x.factor, .int .i64 x.base, .int .i64 x.scale]
theorem qUnitR_mono : Mono qUnitR := fun _ _ _ _ _ h => h
theorem qUnitR_one : One qUnitR := by
 rintro w cs x rfl u hu
 simp only [List.mem_cons, List.not_mem_nil, or_false] at hu
 rcases hu with rfl | rfl | rfl | rfl | rfl <;> rfl
theorem qUnit_at {w : World} {A : Option Addr} {n cap : Nat} {l : List QUnit} (h : SlR 5 qUnitR w (.slice A n cap) l) {k : Nat} (hk : k < n) :
 ∃ b off x, A = some ⟨b, off, none⟩ ∧ b < w.heap.size ∧ l[k]? = some x ∧
  w.cell? ⟨b, off + k * 5, none⟩ = some (.string x.name) ∧
  w.cell? ⟨b, off + k * 5 + 1, none⟩ = some (.string x.of_) ∧
  w.cell? ⟨b, off + k * 5 + 2, none⟩ = some (.int .i64 x.factor) ∧
  w.cell? ⟨b, off + k * 5 + 3, none⟩ = some (.int .i64 x.base) ∧
  w.cell? ⟨b, off + k * 5 + 4, none⟩ = some (.int .i64 x.scale) := by
 obtain ⟨b, off, x, cs, e, hb, hl, hlen, hc, hR⟩ := h.at_ hk
 have hR' : cs = _ := hR
 subst hR'
 exact ⟨b, off, x, e, hb, hl, by simpa using hc 0 _ rfl, by simpa [Nat.add_assoc] using hc 1 _ rfl, by simpa [Nat.add_assoc] using hc 2 _ rfl, by simpa [Nat.add_assoc] using hc 3 _ rfl, by simpa [Nat.add_assoc] using hc 4 _ rfl⟩
def qTermR (_ : World) (cs : List Value) (x : QTerm) : Prop := cs = [.string x.name, .string x.path, .int .i64 x.var, .int .i64 x.field, .int .i64 x.n]
def qAtomR (_ : World) (cs : List Value) (x : QAtom) : Prop := cs = [.int .i64 x.op, .string x.a.name, .string x.a.path, .int .i64 x.a.var, .int .i64 x.a.field, .int .i64 x.a.n, .string x.b.name, .string x.b.path, .int .i64 x.b.var, .int .i64 x.b.field, .int .i64 x.b.n]
theorem qAtomR_mono : Mono qAtomR := fun _ _ _ _ _ h => h
theorem qAtomR_one : One qAtomR := by
 rintro w cs x rfl u hu
 simp only [List.mem_cons, List.not_mem_nil, or_false] at hu
 rcases hu with rfl | rfl | rfl | rfl | rfl | rfl | rfl | rfl | rfl | rfl | rfl <;> rfl
theorem qAtom_at {w : World} {A : Option Addr} {n cap : Nat} {l : List QAtom} (h : SlR 11 qAtomR w (.slice A n cap) l) {k : Nat} (hk : k < n) :
 ∃ b off x, A = some ⟨b, off, none⟩ ∧ b < w.heap.size ∧ l[k]? = some x ∧
  w.cell? ⟨b, off + k * 11, none⟩ = some (.int .i64 x.op) ∧
  w.cell? ⟨b, off + k * 11 + 1, none⟩ = some (.string x.a.name) ∧
  w.cell? ⟨b, off + k * 11 + 2, none⟩ = some (.string x.a.path) ∧
  w.cell? ⟨b, off + k * 11 + 3, none⟩ = some (.int .i64 x.a.var) ∧
  w.cell? ⟨b, off + k * 11 + 4, none⟩ = some (.int .i64 x.a.field) ∧
  w.cell? ⟨b, off + k * 11 + 5, none⟩ = some (.int .i64 x.a.n) ∧
  w.cell? ⟨b, off + k * 11 + 6, none⟩ = some (.string x.b.name) ∧
  w.cell? ⟨b, off + k * 11 + 7, none⟩ = some (.string x.b.path) ∧
  w.cell? ⟨b, off + k * 11 + 8, none⟩ = some (.int .i64 x.b.var) ∧
  w.cell? ⟨b, off + k * 11 + 9, none⟩ = some (.int .i64 x.b.field) ∧
  w.cell? ⟨b, off + k * 11 + 10, none⟩ = some (.int .i64 x.b.n) := by
 obtain ⟨b, off, x, cs, e, hb, hl, hlen, hc, hR⟩ := h.at_ hk
 have hR' : cs = _ := hR
 subst hR'
 exact ⟨b, off, x, e, hb, hl, by simpa using hc 0 _ rfl, by simpa [Nat.add_assoc] using hc 1 _ rfl, by simpa [Nat.add_assoc] using hc 2 _ rfl, by simpa [Nat.add_assoc] using hc 3 _ rfl, by simpa [Nat.add_assoc] using hc 4 _ rfl, by simpa [Nat.add_assoc] using hc 5 _ rfl, by simpa [Nat.add_assoc] using hc 6 _ rfl, by simpa [Nat.add_assoc] using hc 7 _ rfl, by simpa [Nat.add_assoc] using hc 8 _ rfl, by simpa [Nat.add_assoc] using hc 9 _ rfl, by simpa [Nat.add_assoc] using hc 10 _ rfl⟩
def qFromR (_ : World) (cs : List Value) (x : QFrom) : Prop := cs = [.string x.name, .string x.kind, .int .i64 x.schema, .string x.of_.name, .string x.of_.path, .int .i64 x.of_.var, .int .i64 x.of_.field, .int .i64 x.of_.n]
theorem qFromR_mono : Mono qFromR := fun _ _ _ _ _ h => h
theorem qFromR_one : One qFromR := by
 rintro w cs x rfl u hu
 simp only [List.mem_cons, List.not_mem_nil, or_false] at hu
 rcases hu with rfl | rfl | rfl | rfl | rfl | rfl | rfl | rfl <;> rfl
theorem qFrom_at {w : World} {A : Option Addr} {n cap : Nat} {l : List QFrom} (h : SlR 8 qFromR w (.slice A n cap) l) {k : Nat} (hk : k < n) :
 ∃ b off x, A = some ⟨b, off, none⟩ ∧ b < w.heap.size ∧ l[k]? = some x ∧
  w.cell? ⟨b, off + k * 8, none⟩ = some (.string x.name) ∧
  w.cell? ⟨b, off + k * 8 + 1, none⟩ = some (.string x.kind) ∧
  w.cell? ⟨b, off + k * 8 + 2, none⟩ = some (.int .i64 x.schema) ∧
  w.cell? ⟨b, off + k * 8 + 3, none⟩ = some (.string x.of_.name) ∧
  w.cell? ⟨b, off + k * 8 + 4, none⟩ = some (.string x.of_.path) ∧
  w.cell? ⟨b, off + k * 8 + 5, none⟩ = some (.int .i64 x.of_.var) ∧
  w.cell? ⟨b, off + k * 8 + 6, none⟩ = some (.int .i64 x.of_.field) ∧
  w.cell? ⟨b, off + k * 8 + 7, none⟩ = some (.int .i64 x.of_.n) := by
 obtain ⟨b, off, x, cs, e, hb, hl, hlen, hc, hR⟩ := h.at_ hk
 have hR' : cs = _ := hR
 subst hR'
 exact ⟨b, off, x, e, hb, hl, by simpa using hc 0 _ rfl, by simpa [Nat.add_assoc] using hc 1 _ rfl, by simpa [Nat.add_assoc] using hc 2 _ rfl, by simpa [Nat.add_assoc] using hc 3 _ rfl, by simpa [Nat.add_assoc] using hc 4 _ rfl, by simpa [Nat.add_assoc] using hc 5 _ rfl, by simpa [Nat.add_assoc] using hc 6 _ rfl, by simpa [Nat.add_assoc] using hc 7 _ rfl⟩
def qSetR (_ : World) (cs : List Value) (x : QSet) : Prop := cs = [.string x.path, .int .i64 x.field, .string x.term.name, .string x.term.path, .int .i64 x.term.var, .int .i64 x.term.field, .int .i64 x.term.n]
theorem qSetR_mono : Mono qSetR := fun _ _ _ _ _ h => h
theorem qSetR_one : One qSetR := by
 rintro w cs x rfl u hu
 simp only [List.mem_cons, List.not_mem_nil, or_false] at hu
 rcases hu with rfl | rfl | rfl | rfl | rfl | rfl | rfl <;> rfl
theorem qSet_at {w : World} {A : Option Addr} {n cap : Nat} {l : List QSet} (h : SlR 7 qSetR w (.slice A n cap) l) {k : Nat} (hk : k < n) :
 ∃ b off x, A = some ⟨b, off, none⟩ ∧ b < w.heap.size ∧ l[k]? = some x ∧
  w.cell? ⟨b, off + k * 7, none⟩ = some (.string x.path) ∧
  w.cell? ⟨b, off + k * 7 + 1, none⟩ = some (.int .i64 x.field) ∧
  w.cell? ⟨b, off + k * 7 + 2, none⟩ = some (.string x.term.name) ∧
  w.cell? ⟨b, off + k * 7 + 3, none⟩ = some (.string x.term.path) ∧
  w.cell? ⟨b, off + k * 7 + 4, none⟩ = some (.int .i64 x.term.var) ∧
  w.cell? ⟨b, off + k * 7 + 5, none⟩ = some (.int .i64 x.term.field) ∧
  w.cell? ⟨b, off + k * 7 + 6, none⟩ = some (.int .i64 x.term.n) := by
 obtain ⟨b, off, x, cs, e, hb, hl, hlen, hc, hR⟩ := h.at_ hk
 have hR' : cs = _ := hR
 subst hR'
 exact ⟨b, off, x, e, hb, hl, by simpa using hc 0 _ rfl, by simpa [Nat.add_assoc] using hc 1 _ rfl, by simpa [Nat.add_assoc] using hc 2 _ rfl, by simpa [Nat.add_assoc] using hc 3 _ rfl, by simpa [Nat.add_assoc] using hc 4 _ rfl, by simpa [Nat.add_assoc] using hc 5 _ rfl, by simpa [Nat.add_assoc] using hc 6 _ rfl⟩
def qMoveR (_ : World) (cs : List Value) (x : QMove) : Prop := cs = [.string x.to_, .string x.from_, .int .i64 x.b, .int .i64 x.a, .int .i64 x.shift]
theorem qMoveR_mono : Mono qMoveR := fun _ _ _ _ _ h => h
theorem qMoveR_one : One qMoveR := by
 rintro w cs x rfl u hu
 simp only [List.mem_cons, List.not_mem_nil, or_false] at hu
 rcases hu with rfl | rfl | rfl | rfl | rfl <;> rfl
theorem qMove_at {w : World} {A : Option Addr} {n cap : Nat} {l : List QMove} (h : SlR 5 qMoveR w (.slice A n cap) l) {k : Nat} (hk : k < n) :
 ∃ b off x, A = some ⟨b, off, none⟩ ∧ b < w.heap.size ∧ l[k]? = some x ∧
  w.cell? ⟨b, off + k * 5, none⟩ = some (.string x.to_) ∧
  w.cell? ⟨b, off + k * 5 + 1, none⟩ = some (.string x.from_) ∧
  w.cell? ⟨b, off + k * 5 + 2, none⟩ = some (.int .i64 x.b) ∧
  w.cell? ⟨b, off + k * 5 + 3, none⟩ = some (.int .i64 x.a) ∧
  w.cell? ⟨b, off + k * 5 + 4, none⟩ = some (.int .i64 x.shift) := by
 obtain ⟨b, off, x, cs, e, hb, hl, hlen, hc, hR⟩ := h.at_ hk
 have hR' : cs = _ := hR
 subst hR'
 exact ⟨b, off, x, e, hb, hl, by simpa using hc 0 _ rfl, by simpa [Nat.add_assoc] using hc 1 _ rfl, by simpa [Nat.add_assoc] using hc 2 _ rfl, by simpa [Nat.add_assoc] using hc 3 _ rfl, by simpa [Nat.add_assoc] using hc 4 _ rfl⟩
def qRefR (_ : World) (cs : List Value) (x : QRef) : Prop := cs = [.string x.name, .string x.path, .int .i64 x.schema, .int .i64 x.field]
theorem qRefR_mono : Mono qRefR := fun _ _ _ _ _ h => h
theorem qRefR_one : One qRefR := by
 rintro w cs x rfl u hu
 simp only [List.mem_cons, List.not_mem_nil, or_false] at hu
 rcases hu with rfl | rfl | rfl | rfl <;> rfl
theorem qRef_at {w : World} {A : Option Addr} {n cap : Nat} {l : List QRef} (h : SlR 4 qRefR w (.slice A n cap) l) {k : Nat} (hk : k < n) :
 ∃ b off x, A = some ⟨b, off, none⟩ ∧ b < w.heap.size ∧ l[k]? = some x ∧
  w.cell? ⟨b, off + k * 4, none⟩ = some (.string x.name) ∧
  w.cell? ⟨b, off + k * 4 + 1, none⟩ = some (.string x.path) ∧
  w.cell? ⟨b, off + k * 4 + 2, none⟩ = some (.int .i64 x.schema) ∧
  w.cell? ⟨b, off + k * 4 + 3, none⟩ = some (.int .i64 x.field) := by
 obtain ⟨b, off, x, cs, e, hb, hl, hlen, hc, hR⟩ := h.at_ hk
 have hR' : cs = _ := hR
 subst hR'
 exact ⟨b, off, x, e, hb, hl, by simpa using hc 0 _ rfl, by simpa [Nat.add_assoc] using hc 1 _ rfl, by simpa [Nat.add_assoc] using hc 2 _ rfl, by simpa [Nat.add_assoc] using hc 3 _ rfl⟩
def qTypeR (w : World) (cs : List Value) (x : QType) : Prop := ∃ A1 n1 c1, cs = [.int .i64 x.kind, .int .i64 x.lo, .int .i64 x.hi, .string x.of_, .int .i64 x.unit, .slice A1 n1 c1] ∧ SlB 1 16 strR w (.slice A1 n1 c1) x.names
theorem qTypeR_one : One qTypeR := by
 rintro w cs x ⟨A1, n1, c1, rfl, _⟩ u hu
 simp only [List.mem_cons, List.not_mem_nil, or_false] at hu
 rcases hu with rfl | rfl | rfl | rfl | rfl | rfl <;> rfl
def qFieldR (w : World) (cs : List Value) (x : QField) : Prop := ∃ A1 n1 c1, cs = [.string x.name, .int .i64 x.type.kind, .int .i64 x.type.lo, .int .i64 x.type.hi, .string x.type.of_, .int .i64 x.type.unit, .slice A1 n1 c1, .int .i64 x.w0, .int .i64 x.w1, .int .i64 x.w2, .int .i64 x.w3] ∧ SlB 1 16 strR w (.slice A1 n1 c1) x.type.names
theorem qFieldR_mono : Mono qFieldR := by
 rintro w w' hb cs x ⟨A1, n1, c1, h0, h1⟩
 exact ⟨A1, n1, c1, h0, h1.mono strR_mono hb⟩
theorem qFieldR_one : One qFieldR := by
 rintro w cs x ⟨A1, n1, c1, rfl, _⟩ u hu
 simp only [List.mem_cons, List.not_mem_nil, or_false] at hu
 rcases hu with rfl | rfl | rfl | rfl | rfl | rfl | rfl | rfl | rfl | rfl | rfl <;> rfl
theorem qField_at {w : World} {A : Option Addr} {n cap : Nat} {l : List QField} (h : SlR 11 qFieldR w (.slice A n cap) l) {k : Nat} (hk : k < n) :
 ∃ b off x A1 n1 c1, A = some ⟨b, off, none⟩ ∧ b < w.heap.size ∧ l[k]? = some x ∧
  w.cell? ⟨b, off + k * 11, none⟩ = some (.string x.name) ∧
  w.cell? ⟨b, off + k * 11 + 1, none⟩ = some (.int .i64 x.type.kind) ∧
  w.cell? ⟨b, off + k * 11 + 2, none⟩ = some (.int .i64 x.type.lo) ∧
  w.cell? ⟨b, off + k * 11 + 3, none⟩ = some (.int .i64 x.type.hi) ∧
  w.cell? ⟨b, off + k * 11 + 4, none⟩ = some (.string x.type.of_) ∧
  w.cell? ⟨b, off + k * 11 + 5, none⟩ = some (.int .i64 x.type.unit) ∧
  w.cell? ⟨b, off + k * 11 + 6, none⟩ = some (.slice A1 n1 c1) ∧
  w.cell? ⟨b, off + k * 11 + 7, none⟩ = some (.int .i64 x.w0) ∧
  w.cell? ⟨b, off + k * 11 + 8, none⟩ = some (.int .i64 x.w1) ∧
  w.cell? ⟨b, off + k * 11 + 9, none⟩ = some (.int .i64 x.w2) ∧
  w.cell? ⟨b, off + k * 11 + 10, none⟩ = some (.int .i64 x.w3) ∧ SlB 1 16 strR w (.slice A1 n1 c1) x.type.names := by
 obtain ⟨b, off, x, cs, e, hb, hl, hlen, hc, hR⟩ := h.at_ hk
 obtain ⟨A1, n1, c1, rfl, h1⟩ := hR
 exact ⟨b, off, x, A1, n1, c1, e, hb, hl, by simpa using hc 0 _ rfl, by simpa [Nat.add_assoc] using hc 1 _ rfl, by simpa [Nat.add_assoc] using hc 2 _ rfl, by simpa [Nat.add_assoc] using hc 3 _ rfl, by simpa [Nat.add_assoc] using hc 4 _ rfl, by simpa [Nat.add_assoc] using hc 5 _ rfl, by simpa [Nat.add_assoc] using hc 6 _ rfl, by simpa [Nat.add_assoc] using hc 7 _ rfl, by simpa [Nat.add_assoc] using hc 8 _ rfl, by simpa [Nat.add_assoc] using hc 9 _ rfl, by simpa [Nat.add_assoc] using hc 10 _ rfl, h1⟩
def qDepR (w : World) (cs : List Value) (x : QDep) : Prop := ∃ A1 n1 c1 A2 n2 c2, cs = [.slice A1 n1 c1, .string x.name, .slice A2 n2 c2, .int .i64 x.dst] ∧ SlB 1 16 strR w (.slice A1 n1 c1) x.names ∧ SlB 1 8 iR w (.slice A2 n2 c2) x.src
theorem qDepR_mono : Mono qDepR := by
 rintro w w' hb cs x ⟨A1, n1, c1, A2, n2, c2, h0, h1, h2⟩
 exact ⟨A1, n1, c1, A2, n2, c2, h0, h1.mono strR_mono hb, h2.mono iR_mono hb⟩
theorem qDepR_one : One qDepR := by
 rintro w cs x ⟨A1, n1, c1, A2, n2, c2, rfl, _⟩ u hu
 simp only [List.mem_cons, List.not_mem_nil, or_false] at hu
 rcases hu with rfl | rfl | rfl | rfl <;> rfl
theorem qDep_at {w : World} {A : Option Addr} {n cap : Nat} {l : List QDep} (h : SlR 4 qDepR w (.slice A n cap) l) {k : Nat} (hk : k < n) :
 ∃ b off x A1 n1 c1 A2 n2 c2, A = some ⟨b, off, none⟩ ∧ b < w.heap.size ∧ l[k]? = some x ∧
  w.cell? ⟨b, off + k * 4, none⟩ = some (.slice A1 n1 c1) ∧
  w.cell? ⟨b, off + k * 4 + 1, none⟩ = some (.string x.name) ∧
  w.cell? ⟨b, off + k * 4 + 2, none⟩ = some (.slice A2 n2 c2) ∧
  w.cell? ⟨b, off + k * 4 + 3, none⟩ = some (.int .i64 x.dst) ∧ SlB 1 16 strR w (.slice A1 n1 c1) x.names ∧ SlB 1 8 iR w (.slice A2 n2 c2) x.src := by
 obtain ⟨b, off, x, cs, e, hb, hl, hlen, hc, hR⟩ := h.at_ hk
 obtain ⟨A1, n1, c1, A2, n2, c2, rfl, h1, h2⟩ := hR
 exact ⟨b, off, x, A1, n1, c1, A2, n2, c2, e, hb, hl, by simpa using hc 0 _ rfl, by simpa [Nat.add_assoc] using hc 1 _ rfl, by simpa [Nat.add_assoc] using hc 2 _ rfl, by simpa [Nat.add_assoc] using hc 3 _ rfl, h1, h2⟩
def qSchemaR (w : World) (cs : List Value) (x : QSchema) : Prop := ∃ A1 n1 c1 A2 n2 c2, cs = [.string x.name, .string x.by_, .int .i64 x.issuer, .int .i64 x.version, .slice A1 n1 c1, .slice A2 n2 c2] ∧ SlB 11 120 qFieldR w (.slice A1 n1 c1) x.fields ∧ SlB 4 72 qDepR w (.slice A2 n2 c2) x.deps
theorem qSchemaR_mono : Mono qSchemaR := by
 rintro w w' hb cs x ⟨A1, n1, c1, A2, n2, c2, h0, h1, h2⟩
 exact ⟨A1, n1, c1, A2, n2, c2, h0, h1.mono qFieldR_mono hb, h2.mono qDepR_mono hb⟩
theorem qSchemaR_one : One qSchemaR := by
 rintro w cs x ⟨A1, n1, c1, A2, n2, c2, rfl, _⟩ u hu
 simp only [List.mem_cons, List.not_mem_nil, or_false] at hu
 rcases hu with rfl | rfl | rfl | rfl | rfl | rfl <;> rfl
theorem qSchema_at {w : World} {A : Option Addr} {n cap : Nat} {l : List QSchema} (h : SlR 6 qSchemaR w (.slice A n cap) l) {k : Nat} (hk : k < n) :
 ∃ b off x A1 n1 c1 A2 n2 c2, A = some ⟨b, off, none⟩ ∧ b < w.heap.size ∧ l[k]? = some x ∧
  w.cell? ⟨b, off + k * 6, none⟩ = some (.string x.name) ∧
  w.cell? ⟨b, off + k * 6 + 1, none⟩ = some (.string x.by_) ∧
  w.cell? ⟨b, off + k * 6 + 2, none⟩ = some (.int .i64 x.issuer) ∧
  w.cell? ⟨b, off + k * 6 + 3, none⟩ = some (.int .i64 x.version) ∧
  w.cell? ⟨b, off + k * 6 + 4, none⟩ = some (.slice A1 n1 c1) ∧
  w.cell? ⟨b, off + k * 6 + 5, none⟩ = some (.slice A2 n2 c2) ∧ SlB 11 120 qFieldR w (.slice A1 n1 c1) x.fields ∧ SlB 4 72 qDepR w (.slice A2 n2 c2) x.deps := by
 obtain ⟨b, off, x, cs, e, hb, hl, hlen, hc, hR⟩ := h.at_ hk
 obtain ⟨A1, n1, c1, A2, n2, c2, rfl, h1, h2⟩ := hR
 exact ⟨b, off, x, A1, n1, c1, A2, n2, c2, e, hb, hl, by simpa using hc 0 _ rfl, by simpa [Nat.add_assoc] using hc 1 _ rfl, by simpa [Nat.add_assoc] using hc 2 _ rfl, by simpa [Nat.add_assoc] using hc 3 _ rfl, by simpa [Nat.add_assoc] using hc 4 _ rfl, by simpa [Nat.add_assoc] using hc 5 _ rfl, h1, h2⟩
def qRuleR (w : World) (cs : List Value) (x : QRule) : Prop := ∃ A1 n1 c1 A2 n2 c2 A3 n3 c3, cs = [.string x.head, .int .i64 x.schema, .slice A1 n1 c1, .slice A2 n2 c2, .slice A3 n3 c3] ∧ SlB 8 96 qFromR w (.slice A1 n1 c1) x.froms ∧ SlB 11 120 qAtomR w (.slice A2 n2 c2) x.where_ ∧ SlB 7 80 qSetR w (.slice A3 n3 c3) x.sets
theorem qRuleR_mono : Mono qRuleR := by
 rintro w w' hb cs x ⟨A1, n1, c1, A2, n2, c2, A3, n3, c3, h0, h1, h2, h3⟩
 exact ⟨A1, n1, c1, A2, n2, c2, A3, n3, c3, h0, h1.mono qFromR_mono hb, h2.mono qAtomR_mono hb, h3.mono qSetR_mono hb⟩
theorem qRuleR_one : One qRuleR := by
 rintro w cs x ⟨A1, n1, c1, A2, n2, c2, A3, n3, c3, rfl, _⟩ u hu
 simp only [List.mem_cons, List.not_mem_nil, or_false] at hu
 rcases hu with rfl | rfl | rfl | rfl | rfl <;> rfl
theorem qRule_at {w : World} {A : Option Addr} {n cap : Nat} {l : List QRule} (h : SlR 5 qRuleR w (.slice A n cap) l) {k : Nat} (hk : k < n) :
 ∃ b off x A1 n1 c1 A2 n2 c2 A3 n3 c3, A = some ⟨b, off, none⟩ ∧ b < w.heap.size ∧ l[k]? = some x ∧
  w.cell? ⟨b, off + k * 5, none⟩ = some (.string x.head) ∧
  w.cell? ⟨b, off + k * 5 + 1, none⟩ = some (.int .i64 x.schema) ∧
  w.cell? ⟨b, off + k * 5 + 2, none⟩ = some (.slice A1 n1 c1) ∧
  w.cell? ⟨b, off + k * 5 + 3, none⟩ = some (.slice A2 n2 c2) ∧
  w.cell? ⟨b, off + k * 5 + 4, none⟩ = some (.slice A3 n3 c3) ∧ SlB 8 96 qFromR w (.slice A1 n1 c1) x.froms ∧ SlB 11 120 qAtomR w (.slice A2 n2 c2) x.where_ ∧ SlB 7 80 qSetR w (.slice A3 n3 c3) x.sets := by
 obtain ⟨b, off, x, cs, e, hb, hl, hlen, hc, hR⟩ := h.at_ hk
 obtain ⟨A1, n1, c1, A2, n2, c2, A3, n3, c3, rfl, h1, h2, h3⟩ := hR
 exact ⟨b, off, x, A1, n1, c1, A2, n2, c2, A3, n3, c3, e, hb, hl, by simpa using hc 0 _ rfl, by simpa [Nat.add_assoc] using hc 1 _ rfl, by simpa [Nat.add_assoc] using hc 2 _ rfl, by simpa [Nat.add_assoc] using hc 3 _ rfl, by simpa [Nat.add_assoc] using hc 4 _ rfl, h1, h2, h3⟩
def qConvertR (w : World) (cs : List Value) (x : QConvert) : Prop := ∃ A1 n1 c1, cs = [.string x.from_, .string x.to_, .int .i64 x.a, .int .i64 x.b, .slice A1 n1 c1] ∧ SlB 5 56 qMoveR w (.slice A1 n1 c1) x.moves
theorem qConvertR_mono : Mono qConvertR := by
 rintro w w' hb cs x ⟨A1, n1, c1, h0, h1⟩
 exact ⟨A1, n1, c1, h0, h1.mono qMoveR_mono hb⟩
theorem qConvertR_one : One qConvertR := by
 rintro w cs x ⟨A1, n1, c1, rfl, _⟩ u hu
 simp only [List.mem_cons, List.not_mem_nil, or_false] at hu
 rcases hu with rfl | rfl | rfl | rfl | rfl <;> rfl
theorem qConvert_at {w : World} {A : Option Addr} {n cap : Nat} {l : List QConvert} (h : SlR 5 qConvertR w (.slice A n cap) l) {k : Nat} (hk : k < n) :
 ∃ b off x A1 n1 c1, A = some ⟨b, off, none⟩ ∧ b < w.heap.size ∧ l[k]? = some x ∧
  w.cell? ⟨b, off + k * 5, none⟩ = some (.string x.from_) ∧
  w.cell? ⟨b, off + k * 5 + 1, none⟩ = some (.string x.to_) ∧
  w.cell? ⟨b, off + k * 5 + 2, none⟩ = some (.int .i64 x.a) ∧
  w.cell? ⟨b, off + k * 5 + 3, none⟩ = some (.int .i64 x.b) ∧
  w.cell? ⟨b, off + k * 5 + 4, none⟩ = some (.slice A1 n1 c1) ∧ SlB 5 56 qMoveR w (.slice A1 n1 c1) x.moves := by
 obtain ⟨b, off, x, cs, e, hb, hl, hlen, hc, hR⟩ := h.at_ hk
 obtain ⟨A1, n1, c1, rfl, h1⟩ := hR
 exact ⟨b, off, x, A1, n1, c1, e, hb, hl, by simpa using hc 0 _ rfl, by simpa [Nat.add_assoc] using hc 1 _ rfl, by simpa [Nat.add_assoc] using hc 2 _ rfl, by simpa [Nat.add_assoc] using hc 3 _ rfl, by simpa [Nat.add_assoc] using hc 4 _ rfl, h1⟩
def qPurposeR (w : World) (cs : List Value) (x : QPurpose) : Prop := ∃ A1 n1 c1, cs = [.string x.name, .slice A1 n1 c1, .int .i64 x.most] ∧ SlB 4 48 qRefR w (.slice A1 n1 c1) x.may
theorem qPurposeR_mono : Mono qPurposeR := by
 rintro w w' hb cs x ⟨A1, n1, c1, h0, h1⟩
 exact ⟨A1, n1, c1, h0, h1.mono qRefR_mono hb⟩
theorem qPurposeR_one : One qPurposeR := by
 rintro w cs x ⟨A1, n1, c1, rfl, _⟩ u hu
 simp only [List.mem_cons, List.not_mem_nil, or_false] at hu
 rcases hu with rfl | rfl | rfl <;> rfl
theorem qPurpose_at {w : World} {A : Option Addr} {n cap : Nat} {l : List QPurpose} (h : SlR 3 qPurposeR w (.slice A n cap) l) {k : Nat} (hk : k < n) :
 ∃ b off x A1 n1 c1, A = some ⟨b, off, none⟩ ∧ b < w.heap.size ∧ l[k]? = some x ∧
  w.cell? ⟨b, off + k * 3, none⟩ = some (.string x.name) ∧
  w.cell? ⟨b, off + k * 3 + 1, none⟩ = some (.slice A1 n1 c1) ∧
  w.cell? ⟨b, off + k * 3 + 2, none⟩ = some (.int .i64 x.most) ∧ SlB 4 48 qRefR w (.slice A1 n1 c1) x.may := by
 obtain ⟨b, off, x, cs, e, hb, hl, hlen, hc, hR⟩ := h.at_ hk
 obtain ⟨A1, n1, c1, rfl, h1⟩ := hR
 exact ⟨b, off, x, A1, n1, c1, e, hb, hl, by simpa using hc 0 _ rfl, by simpa [Nat.add_assoc] using hc 1 _ rfl, by simpa [Nat.add_assoc] using hc 2 _ rfl, h1⟩
def qSourceR (w : World) (cs : List Value) (x : QSource) : Prop := ∃ A1 n1 c1 A2 n2 c2 A3 n3 c3 A4 n4 c4 A5 n5 c5 A6 n6 c6, cs = [.slice A1 n1 c1, .slice A2 n2 c2, .slice A3 n3 c3, .slice A4 n4 c4, .slice A5 n5 c5, .slice A6 n6 c6] ∧ SlB 1 16 strR w (.slice A1 n1 c1) x.issuers ∧ SlB 5 56 qUnitR w (.slice A2 n2 c2) x.units ∧ SlB 6 96 qSchemaR w (.slice A3 n3 c3) x.schemas ∧ SlB 5 96 qRuleR w (.slice A4 n4 c4) x.rules ∧ SlB 5 72 qConvertR w (.slice A5 n5 c5) x.converts ∧ SlB 3 48 qPurposeR w (.slice A6 n6 c6) x.purposes
def addNew (l : List Int) (x : Int) : List Int := if x ∈ l then l else l ++ [x]
def needR (l : List Int) (r : QRule) : List Int := (r.froms.map fun f => f.schema).foldl addNew l
def needOf (rs : List QRule) (x : Int) : List Int := rs.foldl (fun l r => if r.schema = x then needR l r else l) []
def usersTo (rs : List QRule) (k : Nat) (x : Int) : List Int := ((List.range k).map Int.ofNat).filter fun h => decide (x ∈ needOf rs h)
def swapL (l : List Int) (i j : Nat) : List Int := (l.set i (l.getD j 0)).set j (l.getD i 0)
theorem swapL_length (l : List Int) (i j : Nat) : (swapL l i j).length = l.length := by simp [swapL]
def upL (l : List Int) (j : Nat) : List Int :=
 if h : 0 < j ∧ l.getD j 0 < l.getD ((j - 1) / 2) 0 then upL (swapL l ((j - 1) / 2) j) ((j - 1) / 2) else l
termination_by j
decreasing_by omega
theorem upL_length : ∀ (j : Nat) (l : List Int), (upL l j).length = l.length := by
 intro j
 induction j using Nat.strongRecOn with
 |
  _ j ih =>
  intro l
  unfold upL
  split
  · next h => rw [ih _ (by omega), swapL_length]
  · rfl
def pushL (l : List Int) (x : Int) : List Int := upL (l ++ [x]) l.length
theorem pushL_length (l : List Int) (x : Int) : (pushL l x).length = l.length + 1 := by simp [pushL, upL_length]
def lessOf (l : List Int) (i n : Nat) : Nat := if 2 * i + 2 < n ∧ l.getD (2 * i + 2) 0 < l.getD (2 * i + 1) 0 then 2 * i + 2 else 2 * i + 1
theorem lessOf_lt {l : List Int} {i n : Nat} (h : 2 * i + 1 < n) : lessOf l i n < n := by unfold lessOf; split <;> omega
theorem lessOf_gt (l : List Int) (i n : Nat) : i < lessOf l i n := by unfold lessOf; split <;> omega
def downL (l : List Int) (i n : Nat) : List Int :=
 if _h : 2 * i + 1 < n ∧ l.getD (lessOf l i n) 0 < l.getD i 0 then downL (swapL l i (lessOf l i n)) (lessOf l i n) n else l
termination_by n - i
decreasing_by
 have := lessOf_lt (l := l) _h.1
 have := lessOf_gt l i n
 omega
theorem downL_length (n : Nat) : ∀ (k i : Nat) (l : List Int), n - i ≤ k → (downL l i n).length = l.length := by
 intro k
 induction k with
 |
  zero =>
  intro i l h
  unfold downL
  split
  · next h' => omega
  · rfl
 |
  succ k ih =>
  intro i l h
  unfold downL
  split
  ·
   next h' =>
   have := lessOf_lt (l := l) h'.1
   have := lessOf_gt l i n
   rw [ih _ _ (by omega), swapL_length]
  · rfl
def popL (l : List Int) : List Int := downL (swapL l 0 (l.length - 1)) 0 (l.length - 1)
theorem popL_length (l : List Int) : (popL l).length = l.length := by rw [popL, downL_length _ _ _ _ (Nat.le_refl _), swapL_length]
def useL (st : List Int × List Int) (u : Int) : List Int × List Int :=
 let o := st.1.set u.toNat (st.1.getD u.toNat 0 - 1)
 (o, if o.getD u.toNat 0 = 0 then pushL st.2 u else st.2)
def orderGo (us : Nat → List Int) : Nat → List Int → List Int → List Int
 | 0, _, _ => []
 |
  fuel + 1, o, h =>
  if h.length = 0 then []
  else
   let p := popL h
   let x := p.getD (h.length - 1) 0
   let st := (us x.toNat).foldl useL (o, p.take (h.length - 1))
   x :: orderGo us fuel st.1 st.2
def startL (rs : List QRule) (k : Nat) : List Int := (List.range k).foldl (fun h (x : Nat) => if (needOf rs x).length = 0 then pushL h x else h) []
def orderL (rs : List QRule) (n : Nat) : List Int :=
 orderGo (fun (x : Nat) => usersTo rs n x) (n + 1) ((List.range n).map fun (x : Nat) => ((needOf rs x).length : Int)) (startL rs n)
def diffGo {α : Type} [DecidableEq α] (seen : List α) : List α → Bool
 | [] => true
 | x :: l => if x ∈ seen then false else diffGo (seen ++ [x]) l
def unitOK (us : List QUnit) (u : QUnit) : Bool :=
 decide (1 ≤ u.scale) && decide (u.scale ≤ 1099511627776) && decide (0 ≤ u.base) && decide (u.base < us.length) && ((us[u.base.toNat]?).any fun b => decide (b.scale = 1))
def typeOK (units : Nat) (t : QType) : Bool :=
 if t.kind = 1 then decide (0 ≤ t.lo) && decide (t.lo ≤ t.hi) && decide (t.hi ≤ 1048576) && decide (-1 ≤ t.unit) && decide (t.unit < units) && decide (t.names.length = 0)
 else if t.kind = 2 then decide (t.lo = 0) && decide (t.hi = 1023) && decide (t.unit = -1) && decide (t.names.length = 0)
 else if t.kind = 3 then decide (t.lo = 0) && decide (t.hi = 4095) && decide (t.unit = -1) && decide (t.names.length = 0)
 else if t.kind = 4 then decide (t.lo = 0) && decide (t.hi = (t.names.length : Int) - 1) && decide (t.unit = -1) && decide (1 ≤ t.names.length) && decide (t.names.length ≤ 16) && diffGo [] t.names
 else false
def weightOK (w : Int) : Bool := decide (0 ≤ w) && decide (w ≤ 9)
def fieldOK (units : Nat) (f : QField) : Bool := typeOK units f.type && (weightOK f.w0 && (weightOK f.w1 && (weightOK f.w2 && weightOK f.w3)))
def schemaOK (issuers units : Nat) (s : QSchema) : Bool :=
 decide (0 ≤ s.issuer) && decide (s.issuer < issuers) && decide (1 ≤ s.version) && decide (s.version ≤ 255) && decide (1 ≤ s.fields.length) && decide (s.fields.length ≤ 12) &&
  ((s.fields[0]?).any fun f => decide (f.type.kind = 3)) && s.fields.all (fieldOK units)
def limitedB (s : QSource) : Bool :=
 decide (s.issuers.length ≤ 8) && decide (s.units.length ≤ 64) && decide (s.schemas.length ≤ 16) && decide (s.rules.length ≤ 16) && decide (s.converts.length ≤ 16) && decide (s.purposes.length ≤ 8) &&
  s.purposes.all fun p => decide (p.may.length ≤ 64)
open Go.MapKept (run_checkKey heap_set heap_alloc IsKey)
structure KeyEq (P : Program) (kt : TypeId) {κ : Type} (ek : κ → Value) : Prop where
 eq : ∀ (a b : κ) (w : World), ∃ r : Bool, (Op.equal kt (ek a) (ek b)).run P w = .ok r w ∧ (r = true ↔ a = b)
 ck : ∀ (e : Bool) (a : κ) (w : World), (Instr.checkKey e 10000 kt (ek a)).run P w = .ok () w
 sb : ∀ a : κ, Instr.sameBits 10000 (ek a) (ek a) = true
 un : ∃ d, P.underlying kt = some d ∧ ∀ (a b : κ) (r : Bool), Instr.sameNow d (ek a) (ek b) = some r → (r = true ↔ a = b)
section
variable {κ ν : Type} [DecidableEq κ]
def lookM : List (κ × ν) → κ → Nat → Option (Nat × ν)
 | [], _, _ => none
 | p :: m, k, i => if k = p.1 then some (i, p.2) else lookM m k (i + 1)
def getM (m : List (κ × ν)) (k : κ) : Option ν := (lookM m k 0).map (·.2)
def putM : List (κ × ν) → κ → ν → List (κ × ν)
 | [], k, v => [(k, v)]
 | p :: m, k, v => if k = p.1 then (k, v) :: m else p :: putM m k v
theorem lookM_snd (m : List (κ × ν)) (k : κ) (i j : Nat) : (lookM m k i).map (·.2) = (lookM m k j).map (·.2) := by
 induction m generalizing i j with
 | nil => rfl
 |
  cons p m ih =>
  unfold lookM
  split
  · rfl
  · exact ih _ _
theorem getM_nil (k : κ) : getM ([] : List (κ × ν)) k = none := rfl
theorem getM_cons (p : κ × ν) (m : List (κ × ν)) (k : κ) : getM (p :: m) k = if k = p.1 then some p.2 else getM m k := by
 simp only [getM]
 rw [lookM]
 split
 · rfl
 · exact lookM_snd m k _ _
theorem getM_put (m : List (κ × ν)) (k k' : κ) (v : ν) : getM (putM m k v) k' = if k' = k then some v else getM m k' := by
 induction m with
 | nil => simp only [putM, getM_cons, getM_nil]
 |
  cons p m ih =>
  unfold putM
  split
  ·
   rename_i h
   subst h
   simp only [getM_cons]
   split <;> rfl
  ·
   rename_i h
   simp only [getM_cons, ih]
   split
   ·
    rename_i h2
    subst h2
    rw [if_neg (fun e => h e.symm)]
   · rfl
def MapAt (ek : κ → Value) (ev : ν → Value) (w : World) (b : Nat) (m : List (κ × ν)) : Prop :=
 ∃ es clock, w.heap[b]? = some (.map es clock) ∧ es.toList.map (fun e => (e.key, e.val)) = m.map (fun p => (ek p.1, ev p.2))
variable {ek : κ → Value} {ev : ν → Value} {P : Program} {kt et t : TypeId} {w w' : World} {b : Nat} {m : List (κ × ν)}
omit [DecidableEq κ] in
theorem MapAt.lt (h : MapAt ek ev w b m) : b < w.heap.size := by
 obtain ⟨es, clock, h, _⟩ := h
 exact (Array.getElem?_eq_some_iff.1 h).1
omit [DecidableEq κ] in
theorem MapAt.same (h : MapAt ek ev w b m) (hb : w'.heap[b]? = w.heap[b]?) : MapAt ek ev w' b m := by
 obtain ⟨es, clock, h, h2⟩ := h
 exact ⟨es, clock, hb.trans h, h2⟩
omit [DecidableEq κ] in
theorem MapAt.grown {row : Option Nat} (h : MapAt ek ev w b m) (hg : w.grownBy w' row) (hne : some b ≠ row) : MapAt ek ev w' b m :=
 h.same (hg.block b h.lt hne)
omit [DecidableEq κ] in
omit [DecidableEq κ] in
theorem MapAt.new (ek : κ → Value) (ev : ν → Value) (w : World) : MapAt ek ev (w.alloc (.map #[] 0)) w.heap.size [] :=
 ⟨#[], 0, (heap_alloc w _).1, rfl⟩
theorem findNow_m (K : KeyEq P kt ek) {d : TypeDesc} (hd : P.underlying kt = some d) (k : κ) : ∀ (l : List MapEntry) (m : List (κ × ν)) (i : Nat), l.map (fun e => (e.key, e.val)) = m.map (fun p => (ek p.1, ev p.2)) →
 Instr.findNow d (ek k) l i = none ∨ Instr.findNow d (ek k) l i = some ((lookM m k i).map (fun q => (q.1, ev q.2))) := by
 intro l
 induction l with
 |
  nil =>
  intro m i h
  cases m with
  | nil => exact .inr rfl
  | cons p m => simp at h
 |
  cons e l ih =>
  intro m i h
  cases m with
  | nil => simp at h
  |
   cons p m =>
   simp only [List.map_cons, List.cons.injEq, Prod.mk.injEq] at h
   obtain ⟨⟨h1, h2⟩, h3⟩ := h
   obtain ⟨d', hd', hun⟩ := K.un
   obtain rfl : d' = d := by rw [hd] at hd'; exact (Option.some.inj hd').symm
   unfold Instr.findNow lookM
   rw [h1]
   cases hs : Instr.sameNow d' (ek k) (ek p.1) with
   | none => exact .inl rfl
   |
    some r =>
    have hr := hun _ _ _ hs
    cases r with
    |
     true =>
     right
     rw [if_pos (hr.1 rfl)]
     simp [h2]
    |
     false =>
     rw [if_neg (fun e => by have := hr.2 e; cases this)]
     exact ih m (i + 1) h3
theorem findAsking_m (K : KeyEq P kt ek) (k : κ) (w : World) : ∀ (l : List MapEntry) (m : List (κ × ν)) (i : Nat), l.map (fun e => (e.key, e.val)) = m.map (fun p => (ek p.1, ev p.2)) →
 (Instr.findAsking kt (ek k) l i).run P w = .ok ((lookM m k i).map (fun q => (q.1, ev q.2))) w := by
 intro l
 induction l with
 |
  nil =>
  intro m i h
  cases m with
  | nil => rfl
  | cons p m => simp at h
 |
  cons e l ih =>
  intro m i h
  cases m with
  | nil => simp at h
  |
   cons p m =>
   simp only [List.map_cons, List.cons.injEq, Prod.mk.injEq] at h
   obtain ⟨⟨h1, h2⟩, h3⟩ := h
   obtain ⟨r, hr, hiff⟩ := K.eq k p.1 w
   unfold Instr.findAsking lookM
   simp only [Sem.run_bind, h1, hr, Result.andThen_ok]
   cases r with
   | true => rw [if_pos (hiff.1 rfl)]; simp [h2]
   |
    false =>
    have hk : ¬ k = p.1 := fun e => by have := hiff.2 e; cases this
    rw [if_neg hk]
    simpa using ih m (i + 1) h3
theorem findKey_m (K : KeyEq P kt ek) (k : κ) (w : World) (l : List MapEntry) (m : List (κ × ν)) (h : l.map (fun e => (e.key, e.val)) = m.map (fun p => (ek p.1, ev p.2))) :
 (Instr.findKey kt (ek k) l).run P w = .ok ((lookM m k 0).map (fun q => (q.1, ev q.2))) w := by
 obtain ⟨d, hd, hun⟩ := K.un
 unfold Instr.findKey
 simp only [Sem.run_bind, run_underlying hd, Result.andThen_ok]
 rcases findNow_m (ev := ev) K hd k l m 0 h with h1 | h1
 · rw [h1]; exact findAsking_m K k w l m 0 h
 · rw [h1]; rfl
theorem run_lookup_m (K : KeyEq P kt ek) (ht : P.underlying t = some (.map kt et)) {z : Value} (hz : (zeroValue et).run P w = .ok z w) (h : MapAt ek ev w b m) (k : κ) (c : Bool) :
 (Instr.lookup t (.map (some b)) (ek k) c).run P w = .ok (if c then .tuple #[((getM m k).map ev).getD z, .bool (getM m k).isSome] else ((getM m k).map ev).getD z) w := by
 obtain ⟨es, clock, hb, hes⟩ := h
 unfold Instr.lookup getM
 simp only [Sem.run_bind, run_underlying ht, Result.andThen_ok, MapKept.run_getObj_map hb, Sem.run_pure, K.ck, findKey_m (ev := ev) K k w _ m hes]
 cases lookM m k 0 with
 | none => simp [hz]
 | some q => simp
theorem lookM_modify (ek : κ → Value) (ev : ν → Value) (k : κ) (v : ν) : ∀ (l : List MapEntry) (m : List (κ × ν)) (i j : Nat) (x : ν), l.map (fun e => (e.key, e.val)) = m.map (fun p => (ek p.1, ev p.2)) → lookM m k i = some (j, x) →
 i ≤ j ∧ (∃ e, l[j - i]? = some e ∧ e.key = ek k) ∧ (l.modify (j - i) (fun e => { e with key := ek k, val := ev v })).map (fun e => (e.key, e.val)) = (putM m k v).map (fun p => (ek p.1, ev p.2)) := by
 intro l
 induction l with
 |
  nil =>
  intro m i j x h
  cases m with
  | nil => intro h2; simp [lookM] at h2
  | cons p m => simp at h
 |
  cons e l ih =>
  intro m i j x h
  cases m with
  | nil => simp at h
  |
   cons p m =>
   simp only [List.map_cons, List.cons.injEq, Prod.mk.injEq] at h
   obtain ⟨⟨h1, h2⟩, h3⟩ := h
   unfold lookM putM
   split
   ·
    rename_i hk
    intro hs
    simp only [Option.some.injEq, Prod.mk.injEq] at hs
    obtain ⟨rfl, rfl⟩ := hs
    refine ⟨Nat.le_refl _, ⟨e, by simp, by rw [h1, hk]⟩, ?_⟩
    simp [h3]
   ·
    rename_i hk
    intro hs
    obtain ⟨a1, ⟨e', a2, a3⟩, a4⟩ := ih m (i + 1) j x h3 hs
    have hj : j - i = (j - (i + 1)) + 1 := by omega
    refine ⟨by omega, ⟨e', by rw [hj]; simpa using a2, a3⟩, ?_⟩
    rw [hj, List.modify_succ_cons]
    simp [h1, h2, a4]
omit [DecidableEq κ] in
theorem putM_none [DecidableEq κ] (k : κ) (v : ν) : ∀ (m : List (κ × ν)) (i : Nat), lookM m k i = none → putM m k v = m ++ [(k, v)] := by
 intro m
 induction m with
 | nil => intro i _; rfl
 |
  cons p m ih =>
  intro i h
  unfold lookM at h
  unfold putM
  split at h
  · cases h
  ·
   rename_i hk
   rw [if_neg hk, ih _ h]; rfl
theorem run_update_m (K : KeyEq P kt ek) (ht : P.underlying t = some (.map kt et)) (h : MapAt ek ev w b m) (k : κ) (v : ν) :
 ∃ w', (Instr.mapUpdate t (.map (some b)) (ek k) (ev v)).run P w = .ok () w' ∧ MapAt ek ev w' b (putM m k v) ∧ w.grownBy w' (some b) := by
 have hlt := h.lt
 obtain ⟨es, clock, hb, hes⟩ := h
 have hgrow : ∀ o : Obj, w.grownBy { w with heap := w.heap.setIfInBounds b o } (some b) := fun o =>
  ⟨rfl, rfl, rfl, by simp, fun i _ hne => (heap_set hb).2 i (fun e => hne (by rw [e]))⟩
 unfold Instr.mapUpdate
 simp only [Sem.run_bind, run_underlying ht, Result.andThen_ok, MapKept.run_getObj_map hb, K.ck, findKey_m (ev := ev) K k w _ m hes]
 cases hl : lookM m k 0 with
 |
  none =>
  refine ⟨_, MapKept.run_setObj_map _ hb, ⟨_, _, (heap_set hb).1, ?_⟩, hgrow _⟩
  rw [putM_none k v m 0 hl]
  simp [hes]
 |
  some q =>
  obtain ⟨j, x⟩ := q
  obtain ⟨_, ⟨e, he, hek⟩, h3⟩ := lookM_modify ek ev k v es.toList m 0 j x hes hl
  simp only [Nat.sub_zero] at he h3
  have he' : es[j]? = some e := by simpa using he
  simp only [Option.map_some, he', Option.getD_some, hek]
  unfold Instr.keyThatStays
  rw [K.sb, if_pos rfl]
  simp only [Sem.run_bind, Sem.run_pure, Result.andThen_ok]
  refine ⟨_, MapKept.run_setObj_map _ hb, ⟨_, _, (heap_set hb).1, ?_⟩, hgrow _⟩
  simpa using h3
end
theorem keyEq_int {P : Program} {kt : TypeId} {q : IntKind} (hk : P.underlying kt = some (.int q)) : KeyEq P kt (fun x : Int => Value.int q x) where
 eq a b w := ⟨a == b, by simpa [Op.equal, Op.maxDepth] using run_equalIn_int w 9999 kt q q a b hk, by simp⟩
 ck e a w := run_checkKey (d := .int q) hk (by simp [IsKey]) e 9999
 sb a := by simp [Instr.sameBits]
 un := ⟨_, hk, fun a b r h => by simp [Instr.sameNow] at h; subst h; simp⟩
end Go.Proofs.YtkgmonplcdnnbaaGreat
