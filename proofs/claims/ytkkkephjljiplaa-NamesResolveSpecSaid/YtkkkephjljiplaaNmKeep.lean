/- Maps stay as they are while cells are written: plain lemmas. -/
import Derived.Test.YtkkkephjljiplaaNmData
import Derived.Test.YtkkkephjljiplaaNmCol
namespace Go.Proofs.Ytkkkephjljiplaa
open Go.RowKit

abbrev strW (x : ByteArray) : Value := Value.string x
abbrev i64W (x : Int) : Value := Value.int .i64 x
abbrev SMap : Type := List (ByteArray × Int)

/-- What is a map stays as it is. -/
def KeepsMaps (w w' : World) : Prop := ∀ (b : Nat) (es : Array MapEntry) (clock : Nat), w.heap[b]? = some (Obj.map es clock) → w'.heap[b]? = some (Obj.map es clock)

theorem KeepsMaps.refl (w : World) : KeepsMaps w w := fun _ _ _ h => h
theorem KeepsMaps.trans {a b c : World} (h : KeepsMaps a b) (h' : KeepsMaps b c) : KeepsMaps a c := fun k es cl e => h' k es cl (h k es cl e)
theorem KeepsMaps.below {w w' : World} (h : Below w.heap.size w w') : KeepsMaps w w' := fun b _ _ e => (h.block b (Array.getElem?_eq_some_iff.1 e).1).trans e
theorem KeepsMaps.put (w : World) (p : Addr) (v : Value) : KeepsMaps w (w.setCell p v) := by
  intro b es cl e
  by_cases h : b = p.block
  · subst h
    simp [World.setCell, Array.getElem?_modify, e]
  · exact (Below.heap_setCell w p v b h).trans e
theorem KeepsMaps.grown {w w' : World} {row : Option Nat} (h : w.grownBy w' row) (hr : ∀ g, row = some g → ∃ cs t f, w.heap[g]? = some (Obj.cells cs t f)) : KeepsMaps w w' := by
  intro b es cl e
  refine (h.block b (Array.getElem?_eq_some_iff.1 e).1 ?_).trans e
  intro e'
  obtain ⟨cs, t, f, hc⟩ := hr b e'.symm
  rw [e] at hc
  cases hc
theorem KeepsMaps.own {w w' : World} {base : Nat} {t : TypeId} {sz : Nat} {v : Value} {n : Nat} {xs : List Value} (ho : w.ownsRow base t sz v n xs) (h : w.grownBy w' v.ownBlock) : KeepsMaps w w' := by
  refine KeepsMaps.grown h (fun g e => ?_)
  rcases ho.2 with ⟨rfl, _⟩ | ⟨g', cap, cur, rfl, _, hh, _⟩
  · cases e
  · simp only [Value.ownBlock, Option.some.injEq] at e
    subst e
    exact ⟨_, _, _, hh⟩
theorem MapAt.keeps {κ ν : Type} {ek : κ → Value} {ev : ν → Value} {w w' : World} {b : Nat} {m : List (κ × ν)} (h : MapAt ek ev w b m) (hk : KeepsMaps w w') : MapAt ek ev w' b m := by
  obtain ⟨es, clock, h1, h2⟩ := h
  exact ⟨es, clock, hk b es clock h1, h2⟩
theorem MapAt.below {κ ν : Type} {ek : κ → Value} {ev : ν → Value} {w w' : World} {b : Nat} {m : List (κ × ν)} (h : MapAt ek ev w b m) (hb : Below w.heap.size w w') : MapAt ek ev w' b m := h.keeps (.below hb)

/-- A cell with a map. -/
def mapR (w : World) (cs : List Value) (m : SMap) : Prop := ∃ b, cs = [.map (some b)] ∧ MapAt strW i64W w b m
theorem mapR_keeps {w w' : World} (hk : KeepsMaps w w') {cs : List Value} {m : SMap} (h : mapR w cs m) : mapR w' cs m := by
  obtain ⟨b, e, hm⟩ := h
  exact ⟨b, e, hm.keeps hk⟩
theorem mapR_mono : Mono mapR := fun _ _ hb _ _ h => mapR_keeps (.below hb) h
theorem mapR_one : One mapR := by
  rintro w cs x ⟨b, rfl, _⟩ u hu
  simp only [List.mem_singleton] at hu
  subst hu
  rfl
theorem CellsR.keeps {w w' : World} (hk : KeepsMaps w w') {cs : List Value} {l : List SMap} (h : CellsR 1 mapR w cs l) : CellsR 1 mapR w' cs l := ⟨h.1, fun i x hi => mapR_keeps hk (h.2 i x hi)⟩
theorem map_at {w : World} {A : Option Addr} {n cap : Nat} {l : List SMap} (h : SlR 1 mapR w (.slice A n cap) l) {k : Nat} (hk : k < n) :
    ∃ b off x g, A = some ⟨b, off, none⟩ ∧ b < w.heap.size ∧ l[k]? = some x ∧ w.cell? ⟨b, off + k, none⟩ = some (.map (some g)) ∧ MapAt strW i64W w g x := by
  obtain ⟨b, off, x, cs, e, hb, hl, hlen, hc, g, rfl, hm⟩ := h.at_ hk
  exact ⟨b, off, x, g, e, hb, hl, by simpa using hc 0 _ rfl, hm⟩

/-- Names of a source, gathered. -/
def unitNames (s : QSource) : List ByteArray := s.units.map (·.name)
def schemaNames (s : QSource) : List ByteArray := s.schemas.map (·.name)
def purposeNames (s : QSource) : List ByteArray := s.purposes.map (·.name)
def fieldNames (x : QSchema) : List ByteArray := x.fields.map (·.name)
def fromNames (x : QRule) : List ByteArray := x.froms.map (·.name)
def fieldMap (x : QSchema) : SMap := (col (fieldNames x)).1

def sourceTwice (s : QSource) : Bool := twiceB s.issuers || twiceB (unitNames s) || twiceB (schemaNames s) || twiceB (purposeNames s) || s.schemas.any (fun x => twiceB (fieldNames x)) || s.rules.any (fun x => twiceB (fromNames x))

/-- The resolver of a source. -/
def ResR (w : World) (R : Nat) (s : QSource) : Prop :=
  ∃ b1 b2 b3 A n c, Blk w R 101 #[.map (some b1), .map (some b2), .map (some b3), .slice A n c] ∧ MapAt strW i64W w b1 (col s.issuers).1 ∧ MapAt strW i64W w b2 (col (unitNames s)).1 ∧ MapAt strW i64W w b3 (col (schemaNames s)).1 ∧ SlR 1 mapR w (.slice A n c) (s.schemas.map fieldMap)
theorem ResR.below {w w' : World} {R : Nat} {s : QSource} (h : ResR w R s) (hb : Below w.heap.size w w') : ResR w' R s := by
  obtain ⟨b1, b2, b3, A, n, c, h0, h1, h2, h3, h4⟩ := h
  exact ⟨b1, b2, b3, A, n, c, h0.below hb h0.lt, h1.below hb, h2.below hb, h3.below hb, h4.mono mapR_mono hb⟩

def RetGather (s : QSource) (w : World) (e : Ending) (w' : World) : Prop :=
  ∃ R, e = .returned (.tuple #[.pointer (some ⟨R, 0, none⟩), .bool (sourceTwice s)]) ∧ ResR w' R s ∧ w.heap.size ≤ R ∧ Below w.heap.size w w'

end Go.Proofs.Ytkkkephjljiplaa
