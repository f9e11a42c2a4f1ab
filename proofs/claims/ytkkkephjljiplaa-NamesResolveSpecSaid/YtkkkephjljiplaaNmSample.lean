/- Contract of the law's sample. -/
import Derived.Test.YtkkkephjljiplaaNmRes
import Derived.Test.YtkkkephjljiplaaNmFirst
namespace Go.Proofs.Ytkkkephjljiplaa
open Go.RowKit

def zT : QTerm := ⟨noStr, noStr, 0, 0, 0⟩
def nS : ByteArray := ⟨#[115]⟩
def nA : ByteArray := ⟨#[97]⟩
def nB : ByteArray := ⟨#[98]⟩
def nU : ByteArray := ⟨#[117]⟩
def nV : ByteArray := ⟨#[118]⟩
def nX : ByteArray := ⟨#[120]⟩
def nY : ByteArray := ⟨#[121]⟩
def nP : ByteArray := ⟨#[112]⟩
def nSelf : ByteArray := ⟨#[115, 101, 108, 102]⟩
def nHour : ByteArray := ⟨#[104, 111, 117, 114]⟩
def nMinute : ByteArray := ⟨#[109, 105, 110, 117, 116, 101]⟩
def nDay : ByteArray := ⟨#[100, 97, 121]⟩
def sampleF : List QField := [⟨nSelf, ⟨3, 0, 0, noStr, 0, []⟩, 0, 0, 0, 0⟩, ⟨nA, ⟨1, 0, 9, nHour, 0, []⟩, 0, 0, 0, 0⟩, ⟨nB, ⟨3, 0, 0, noStr, 0, []⟩, 0, 0, 0, 0⟩]
def sampleQ : QSource where
  issuers := [nX, nY]
  units := [⟨nMinute, noStr, 0, 0, 0⟩, ⟨nHour, nMinute, 60, 0, 0⟩, ⟨nDay, nHour, 24, 0, 0⟩]
  schemas := [⟨nS, nY, 0, 0, sampleF, [⟨[nB], nA, [], 0⟩]⟩]
  rules := [⟨nS, 0, [⟨nU, nS, 0, zT⟩, ⟨nV, nS, 0, ⟨nU, nB, 0, 0, 0⟩⟩], [⟨1, ⟨nV, nA, 0, 0, 0⟩, ⟨noStr, noStr, 0, 0, 7⟩⟩], []⟩]
  converts := [⟨nS, nS, 0, 0, [⟨nA, nB, 0, 0, 0⟩]⟩]
  purposes := [⟨nP, [⟨nS, nB, 0, 0⟩], 0⟩]

def RetSource (s : QSource) (w : World) (e : Ending) (w' : World) : Prop := ∃ cs : List Value, e = .returned (.agg cs.toArray) ∧ qSourceR w' cs s ∧ Below w.heap.size w w'

/-- A block that reads as a list. -/
theorem slB_blk {α : Type} {sz bytes : Nat} {R : World → List Value → α → Prop} {w : World} {g : Nat} {t : TypeId} {cs : List Value} {l : List α} (k : Blk w g t cs.toArray) (hc : CellsR sz R w cs l) (hm : l.length * bytes ≤ 140737488355328) (hm' : l.length ≤ maxLen) : SlB sz bytes R w (.slice (some ⟨g, 0, none⟩) l.length l.length) l := by
  refine ⟨⟨some ⟨g, 0, none⟩, l.length, rfl, Nat.le_refl _, hm', fun i x hi => ⟨g, 0, (cs.drop (i * sz)).take sz, rfl, k.lt, ?_, ?_, hc.2 i x hi⟩⟩, hm⟩
  · have hil := (List.getElem?_eq_some_iff.1 hi).1
    have hle : i * sz + sz ≤ cs.length := by rw [hc.1, ← Nat.succ_mul]; exact Nat.mul_le_mul_right _ hil
    rw [List.length_take, List.length_drop]; omega
  · intro j u hu
    rcases Nat.lt_or_ge j sz with hj | hj
    · rw [List.getElem?_take_of_lt hj, List.getElem?_drop] at hu
      rw [k.cell, Nat.zero_add]
      simpa using hu
    · rw [List.getElem?_eq_none (by rw [List.length_take]; omega)] at hu
      cases hu

/-- Blocks made one behind the other. -/
def allocs (w : World) : List (List Value × TypeId) → World
  | [] => w
  | x :: r => allocs (w.alloc (.cells x.1.toArray x.2)) r
theorem allocs_below : ∀ (l : List (List Value × TypeId)) (w0 w : World), Below w0.heap.size w0 w → Below w0.heap.size w0 (allocs w l)
  | [], _, _, h => h
  | _ :: r, w0, _, h => allocs_below r w0 _ (h.alloc h.size _)
theorem allocs_keep : ∀ (l : List (List Value × TypeId)) (w : World) {g : Nat} {t : TypeId} {cs : Array Value}, Blk w g t cs → Blk (allocs w l) g t cs
  | [], _, _, _, _, h => h
  | _ :: r, _, _, _, _, h => allocs_keep r _ (h.alloc _)
theorem allocs_blk : ∀ (l : List (List Value × TypeId)) (w : World) (i : Nat) (x : List Value × TypeId), l[i]? = some x → Blk (allocs w l) (w.heap.size + i) x.2 x.1.toArray
  | [], _, i, x, h => by simp at h
  | y :: r, w, 0, x, h => by
    simp only [List.getElem?_cons_zero, Option.some.injEq] at h
    subst h
    exact allocs_keep r _ (Blk.new _ _ _)
  | y :: r, w, i + 1, x, h => by
    have := allocs_blk r (w.alloc (.cells y.1.toArray y.2)) i x (by simpa using h)
    rw [show (w.alloc (.cells y.1.toArray y.2)).heap.size + i = w.heap.size + (i + 1) by simp; omega] at this
    exact this
theorem cellsS (w : World) (l : List ByteArray) : CellsR 1 strR w (l.map Value.string) l := by
  refine ⟨by simp, fun i x hi => ?_⟩
  show _ = _
  rw [Nat.mul_one, List.map_drop.symm, List.map_take.symm]
  have : (l.drop i).take 1 = [x] := by
    rw [drop_cons hi]; rfl
  rw [this]; rfl
theorem nilB {α : Type} {sz bytes : Nat} {R : World → List Value → α → Prop} {w : World} : SlB sz bytes R w (.slice none 0 0) [] := ⟨SlR.nil _ _ (Nat.zero_le _), by simp⟩
def sampleL (g : Nat) : List (List Value × TypeId) := [([.slice (some ⟨g + 2, 0, none⟩) 2 2, .slice (some ⟨g + 3, 0, none⟩) 3 3, .slice (some ⟨g + 6, 0, none⟩) 1 1, .slice (some ⟨g + 9, 0, none⟩) 1 1, .slice (some ⟨g + 11, 0, none⟩) 1 1, .slice (some ⟨g + 13, 0, none⟩) 1 1], 29),
  ([.string nSelf, .int .i64 3, .int .i64 0, .int .i64 0, .string noStr, .int .i64 0, .slice none 0 0, .int .i64 0, .int .i64 0, .int .i64 0, .int .i64 0, .string nA, .int .i64 1, .int .i64 0, .int .i64 9, .string nHour, .int .i64 0, .slice none 0 0, .int .i64 0, .int .i64 0, .int .i64 0, .int .i64 0, .string nB, .int .i64 3, .int .i64 0, .int .i64 0, .string noStr, .int .i64 0, .slice none 0 0, .int .i64 0, .int .i64 0, .int .i64 0, .int .i64 0], 45),
  ([.string nX, .string nY], 9),
  ([.string nMinute, .string noStr, .int .i64 0, .int .i64 0, .int .i64 0, .string nHour, .string nMinute, .int .i64 60, .int .i64 0, .int .i64 0, .string nDay, .string nHour, .int .i64 24, .int .i64 0, .int .i64 0], 47),
  ([.string nB], 9),
  ([.slice (some ⟨g + 4, 0, none⟩) 1 1, .string nA, .slice none 0 0, .int .i64 0], 50),
  ([.string nS, .string nY, .int .i64 0, .int .i64 0, .slice (some ⟨g + 1, 0, none⟩) 3 3, .slice (some ⟨g + 5, 0, none⟩) 1 1], 40),
  ([.string nU, .string nS, .int .i64 0, .string noStr, .string noStr, .int .i64 0, .int .i64 0, .int .i64 0, .string nV, .string nS, .int .i64 0, .string nU, .string nB, .int .i64 0, .int .i64 0, .int .i64 0], 61),
  ([.int .i64 1, .string nV, .string nA, .int .i64 0, .int .i64 0, .int .i64 0, .string noStr, .string noStr, .int .i64 0, .int .i64 0, .int .i64 7], 64),
  ([.string nS, .int .i64 0, .slice (some ⟨g + 7, 0, none⟩) 2 2, .slice (some ⟨g + 8, 0, none⟩) 1 1, .slice none 0 0], 56),
  ([.string nA, .string nB, .int .i64 0, .int .i64 0, .int .i64 0], 71),
  ([.string nS, .string nS, .int .i64 0, .int .i64 0, .slice (some ⟨g + 10, 0, none⟩) 1 1], 69),
  ([.string nS, .string nB, .int .i64 0, .int .i64 0], 76),
  ([.string nP, .slice (some ⟨g + 12, 0, none⟩) 1 1, .int .i64 0], 74)]
theorem sample_at (w : World) : qSourceR (allocs w (sampleL w.heap.size)) [.slice (some ⟨w.heap.size + 2, 0, none⟩) 2 2, .slice (some ⟨w.heap.size + 3, 0, none⟩) 3 3, .slice (some ⟨w.heap.size + 6, 0, none⟩) 1 1, .slice (some ⟨w.heap.size + 9, 0, none⟩) 1 1, .slice (some ⟨w.heap.size + 11, 0, none⟩) 1 1, .slice (some ⟨w.heap.size + 13, 0, none⟩) 1 1] sampleQ := by
  have k := allocs_blk (sampleL w.heap.size) w
  have k1 := k 1 _ rfl
  have k2 := k 2 _ rfl
  have k3 := k 3 _ rfl
  have k4 := k 4 _ rfl
  have k5 := k 5 _ rfl
  have k6 := k 6 _ rfl
  have k7 := k 7 _ rfl
  have k8 := k 8 _ rfl
  have k9 := k 9 _ rfl
  have k10 := k 10 _ rfl
  have k11 := k 11 _ rfl
  have k12 := k 12 _ rfl
  have k13 := k 13 _ rfl
  clear k
  generalize allocs w (sampleL w.heap.size) = W at *
  have m : ∀ n : Nat, n ≤ 3 → n ≤ maxLen := fun n h => by unfold maxLen; omega
  have r2 : SlB 1 16 strR W (.slice (some ⟨w.heap.size + 2, 0, none⟩) 2 2) [nX, nY] := slB_blk k2 (cellsS W [nX, nY]) (by simp) (m _ (by simp))
  have r4 : SlB 1 16 strR W (.slice (some ⟨w.heap.size + 4, 0, none⟩) 1 1) [nB] := slB_blk k4 (cellsS W [nB]) (by simp) (m _ (by simp))
  have r3 : SlB 5 56 qUnitR W (.slice (some ⟨w.heap.size + 3, 0, none⟩) 3 3) sampleQ.units := slB_blk (l := sampleQ.units) k3 ((CellsR.one (x := (⟨nMinute, noStr, 0, 0, 0⟩ : QUnit)) (cs := [_, _, _, _, _]) rfl rfl).append ((CellsR.one (x := (⟨nHour, nMinute, 60, 0, 0⟩ : QUnit)) (cs := [_, _, _, _, _]) rfl rfl).append (CellsR.one (x := (⟨nDay, nHour, 24, 0, 0⟩ : QUnit)) (cs := [_, _, _, _, _]) rfl rfl))) (by simp [sampleQ]) (m _ (by simp [sampleQ]))
  have r1 : SlB 11 120 qFieldR W (.slice (some ⟨w.heap.size + 1, 0, none⟩) 3 3) sampleF := slB_blk (l := sampleF) k1 ((CellsR.one (x := (⟨nSelf, ⟨3, 0, 0, noStr, 0, []⟩, 0, 0, 0, 0⟩ : QField)) (cs := [_, _, _, _, _, _, _, _, _, _, _]) rfl (show qFieldR W _ _ from ⟨none, 0, 0, rfl, nilB⟩)).append ((CellsR.one (x := (⟨nA, ⟨1, 0, 9, nHour, 0, []⟩, 0, 0, 0, 0⟩ : QField)) (cs := [_, _, _, _, _, _, _, _, _, _, _]) rfl (show qFieldR W _ _ from ⟨none, 0, 0, rfl, nilB⟩)).append (CellsR.one (x := (⟨nB, ⟨3, 0, 0, noStr, 0, []⟩, 0, 0, 0, 0⟩ : QField)) (cs := [_, _, _, _, _, _, _, _, _, _, _]) rfl (show qFieldR W _ _ from ⟨none, 0, 0, rfl, nilB⟩)))) (by simp [sampleF]) (m _ (by simp [sampleF]))
  have r5 : SlB 4 72 qDepR W (.slice (some ⟨w.heap.size + 5, 0, none⟩) 1 1) [⟨[nB], nA, [], 0⟩] := slB_blk (l := ([⟨[nB], nA, [], 0⟩] : List QDep)) k5 (CellsR.one rfl (show qDepR W _ (⟨[nB], nA, [], 0⟩ : QDep) from ⟨_, _, _, none, 0, 0, rfl, r4, nilB⟩)) (by simp) (m _ (by simp))
  have r6 : SlB 6 96 qSchemaR W (.slice (some ⟨w.heap.size + 6, 0, none⟩) 1 1) sampleQ.schemas := slB_blk (l := sampleQ.schemas) k6 (CellsR.one rfl (show qSchemaR W _ (⟨nS, nY, 0, 0, sampleF, [⟨[nB], nA, [], 0⟩]⟩ : QSchema) from ⟨_, _, _, _, _, _, rfl, r1, r5⟩)) (by simp [sampleQ]) (m _ (by simp [sampleQ]))
  have r7 : SlB 8 96 qFromR W (.slice (some ⟨w.heap.size + 7, 0, none⟩) 2 2) [⟨nU, nS, 0, zT⟩, ⟨nV, nS, 0, ⟨nU, nB, 0, 0, 0⟩⟩] := slB_blk (l := ([⟨nU, nS, 0, zT⟩, ⟨nV, nS, 0, ⟨nU, nB, 0, 0, 0⟩⟩] : List QFrom)) k7 ((CellsR.one (x := (⟨nU, nS, 0, zT⟩ : QFrom)) (cs := [_, _, _, _, _, _, _, _]) rfl rfl).append (CellsR.one (x := (⟨nV, nS, 0, ⟨nU, nB, 0, 0, 0⟩⟩ : QFrom)) (cs := [_, _, _, _, _, _, _, _]) rfl rfl)) (by simp) (m _ (by simp))
  have r8 : SlB 11 120 qAtomR W (.slice (some ⟨w.heap.size + 8, 0, none⟩) 1 1) [⟨1, ⟨nV, nA, 0, 0, 0⟩, ⟨noStr, noStr, 0, 0, 7⟩⟩] := slB_blk (l := ([⟨1, ⟨nV, nA, 0, 0, 0⟩, ⟨noStr, noStr, 0, 0, 7⟩⟩] : List QAtom)) k8 (CellsR.one rfl (show qAtomR W _ (⟨1, ⟨nV, nA, 0, 0, 0⟩, ⟨noStr, noStr, 0, 0, 7⟩⟩ : QAtom) from rfl)) (by simp) (m _ (by simp))
  have r9 : SlB 5 96 qRuleR W (.slice (some ⟨w.heap.size + 9, 0, none⟩) 1 1) sampleQ.rules := slB_blk (l := sampleQ.rules) k9 (CellsR.one rfl (show qRuleR W _ (⟨nS, 0, [⟨nU, nS, 0, zT⟩, ⟨nV, nS, 0, ⟨nU, nB, 0, 0, 0⟩⟩], [⟨1, ⟨nV, nA, 0, 0, 0⟩, ⟨noStr, noStr, 0, 0, 7⟩⟩], []⟩ : QRule) from ⟨_, _, _, _, _, _, none, 0, 0, rfl, r7, r8, nilB⟩)) (by simp [sampleQ]) (m _ (by simp [sampleQ]))
  have r10 : SlB 5 56 qMoveR W (.slice (some ⟨w.heap.size + 10, 0, none⟩) 1 1) [⟨nA, nB, 0, 0, 0⟩] := slB_blk (l := ([⟨nA, nB, 0, 0, 0⟩] : List QMove)) k10 (CellsR.one rfl (show qMoveR W _ (⟨nA, nB, 0, 0, 0⟩ : QMove) from rfl)) (by simp) (m _ (by simp))
  have r11 : SlB 5 72 qConvertR W (.slice (some ⟨w.heap.size + 11, 0, none⟩) 1 1) sampleQ.converts := slB_blk (l := sampleQ.converts) k11 (CellsR.one rfl (show qConvertR W _ (⟨nS, nS, 0, 0, [⟨nA, nB, 0, 0, 0⟩]⟩ : QConvert) from ⟨_, _, _, rfl, r10⟩)) (by simp [sampleQ]) (m _ (by simp [sampleQ]))
  have r12 : SlB 4 48 qRefR W (.slice (some ⟨w.heap.size + 12, 0, none⟩) 1 1) [⟨nS, nB, 0, 0⟩] := slB_blk (l := ([⟨nS, nB, 0, 0⟩] : List QRef)) k12 (CellsR.one rfl (show qRefR W _ (⟨nS, nB, 0, 0⟩ : QRef) from rfl)) (by simp) (m _ (by simp))
  have r13 : SlB 3 48 qPurposeR W (.slice (some ⟨w.heap.size + 13, 0, none⟩) 1 1) sampleQ.purposes := slB_blk (l := sampleQ.purposes) k13 (CellsR.one rfl (show qPurposeR W _ (⟨nP, [⟨nS, nB, 0, 0⟩], 0⟩ : QPurpose) from ⟨_, _, _, rfl, r12⟩)) (by simp [sampleQ]) (m _ (by simp [sampleQ]))
  exact ⟨_, _, _, _, _, _, _, _, _, _, _, _, _, _, _, _, _, _, rfl, r2, r3, r6, r9, r11, r13⟩

set_option maxHeartbeats 2000000 in
set_option maxRecDepth 100000 in
theorem sample_any (w : World) : Calls Try.prog 25 #[] w (RetSource sampleQ w) := by
  go_enter Try.func25, Try.ntmps25
  go_wp2
  refine ⟨rfl, .agg #[.slice (some ⟨w.heap.size + 2, 0, none⟩) 2 2, .slice (some ⟨w.heap.size + 3, 0, none⟩) 3 3, .slice (some ⟨w.heap.size + 6, 0, none⟩) 1 1, .slice (some ⟨w.heap.size + 9, 0, none⟩) 1 1, .slice (some ⟨w.heap.size + 11, 0, none⟩) 1 1, .slice (some ⟨w.heap.size + 13, 0, none⟩) 1 1], ?_, [.slice (some ⟨w.heap.size + 2, 0, none⟩) 2 2, .slice (some ⟨w.heap.size + 3, 0, none⟩) 3 3, .slice (some ⟨w.heap.size + 6, 0, none⟩) 1 1, .slice (some ⟨w.heap.size + 9, 0, none⟩) 1 1, .slice (some ⟨w.heap.size + 11, 0, none⟩) 1 1, .slice (some ⟨w.heap.size + 13, 0, none⟩) 1 1], rfl, sample_at w, allocs_below (sampleL w.heap.size) w w (Below.refl _ _)⟩
  simp [results, Try.results25, go_sem]

end Go.Proofs.Ytkkkephjljiplaa
