/- Contracts of slices.Clone, each instance. Written by gencl.py. -/
import Derived.Test.YtkkkephjljiplaaNmW1
import Derived.WalkSpells
namespace Go.Proofs.Ytkkkephjljiplaa
open Go.RowKit

/-- A row of the call's own with these cells. -/
def RetRow {α : Type} (t : TypeId) (sz : Nat) (R : World → List Value → α → Prop) (l : List α) (w : World) (e : Ending) (w' : World) : Prop :=
  ∃ v cs, e = .returned v ∧ CellsR sz R w cs l ∧ w'.ownsRow w.heap.size t sz v l.length cs ∧ Below w.heap.size w w'

theorem Try.infoStr : (Try.prog.info? 9).map (fun i => (i.zero, i.size, i.bytes)) = some (some (.string ⟨#[]⟩), 1, 16) := by kernel_rfl
theorem cloneStr_g {α : Type} {R : World → List Value → α → Prop} (hone : One R) (A : Option Addr) (n c : Nat) (l : List α) (w : World) (hs : SlB 1 16 R w (.slice A n c) l) :
    Calls Try.prog 28 #[.slice A n c] w (RetRow 9 1 R l w) := by
  have hlen := hs.1.len
  have hbd := hs.2
  have HS := Lib.hid hs.1
  clear hs
  rcases A with _ | ad
  · have hl : l = [] := by
      obtain ⟨cs, hcs, _⟩ := HS.out.cells
      cases l with
      | nil => rfl
      | cons x r => obtain ⟨b, off, x, cs, e, _⟩ := HS.out.at_ (k := 0) (by rw [hlen]; simp); cases e
    subst hl
    obtain rfl : n = 0 := by simpa using hlen
    clear hlen hbd
    have hnil := fun w : World => Lib.run_eql_slice_nil (P := Try.prog) w 22 9 none 0 c 0 0 Try.underlying22
    simp only [Option.isNone_none] at hnil
    go_enter Try.func28, Try.ntmps28
    go_wp2
    go_ret
    exact ⟨_, [], rfl, CellsR.nil, World.ownsRow_nil _ _ _ _, Below.refl _ _⟩
  · obtain ⟨i0, hi, hz0, hz1, hz2⟩ := info_parts Try.infoStr
    have HLEN := Lib.hid hlen
    clear hlen
    have hnb : n * 16 ≤ 140737488355328 := by rw [HLEN.out]; exact hbd
    have hnil := fun w : World => Lib.run_eql_slice_nil (P := Try.prog) w 22 9 (some ad) n c 0 0 Try.underlying22
    simp only [Option.isNone_some] at hnil
    go_enter Try.func28, Try.ntmps28
    go_wp2_with (at_builtin; refine wpList_append_row _ rfl (.tmp 5) (.tmp 6) 22 9 rfl i0 _ 16 Try.underlying22 hi hz0 hz1 hz2 rfl (by decide) (R := fun _ => R w) (fun _ => hone w) w.heap.size (.slice (some ⟨w.heap.size, 0, none⟩) 0 0) 0 [] rfl (World.ownsRow_lit w #[] 0 (Nat.le_refl _) (Nat.zero_le _) rfl) (some ad) n c l rfl (HS.out.fix ((Below.refl _ _).alloc (Nat.le_refl _) _)) (by unfold maxLen; omega) (by omega) (by simp) ?_; intro v' w1 cs hcs hown hgr hat)
    go_ret
    refine ⟨v', cs, rfl, hcs, ?_, ((Below.refl _ _).alloc (Nat.le_refl _) _).grown hgr (by simp) (by simp [Value.ownBlock])⟩
    rw [← HLEN.out]
    simpa using hown
theorem cloneStr_any (A : Option Addr) (n c : Nat) (l : List ByteArray) (w : World) (hs : SlB 1 16 strR w (.slice A n c) l) :
    Calls Try.prog 28 #[.slice A n c] w (RetRow 9 1 strR l w) := cloneStr_g strR_one A n c l w hs

theorem Try.infoUnit : (Try.prog.info? 47).map (fun i => (i.zero, i.size, i.bytes)) = some (some (.agg #[.string ⟨#[]⟩, .string ⟨#[]⟩, .int .i64 0, .int .i64 0, .int .i64 0]), 5, 56) := by kernel_rfl
theorem cloneUnit_g {α : Type} {R : World → List Value → α → Prop} (hone : One R) (A : Option Addr) (n c : Nat) (l : List α) (w : World) (hs : SlB 5 56 R w (.slice A n c) l) :
    Calls Try.prog 29 #[.slice A n c] w (RetRow 47 5 R l w) := by
  have hlen := hs.1.len
  have hbd := hs.2
  have HS := Lib.hid hs.1
  clear hs
  rcases A with _ | ad
  · have hl : l = [] := by
      obtain ⟨cs, hcs, _⟩ := HS.out.cells
      cases l with
      | nil => rfl
      | cons x r => obtain ⟨b, off, x, cs, e, _⟩ := HS.out.at_ (k := 0) (by rw [hlen]; simp); cases e
    subst hl
    obtain rfl : n = 0 := by simpa using hlen
    clear hlen hbd
    have hnil := fun w : World => Lib.run_eql_slice_nil (P := Try.prog) w 23 47 none 0 c 0 0 Try.underlying23
    simp only [Option.isNone_none] at hnil
    go_enter Try.func29, Try.ntmps29
    go_wp2
    go_ret
    exact ⟨_, [], rfl, CellsR.nil, World.ownsRow_nil _ _ _ _, Below.refl _ _⟩
  · obtain ⟨i0, hi, hz0, hz1, hz2⟩ := info_parts Try.infoUnit
    have HLEN := Lib.hid hlen
    clear hlen
    have hnb : n * 56 ≤ 140737488355328 := by rw [HLEN.out]; exact hbd
    have hnil := fun w : World => Lib.run_eql_slice_nil (P := Try.prog) w 23 47 (some ad) n c 0 0 Try.underlying23
    simp only [Option.isNone_some] at hnil
    go_enter Try.func29, Try.ntmps29
    go_wp2_with (at_builtin; refine wpList_append_row _ rfl (.tmp 5) (.tmp 6) 23 47 rfl i0 _ 56 Try.underlying23 hi hz0 hz1 hz2 rfl (by decide) (R := fun _ => R w) (fun _ => hone w) w.heap.size (.slice (some ⟨w.heap.size, 0, none⟩) 0 0) 0 [] rfl (World.ownsRow_lit w #[] 0 (Nat.le_refl _) (Nat.zero_le _) rfl) (some ad) n c l rfl (HS.out.fix ((Below.refl _ _).alloc (Nat.le_refl _) _)) (by unfold maxLen; omega) (by omega) (by simp) ?_; intro v' w1 cs hcs hown hgr hat)
    go_ret
    refine ⟨v', cs, rfl, hcs, ?_, ((Below.refl _ _).alloc (Nat.le_refl _) _).grown hgr (by simp) (by simp [Value.ownBlock])⟩
    rw [← HLEN.out]
    simpa using hown
theorem cloneUnit_any (A : Option Addr) (n c : Nat) (l : List QUnit) (w : World) (hs : SlB 5 56 qUnitR w (.slice A n c) l) :
    Calls Try.prog 29 #[.slice A n c] w (RetRow 47 5 qUnitR l w) := cloneUnit_g qUnitR_one A n c l w hs

theorem Try.infoSchema : (Try.prog.info? 40).map (fun i => (i.zero, i.size, i.bytes)) = some (some (.agg #[.string ⟨#[]⟩, .string ⟨#[]⟩, .int .i64 0, .int .i64 0, .slice none 0 0, .slice none 0 0]), 6, 96) := by kernel_rfl
theorem cloneSchema_g {α : Type} {R : World → List Value → α → Prop} (hone : One R) (A : Option Addr) (n c : Nat) (l : List α) (w : World) (hs : SlB 6 96 R w (.slice A n c) l) :
    Calls Try.prog 30 #[.slice A n c] w (RetRow 40 6 R l w) := by
  have hlen := hs.1.len
  have hbd := hs.2
  have HS := Lib.hid hs.1
  clear hs
  rcases A with _ | ad
  · have hl : l = [] := by
      obtain ⟨cs, hcs, _⟩ := HS.out.cells
      cases l with
      | nil => rfl
      | cons x r => obtain ⟨b, off, x, cs, e, _⟩ := HS.out.at_ (k := 0) (by rw [hlen]; simp); cases e
    subst hl
    obtain rfl : n = 0 := by simpa using hlen
    clear hlen hbd
    have hnil := fun w : World => Lib.run_eql_slice_nil (P := Try.prog) w 24 40 none 0 c 0 0 Try.underlying24
    simp only [Option.isNone_none] at hnil
    go_enter Try.func30, Try.ntmps30
    go_wp2
    go_ret
    exact ⟨_, [], rfl, CellsR.nil, World.ownsRow_nil _ _ _ _, Below.refl _ _⟩
  · obtain ⟨i0, hi, hz0, hz1, hz2⟩ := info_parts Try.infoSchema
    have HLEN := Lib.hid hlen
    clear hlen
    have hnb : n * 96 ≤ 140737488355328 := by rw [HLEN.out]; exact hbd
    have hnil := fun w : World => Lib.run_eql_slice_nil (P := Try.prog) w 24 40 (some ad) n c 0 0 Try.underlying24
    simp only [Option.isNone_some] at hnil
    go_enter Try.func30, Try.ntmps30
    go_wp2_with (at_builtin; refine wpList_append_row _ rfl (.tmp 5) (.tmp 6) 24 40 rfl i0 _ 96 Try.underlying24 hi hz0 hz1 hz2 rfl (by decide) (R := fun _ => R w) (fun _ => hone w) w.heap.size (.slice (some ⟨w.heap.size, 0, none⟩) 0 0) 0 [] rfl (World.ownsRow_lit w #[] 0 (Nat.le_refl _) (Nat.zero_le _) rfl) (some ad) n c l rfl (HS.out.fix ((Below.refl _ _).alloc (Nat.le_refl _) _)) (by unfold maxLen; omega) (by omega) (by simp) ?_; intro v' w1 cs hcs hown hgr hat)
    go_ret
    refine ⟨v', cs, rfl, hcs, ?_, ((Below.refl _ _).alloc (Nat.le_refl _) _).grown hgr (by simp) (by simp [Value.ownBlock])⟩
    rw [← HLEN.out]
    simpa using hown
theorem cloneSchema_any (A : Option Addr) (n c : Nat) (l : List QSchema) (w : World) (hs : SlB 6 96 qSchemaR w (.slice A n c) l) :
    Calls Try.prog 30 #[.slice A n c] w (RetRow 40 6 qSchemaR l w) := cloneSchema_g qSchemaR_one A n c l w hs

theorem Try.infoRule : (Try.prog.info? 56).map (fun i => (i.zero, i.size, i.bytes)) = some (some (.agg #[.string ⟨#[]⟩, .int .i64 0, .slice none 0 0, .slice none 0 0, .slice none 0 0]), 5, 96) := by kernel_rfl
theorem cloneRule_g {α : Type} {R : World → List Value → α → Prop} (hone : One R) (A : Option Addr) (n c : Nat) (l : List α) (w : World) (hs : SlB 5 96 R w (.slice A n c) l) :
    Calls Try.prog 31 #[.slice A n c] w (RetRow 56 5 R l w) := by
  have hlen := hs.1.len
  have hbd := hs.2
  have HS := Lib.hid hs.1
  clear hs
  rcases A with _ | ad
  · have hl : l = [] := by
      obtain ⟨cs, hcs, _⟩ := HS.out.cells
      cases l with
      | nil => rfl
      | cons x r => obtain ⟨b, off, x, cs, e, _⟩ := HS.out.at_ (k := 0) (by rw [hlen]; simp); cases e
    subst hl
    obtain rfl : n = 0 := by simpa using hlen
    clear hlen hbd
    have hnil := fun w : World => Lib.run_eql_slice_nil (P := Try.prog) w 25 56 none 0 c 0 0 Try.underlying25
    simp only [Option.isNone_none] at hnil
    go_enter Try.func31, Try.ntmps31
    go_wp2
    go_ret
    exact ⟨_, [], rfl, CellsR.nil, World.ownsRow_nil _ _ _ _, Below.refl _ _⟩
  · obtain ⟨i0, hi, hz0, hz1, hz2⟩ := info_parts Try.infoRule
    have HLEN := Lib.hid hlen
    clear hlen
    have hnb : n * 96 ≤ 140737488355328 := by rw [HLEN.out]; exact hbd
    have hnil := fun w : World => Lib.run_eql_slice_nil (P := Try.prog) w 25 56 (some ad) n c 0 0 Try.underlying25
    simp only [Option.isNone_some] at hnil
    go_enter Try.func31, Try.ntmps31
    go_wp2_with (at_builtin; refine wpList_append_row _ rfl (.tmp 5) (.tmp 6) 25 56 rfl i0 _ 96 Try.underlying25 hi hz0 hz1 hz2 rfl (by decide) (R := fun _ => R w) (fun _ => hone w) w.heap.size (.slice (some ⟨w.heap.size, 0, none⟩) 0 0) 0 [] rfl (World.ownsRow_lit w #[] 0 (Nat.le_refl _) (Nat.zero_le _) rfl) (some ad) n c l rfl (HS.out.fix ((Below.refl _ _).alloc (Nat.le_refl _) _)) (by unfold maxLen; omega) (by omega) (by simp) ?_; intro v' w1 cs hcs hown hgr hat)
    go_ret
    refine ⟨v', cs, rfl, hcs, ?_, ((Below.refl _ _).alloc (Nat.le_refl _) _).grown hgr (by simp) (by simp [Value.ownBlock])⟩
    rw [← HLEN.out]
    simpa using hown
theorem cloneRule_any (A : Option Addr) (n c : Nat) (l : List QRule) (w : World) (hs : SlB 5 96 qRuleR w (.slice A n c) l) :
    Calls Try.prog 31 #[.slice A n c] w (RetRow 56 5 qRuleR l w) := cloneRule_g qRuleR_one A n c l w hs

theorem Try.infoConvert : (Try.prog.info? 69).map (fun i => (i.zero, i.size, i.bytes)) = some (some (.agg #[.string ⟨#[]⟩, .string ⟨#[]⟩, .int .i64 0, .int .i64 0, .slice none 0 0]), 5, 72) := by kernel_rfl
theorem cloneConvert_g {α : Type} {R : World → List Value → α → Prop} (hone : One R) (A : Option Addr) (n c : Nat) (l : List α) (w : World) (hs : SlB 5 72 R w (.slice A n c) l) :
    Calls Try.prog 32 #[.slice A n c] w (RetRow 69 5 R l w) := by
  have hlen := hs.1.len
  have hbd := hs.2
  have HS := Lib.hid hs.1
  clear hs
  rcases A with _ | ad
  · have hl : l = [] := by
      obtain ⟨cs, hcs, _⟩ := HS.out.cells
      cases l with
      | nil => rfl
      | cons x r => obtain ⟨b, off, x, cs, e, _⟩ := HS.out.at_ (k := 0) (by rw [hlen]; simp); cases e
    subst hl
    obtain rfl : n = 0 := by simpa using hlen
    clear hlen hbd
    have hnil := fun w : World => Lib.run_eql_slice_nil (P := Try.prog) w 26 69 none 0 c 0 0 Try.underlying26
    simp only [Option.isNone_none] at hnil
    go_enter Try.func32, Try.ntmps32
    go_wp2
    go_ret
    exact ⟨_, [], rfl, CellsR.nil, World.ownsRow_nil _ _ _ _, Below.refl _ _⟩
  · obtain ⟨i0, hi, hz0, hz1, hz2⟩ := info_parts Try.infoConvert
    have HLEN := Lib.hid hlen
    clear hlen
    have hnb : n * 72 ≤ 140737488355328 := by rw [HLEN.out]; exact hbd
    have hnil := fun w : World => Lib.run_eql_slice_nil (P := Try.prog) w 26 69 (some ad) n c 0 0 Try.underlying26
    simp only [Option.isNone_some] at hnil
    go_enter Try.func32, Try.ntmps32
    go_wp2_with (at_builtin; refine wpList_append_row _ rfl (.tmp 5) (.tmp 6) 26 69 rfl i0 _ 72 Try.underlying26 hi hz0 hz1 hz2 rfl (by decide) (R := fun _ => R w) (fun _ => hone w) w.heap.size (.slice (some ⟨w.heap.size, 0, none⟩) 0 0) 0 [] rfl (World.ownsRow_lit w #[] 0 (Nat.le_refl _) (Nat.zero_le _) rfl) (some ad) n c l rfl (HS.out.fix ((Below.refl _ _).alloc (Nat.le_refl _) _)) (by unfold maxLen; omega) (by omega) (by simp) ?_; intro v' w1 cs hcs hown hgr hat)
    go_ret
    refine ⟨v', cs, rfl, hcs, ?_, ((Below.refl _ _).alloc (Nat.le_refl _) _).grown hgr (by simp) (by simp [Value.ownBlock])⟩
    rw [← HLEN.out]
    simpa using hown
theorem cloneConvert_any (A : Option Addr) (n c : Nat) (l : List QConvert) (w : World) (hs : SlB 5 72 qConvertR w (.slice A n c) l) :
    Calls Try.prog 32 #[.slice A n c] w (RetRow 69 5 qConvertR l w) := cloneConvert_g qConvertR_one A n c l w hs

theorem Try.infoPurpose : (Try.prog.info? 74).map (fun i => (i.zero, i.size, i.bytes)) = some (some (.agg #[.string ⟨#[]⟩, .slice none 0 0, .int .i64 0]), 3, 48) := by kernel_rfl
theorem clonePurpose_g {α : Type} {R : World → List Value → α → Prop} (hone : One R) (A : Option Addr) (n c : Nat) (l : List α) (w : World) (hs : SlB 3 48 R w (.slice A n c) l) :
    Calls Try.prog 33 #[.slice A n c] w (RetRow 74 3 R l w) := by
  have hlen := hs.1.len
  have hbd := hs.2
  have HS := Lib.hid hs.1
  clear hs
  rcases A with _ | ad
  · have hl : l = [] := by
      obtain ⟨cs, hcs, _⟩ := HS.out.cells
      cases l with
      | nil => rfl
      | cons x r => obtain ⟨b, off, x, cs, e, _⟩ := HS.out.at_ (k := 0) (by rw [hlen]; simp); cases e
    subst hl
    obtain rfl : n = 0 := by simpa using hlen
    clear hlen hbd
    have hnil := fun w : World => Lib.run_eql_slice_nil (P := Try.prog) w 27 74 none 0 c 0 0 Try.underlying27
    simp only [Option.isNone_none] at hnil
    go_enter Try.func33, Try.ntmps33
    go_wp2
    go_ret
    exact ⟨_, [], rfl, CellsR.nil, World.ownsRow_nil _ _ _ _, Below.refl _ _⟩
  · obtain ⟨i0, hi, hz0, hz1, hz2⟩ := info_parts Try.infoPurpose
    have HLEN := Lib.hid hlen
    clear hlen
    have hnb : n * 48 ≤ 140737488355328 := by rw [HLEN.out]; exact hbd
    have hnil := fun w : World => Lib.run_eql_slice_nil (P := Try.prog) w 27 74 (some ad) n c 0 0 Try.underlying27
    simp only [Option.isNone_some] at hnil
    go_enter Try.func33, Try.ntmps33
    go_wp2_with (at_builtin; refine wpList_append_row _ rfl (.tmp 5) (.tmp 6) 27 74 rfl i0 _ 48 Try.underlying27 hi hz0 hz1 hz2 rfl (by decide) (R := fun _ => R w) (fun _ => hone w) w.heap.size (.slice (some ⟨w.heap.size, 0, none⟩) 0 0) 0 [] rfl (World.ownsRow_lit w #[] 0 (Nat.le_refl _) (Nat.zero_le _) rfl) (some ad) n c l rfl (HS.out.fix ((Below.refl _ _).alloc (Nat.le_refl _) _)) (by unfold maxLen; omega) (by omega) (by simp) ?_; intro v' w1 cs hcs hown hgr hat)
    go_ret
    refine ⟨v', cs, rfl, hcs, ?_, ((Below.refl _ _).alloc (Nat.le_refl _) _).grown hgr (by simp) (by simp [Value.ownBlock])⟩
    rw [← HLEN.out]
    simpa using hown
theorem clonePurpose_any (A : Option Addr) (n c : Nat) (l : List QPurpose) (w : World) (hs : SlB 3 48 qPurposeR w (.slice A n c) l) :
    Calls Try.prog 33 #[.slice A n c] w (RetRow 74 3 qPurposeR l w) := clonePurpose_g qPurposeR_one A n c l w hs

theorem Try.infoField : (Try.prog.info? 45).map (fun i => (i.zero, i.size, i.bytes)) = some (some (.agg #[.string ⟨#[]⟩, .int .i64 0, .int .i64 0, .int .i64 0, .string ⟨#[]⟩, .int .i64 0, .slice none 0 0, .int .i64 0, .int .i64 0, .int .i64 0, .int .i64 0]), 11, 120) := by kernel_rfl
theorem cloneField_g {α : Type} {R : World → List Value → α → Prop} (hone : One R) (A : Option Addr) (n c : Nat) (l : List α) (w : World) (hs : SlB 11 120 R w (.slice A n c) l) :
    Calls Try.prog 72 #[.slice A n c] w (RetRow 45 11 R l w) := by
  have hlen := hs.1.len
  have hbd := hs.2
  have HS := Lib.hid hs.1
  clear hs
  rcases A with _ | ad
  · have hl : l = [] := by
      obtain ⟨cs, hcs, _⟩ := HS.out.cells
      cases l with
      | nil => rfl
      | cons x r => obtain ⟨b, off, x, cs, e, _⟩ := HS.out.at_ (k := 0) (by rw [hlen]; simp); cases e
    subst hl
    obtain rfl : n = 0 := by simpa using hlen
    clear hlen hbd
    have hnil := fun w : World => Lib.run_eql_slice_nil (P := Try.prog) w 37 45 none 0 c 0 0 Try.underlying37
    simp only [Option.isNone_none] at hnil
    go_enter Try.func72, Try.ntmps72
    go_wp2
    go_ret
    exact ⟨_, [], rfl, CellsR.nil, World.ownsRow_nil _ _ _ _, Below.refl _ _⟩
  · obtain ⟨i0, hi, hz0, hz1, hz2⟩ := info_parts Try.infoField
    have HLEN := Lib.hid hlen
    clear hlen
    have hnb : n * 120 ≤ 140737488355328 := by rw [HLEN.out]; exact hbd
    have hnil := fun w : World => Lib.run_eql_slice_nil (P := Try.prog) w 37 45 (some ad) n c 0 0 Try.underlying37
    simp only [Option.isNone_some] at hnil
    go_enter Try.func72, Try.ntmps72
    go_wp2_with (at_builtin; refine wpList_append_row _ rfl (.tmp 5) (.tmp 6) 37 45 rfl i0 _ 120 Try.underlying37 hi hz0 hz1 hz2 rfl (by decide) (R := fun _ => R w) (fun _ => hone w) w.heap.size (.slice (some ⟨w.heap.size, 0, none⟩) 0 0) 0 [] rfl (World.ownsRow_lit w #[] 0 (Nat.le_refl _) (Nat.zero_le _) rfl) (some ad) n c l rfl (HS.out.fix ((Below.refl _ _).alloc (Nat.le_refl _) _)) (by unfold maxLen; omega) (by omega) (by simp) ?_; intro v' w1 cs hcs hown hgr hat)
    go_ret
    refine ⟨v', cs, rfl, hcs, ?_, ((Below.refl _ _).alloc (Nat.le_refl _) _).grown hgr (by simp) (by simp [Value.ownBlock])⟩
    rw [← HLEN.out]
    simpa using hown
theorem cloneField_any (A : Option Addr) (n c : Nat) (l : List QField) (w : World) (hs : SlB 11 120 qFieldR w (.slice A n c) l) :
    Calls Try.prog 72 #[.slice A n c] w (RetRow 45 11 qFieldR l w) := cloneField_g qFieldR_one A n c l w hs

theorem Try.infoDep : (Try.prog.info? 50).map (fun i => (i.zero, i.size, i.bytes)) = some (some (.agg #[.slice none 0 0, .string ⟨#[]⟩, .slice none 0 0, .int .i64 0]), 4, 72) := by kernel_rfl
theorem cloneDep_g {α : Type} {R : World → List Value → α → Prop} (hone : One R) (A : Option Addr) (n c : Nat) (l : List α) (w : World) (hs : SlB 4 72 R w (.slice A n c) l) :
    Calls Try.prog 73 #[.slice A n c] w (RetRow 50 4 R l w) := by
  have hlen := hs.1.len
  have hbd := hs.2
  have HS := Lib.hid hs.1
  clear hs
  rcases A with _ | ad
  · have hl : l = [] := by
      obtain ⟨cs, hcs, _⟩ := HS.out.cells
      cases l with
      | nil => rfl
      | cons x r => obtain ⟨b, off, x, cs, e, _⟩ := HS.out.at_ (k := 0) (by rw [hlen]; simp); cases e
    subst hl
    obtain rfl : n = 0 := by simpa using hlen
    clear hlen hbd
    have hnil := fun w : World => Lib.run_eql_slice_nil (P := Try.prog) w 38 50 none 0 c 0 0 Try.underlying38
    simp only [Option.isNone_none] at hnil
    go_enter Try.func73, Try.ntmps73
    go_wp2
    go_ret
    exact ⟨_, [], rfl, CellsR.nil, World.ownsRow_nil _ _ _ _, Below.refl _ _⟩
  · obtain ⟨i0, hi, hz0, hz1, hz2⟩ := info_parts Try.infoDep
    have HLEN := Lib.hid hlen
    clear hlen
    have hnb : n * 72 ≤ 140737488355328 := by rw [HLEN.out]; exact hbd
    have hnil := fun w : World => Lib.run_eql_slice_nil (P := Try.prog) w 38 50 (some ad) n c 0 0 Try.underlying38
    simp only [Option.isNone_some] at hnil
    go_enter Try.func73, Try.ntmps73
    go_wp2_with (at_builtin; refine wpList_append_row _ rfl (.tmp 5) (.tmp 6) 38 50 rfl i0 _ 72 Try.underlying38 hi hz0 hz1 hz2 rfl (by decide) (R := fun _ => R w) (fun _ => hone w) w.heap.size (.slice (some ⟨w.heap.size, 0, none⟩) 0 0) 0 [] rfl (World.ownsRow_lit w #[] 0 (Nat.le_refl _) (Nat.zero_le _) rfl) (some ad) n c l rfl (HS.out.fix ((Below.refl _ _).alloc (Nat.le_refl _) _)) (by unfold maxLen; omega) (by omega) (by simp) ?_; intro v' w1 cs hcs hown hgr hat)
    go_ret
    refine ⟨v', cs, rfl, hcs, ?_, ((Below.refl _ _).alloc (Nat.le_refl _) _).grown hgr (by simp) (by simp [Value.ownBlock])⟩
    rw [← HLEN.out]
    simpa using hown
theorem cloneDep_any (A : Option Addr) (n c : Nat) (l : List QDep) (w : World) (hs : SlB 4 72 qDepR w (.slice A n c) l) :
    Calls Try.prog 73 #[.slice A n c] w (RetRow 50 4 qDepR l w) := cloneDep_g qDepR_one A n c l w hs

theorem Try.infoFrom : (Try.prog.info? 61).map (fun i => (i.zero, i.size, i.bytes)) = some (some (.agg #[.string ⟨#[]⟩, .string ⟨#[]⟩, .int .i64 0, .string ⟨#[]⟩, .string ⟨#[]⟩, .int .i64 0, .int .i64 0, .int .i64 0]), 8, 96) := by kernel_rfl
theorem cloneFrom_g {α : Type} {R : World → List Value → α → Prop} (hone : One R) (A : Option Addr) (n c : Nat) (l : List α) (w : World) (hs : SlB 8 96 R w (.slice A n c) l) :
    Calls Try.prog 74 #[.slice A n c] w (RetRow 61 8 R l w) := by
  have hlen := hs.1.len
  have hbd := hs.2
  have HS := Lib.hid hs.1
  clear hs
  rcases A with _ | ad
  · have hl : l = [] := by
      obtain ⟨cs, hcs, _⟩ := HS.out.cells
      cases l with
      | nil => rfl
      | cons x r => obtain ⟨b, off, x, cs, e, _⟩ := HS.out.at_ (k := 0) (by rw [hlen]; simp); cases e
    subst hl
    obtain rfl : n = 0 := by simpa using hlen
    clear hlen hbd
    have hnil := fun w : World => Lib.run_eql_slice_nil (P := Try.prog) w 52 61 none 0 c 0 0 Try.underlying52
    simp only [Option.isNone_none] at hnil
    go_enter Try.func74, Try.ntmps74
    go_wp2
    go_ret
    exact ⟨_, [], rfl, CellsR.nil, World.ownsRow_nil _ _ _ _, Below.refl _ _⟩
  · obtain ⟨i0, hi, hz0, hz1, hz2⟩ := info_parts Try.infoFrom
    have HLEN := Lib.hid hlen
    clear hlen
    have hnb : n * 96 ≤ 140737488355328 := by rw [HLEN.out]; exact hbd
    have hnil := fun w : World => Lib.run_eql_slice_nil (P := Try.prog) w 52 61 (some ad) n c 0 0 Try.underlying52
    simp only [Option.isNone_some] at hnil
    go_enter Try.func74, Try.ntmps74
    go_wp2_with (at_builtin; refine wpList_append_row _ rfl (.tmp 5) (.tmp 6) 52 61 rfl i0 _ 96 Try.underlying52 hi hz0 hz1 hz2 rfl (by decide) (R := fun _ => R w) (fun _ => hone w) w.heap.size (.slice (some ⟨w.heap.size, 0, none⟩) 0 0) 0 [] rfl (World.ownsRow_lit w #[] 0 (Nat.le_refl _) (Nat.zero_le _) rfl) (some ad) n c l rfl (HS.out.fix ((Below.refl _ _).alloc (Nat.le_refl _) _)) (by unfold maxLen; omega) (by omega) (by simp) ?_; intro v' w1 cs hcs hown hgr hat)
    go_ret
    refine ⟨v', cs, rfl, hcs, ?_, ((Below.refl _ _).alloc (Nat.le_refl _) _).grown hgr (by simp) (by simp [Value.ownBlock])⟩
    rw [← HLEN.out]
    simpa using hown
theorem cloneFrom_any (A : Option Addr) (n c : Nat) (l : List QFrom) (w : World) (hs : SlB 8 96 qFromR w (.slice A n c) l) :
    Calls Try.prog 74 #[.slice A n c] w (RetRow 61 8 qFromR l w) := cloneFrom_g qFromR_one A n c l w hs

theorem Try.infoAtom : (Try.prog.info? 64).map (fun i => (i.zero, i.size, i.bytes)) = some (some (.agg #[.int .i64 0, .string ⟨#[]⟩, .string ⟨#[]⟩, .int .i64 0, .int .i64 0, .int .i64 0, .string ⟨#[]⟩, .string ⟨#[]⟩, .int .i64 0, .int .i64 0, .int .i64 0]), 11, 120) := by kernel_rfl
theorem cloneAtom_g {α : Type} {R : World → List Value → α → Prop} (hone : One R) (A : Option Addr) (n c : Nat) (l : List α) (w : World) (hs : SlB 11 120 R w (.slice A n c) l) :
    Calls Try.prog 76 #[.slice A n c] w (RetRow 64 11 R l w) := by
  have hlen := hs.1.len
  have hbd := hs.2
  have HS := Lib.hid hs.1
  clear hs
  rcases A with _ | ad
  · have hl : l = [] := by
      obtain ⟨cs, hcs, _⟩ := HS.out.cells
      cases l with
      | nil => rfl
      | cons x r => obtain ⟨b, off, x, cs, e, _⟩ := HS.out.at_ (k := 0) (by rw [hlen]; simp); cases e
    subst hl
    obtain rfl : n = 0 := by simpa using hlen
    clear hlen hbd
    have hnil := fun w : World => Lib.run_eql_slice_nil (P := Try.prog) w 53 64 none 0 c 0 0 Try.underlying53
    simp only [Option.isNone_none] at hnil
    go_enter Try.func76, Try.ntmps76
    go_wp2
    go_ret
    exact ⟨_, [], rfl, CellsR.nil, World.ownsRow_nil _ _ _ _, Below.refl _ _⟩
  · obtain ⟨i0, hi, hz0, hz1, hz2⟩ := info_parts Try.infoAtom
    have HLEN := Lib.hid hlen
    clear hlen
    have hnb : n * 120 ≤ 140737488355328 := by rw [HLEN.out]; exact hbd
    have hnil := fun w : World => Lib.run_eql_slice_nil (P := Try.prog) w 53 64 (some ad) n c 0 0 Try.underlying53
    simp only [Option.isNone_some] at hnil
    go_enter Try.func76, Try.ntmps76
    go_wp2_with (at_builtin; refine wpList_append_row _ rfl (.tmp 5) (.tmp 6) 53 64 rfl i0 _ 120 Try.underlying53 hi hz0 hz1 hz2 rfl (by decide) (R := fun _ => R w) (fun _ => hone w) w.heap.size (.slice (some ⟨w.heap.size, 0, none⟩) 0 0) 0 [] rfl (World.ownsRow_lit w #[] 0 (Nat.le_refl _) (Nat.zero_le _) rfl) (some ad) n c l rfl (HS.out.fix ((Below.refl _ _).alloc (Nat.le_refl _) _)) (by unfold maxLen; omega) (by omega) (by simp) ?_; intro v' w1 cs hcs hown hgr hat)
    go_ret
    refine ⟨v', cs, rfl, hcs, ?_, ((Below.refl _ _).alloc (Nat.le_refl _) _).grown hgr (by simp) (by simp [Value.ownBlock])⟩
    rw [← HLEN.out]
    simpa using hown
theorem cloneAtom_any (A : Option Addr) (n c : Nat) (l : List QAtom) (w : World) (hs : SlB 11 120 qAtomR w (.slice A n c) l) :
    Calls Try.prog 76 #[.slice A n c] w (RetRow 64 11 qAtomR l w) := cloneAtom_g qAtomR_one A n c l w hs

theorem Try.infoSet : (Try.prog.info? 66).map (fun i => (i.zero, i.size, i.bytes)) = some (some (.agg #[.string ⟨#[]⟩, .int .i64 0, .string ⟨#[]⟩, .string ⟨#[]⟩, .int .i64 0, .int .i64 0, .int .i64 0]), 7, 80) := by kernel_rfl
theorem cloneSet_g {α : Type} {R : World → List Value → α → Prop} (hone : One R) (A : Option Addr) (n c : Nat) (l : List α) (w : World) (hs : SlB 7 80 R w (.slice A n c) l) :
    Calls Try.prog 77 #[.slice A n c] w (RetRow 66 7 R l w) := by
  have hlen := hs.1.len
  have hbd := hs.2
  have HS := Lib.hid hs.1
  clear hs
  rcases A with _ | ad
  · have hl : l = [] := by
      obtain ⟨cs, hcs, _⟩ := HS.out.cells
      cases l with
      | nil => rfl
      | cons x r => obtain ⟨b, off, x, cs, e, _⟩ := HS.out.at_ (k := 0) (by rw [hlen]; simp); cases e
    subst hl
    obtain rfl : n = 0 := by simpa using hlen
    clear hlen hbd
    have hnil := fun w : World => Lib.run_eql_slice_nil (P := Try.prog) w 54 66 none 0 c 0 0 Try.underlying54
    simp only [Option.isNone_none] at hnil
    go_enter Try.func77, Try.ntmps77
    go_wp2
    go_ret
    exact ⟨_, [], rfl, CellsR.nil, World.ownsRow_nil _ _ _ _, Below.refl _ _⟩
  · obtain ⟨i0, hi, hz0, hz1, hz2⟩ := info_parts Try.infoSet
    have HLEN := Lib.hid hlen
    clear hlen
    have hnb : n * 80 ≤ 140737488355328 := by rw [HLEN.out]; exact hbd
    have hnil := fun w : World => Lib.run_eql_slice_nil (P := Try.prog) w 54 66 (some ad) n c 0 0 Try.underlying54
    simp only [Option.isNone_some] at hnil
    go_enter Try.func77, Try.ntmps77
    go_wp2_with (at_builtin; refine wpList_append_row _ rfl (.tmp 5) (.tmp 6) 54 66 rfl i0 _ 80 Try.underlying54 hi hz0 hz1 hz2 rfl (by decide) (R := fun _ => R w) (fun _ => hone w) w.heap.size (.slice (some ⟨w.heap.size, 0, none⟩) 0 0) 0 [] rfl (World.ownsRow_lit w #[] 0 (Nat.le_refl _) (Nat.zero_le _) rfl) (some ad) n c l rfl (HS.out.fix ((Below.refl _ _).alloc (Nat.le_refl _) _)) (by unfold maxLen; omega) (by omega) (by simp) ?_; intro v' w1 cs hcs hown hgr hat)
    go_ret
    refine ⟨v', cs, rfl, hcs, ?_, ((Below.refl _ _).alloc (Nat.le_refl _) _).grown hgr (by simp) (by simp [Value.ownBlock])⟩
    rw [← HLEN.out]
    simpa using hown
theorem cloneSet_any (A : Option Addr) (n c : Nat) (l : List QSet) (w : World) (hs : SlB 7 80 qSetR w (.slice A n c) l) :
    Calls Try.prog 77 #[.slice A n c] w (RetRow 66 7 qSetR l w) := cloneSet_g qSetR_one A n c l w hs

theorem Try.infoMove : (Try.prog.info? 71).map (fun i => (i.zero, i.size, i.bytes)) = some (some (.agg #[.string ⟨#[]⟩, .string ⟨#[]⟩, .int .i64 0, .int .i64 0, .int .i64 0]), 5, 56) := by kernel_rfl
theorem cloneMove_g {α : Type} {R : World → List Value → α → Prop} (hone : One R) (A : Option Addr) (n c : Nat) (l : List α) (w : World) (hs : SlB 5 56 R w (.slice A n c) l) :
    Calls Try.prog 78 #[.slice A n c] w (RetRow 71 5 R l w) := by
  have hlen := hs.1.len
  have hbd := hs.2
  have HS := Lib.hid hs.1
  clear hs
  rcases A with _ | ad
  · have hl : l = [] := by
      obtain ⟨cs, hcs, _⟩ := HS.out.cells
      cases l with
      | nil => rfl
      | cons x r => obtain ⟨b, off, x, cs, e, _⟩ := HS.out.at_ (k := 0) (by rw [hlen]; simp); cases e
    subst hl
    obtain rfl : n = 0 := by simpa using hlen
    clear hlen hbd
    have hnil := fun w : World => Lib.run_eql_slice_nil (P := Try.prog) w 67 71 none 0 c 0 0 Try.underlying67
    simp only [Option.isNone_none] at hnil
    go_enter Try.func78, Try.ntmps78
    go_wp2
    go_ret
    exact ⟨_, [], rfl, CellsR.nil, World.ownsRow_nil _ _ _ _, Below.refl _ _⟩
  · obtain ⟨i0, hi, hz0, hz1, hz2⟩ := info_parts Try.infoMove
    have HLEN := Lib.hid hlen
    clear hlen
    have hnb : n * 56 ≤ 140737488355328 := by rw [HLEN.out]; exact hbd
    have hnil := fun w : World => Lib.run_eql_slice_nil (P := Try.prog) w 67 71 (some ad) n c 0 0 Try.underlying67
    simp only [Option.isNone_some] at hnil
    go_enter Try.func78, Try.ntmps78
    go_wp2_with (at_builtin; refine wpList_append_row _ rfl (.tmp 5) (.tmp 6) 67 71 rfl i0 _ 56 Try.underlying67 hi hz0 hz1 hz2 rfl (by decide) (R := fun _ => R w) (fun _ => hone w) w.heap.size (.slice (some ⟨w.heap.size, 0, none⟩) 0 0) 0 [] rfl (World.ownsRow_lit w #[] 0 (Nat.le_refl _) (Nat.zero_le _) rfl) (some ad) n c l rfl (HS.out.fix ((Below.refl _ _).alloc (Nat.le_refl _) _)) (by unfold maxLen; omega) (by omega) (by simp) ?_; intro v' w1 cs hcs hown hgr hat)
    go_ret
    refine ⟨v', cs, rfl, hcs, ?_, ((Below.refl _ _).alloc (Nat.le_refl _) _).grown hgr (by simp) (by simp [Value.ownBlock])⟩
    rw [← HLEN.out]
    simpa using hown
theorem cloneMove_any (A : Option Addr) (n c : Nat) (l : List QMove) (w : World) (hs : SlB 5 56 qMoveR w (.slice A n c) l) :
    Calls Try.prog 78 #[.slice A n c] w (RetRow 71 5 qMoveR l w) := cloneMove_g qMoveR_one A n c l w hs

theorem Try.infoRef : (Try.prog.info? 76).map (fun i => (i.zero, i.size, i.bytes)) = some (some (.agg #[.string ⟨#[]⟩, .string ⟨#[]⟩, .int .i64 0, .int .i64 0]), 4, 48) := by kernel_rfl
theorem cloneRef_g {α : Type} {R : World → List Value → α → Prop} (hone : One R) (A : Option Addr) (n c : Nat) (l : List α) (w : World) (hs : SlB 4 48 R w (.slice A n c) l) :
    Calls Try.prog 79 #[.slice A n c] w (RetRow 76 4 R l w) := by
  have hlen := hs.1.len
  have hbd := hs.2
  have HS := Lib.hid hs.1
  clear hs
  rcases A with _ | ad
  · have hl : l = [] := by
      obtain ⟨cs, hcs, _⟩ := HS.out.cells
      cases l with
      | nil => rfl
      | cons x r => obtain ⟨b, off, x, cs, e, _⟩ := HS.out.at_ (k := 0) (by rw [hlen]; simp); cases e
    subst hl
    obtain rfl : n = 0 := by simpa using hlen
    clear hlen hbd
    have hnil := fun w : World => Lib.run_eql_slice_nil (P := Try.prog) w 72 76 none 0 c 0 0 Try.underlying72
    simp only [Option.isNone_none] at hnil
    go_enter Try.func79, Try.ntmps79
    go_wp2
    go_ret
    exact ⟨_, [], rfl, CellsR.nil, World.ownsRow_nil _ _ _ _, Below.refl _ _⟩
  · obtain ⟨i0, hi, hz0, hz1, hz2⟩ := info_parts Try.infoRef
    have HLEN := Lib.hid hlen
    clear hlen
    have hnb : n * 48 ≤ 140737488355328 := by rw [HLEN.out]; exact hbd
    have hnil := fun w : World => Lib.run_eql_slice_nil (P := Try.prog) w 72 76 (some ad) n c 0 0 Try.underlying72
    simp only [Option.isNone_some] at hnil
    go_enter Try.func79, Try.ntmps79
    go_wp2_with (at_builtin; refine wpList_append_row _ rfl (.tmp 5) (.tmp 6) 72 76 rfl i0 _ 48 Try.underlying72 hi hz0 hz1 hz2 rfl (by decide) (R := fun _ => R w) (fun _ => hone w) w.heap.size (.slice (some ⟨w.heap.size, 0, none⟩) 0 0) 0 [] rfl (World.ownsRow_lit w #[] 0 (Nat.le_refl _) (Nat.zero_le _) rfl) (some ad) n c l rfl (HS.out.fix ((Below.refl _ _).alloc (Nat.le_refl _) _)) (by unfold maxLen; omega) (by omega) (by simp) ?_; intro v' w1 cs hcs hown hgr hat)
    go_ret
    refine ⟨v', cs, rfl, hcs, ?_, ((Below.refl _ _).alloc (Nat.le_refl _) _).grown hgr (by simp) (by simp [Value.ownBlock])⟩
    rw [← HLEN.out]
    simpa using hown
theorem cloneRef_any (A : Option Addr) (n c : Nat) (l : List QRef) (w : World) (hs : SlB 4 48 qRefR w (.slice A n c) l) :
    Calls Try.prog 79 #[.slice A n c] w (RetRow 76 4 qRefR l w) := cloneRef_g qRefR_one A n c l w hs

end Go.Proofs.Ytkkkephjljiplaa
