/- Contracts of slices.Clone, each instance. Written by gencl.py. -/
import Derived.Test.YtkgmonplcdnnbaaGreatPm19
import Derived.WalkSpells
namespace Go.Proofs.YtkgmonplcdnnbaaGreat
open Go.RowKit
def RetRow {α : Type} (t : TypeId) (sz : Nat) (R : World → List Value → α → Prop) (l : List α) (w : World) (e : Ending) (w' : World) : Prop :=
 ∃ v cs, e = .returned v ∧ CellsR sz R w cs l ∧ w'.ownsRow w.heap.size t sz v l.length cs ∧ Below w.heap.size w w'
theorem Tryz.infoStr : (Tryz.prog.info? 9).map (fun i => (i.zero, i.size, i.bytes)) = some (some (.string ⟨#[]⟩), 1, 16) := by kernel_rfl
theorem cloneStr_g {α : Type} {R : World → List Value → α → Prop} (hone : One R) (A : Option Addr) (n c : Nat) (l : List α) (w : World) (hs : SlB 1 16 R w (.slice A n c) l) :
 Calls Tryz.prog 116 #[.slice A n c] w (RetRow 9 1 R l w) := by
 have hlen := hs.1.len
 have hbd := hs.2
 have HS := Lib.hid hs.1
 clear hs
 rcases A with _ | ad
 ·
  have hl : l = [] := by
   obtain ⟨cs, hcs, _⟩ := HS.out.cells
   cases l with
   | nil => rfl
   | cons x r => obtain ⟨b, off, x, cs, e, _⟩ := HS.out.at_ (k := 0) (by rw [hlen]; simp); cases e
  subst hl
  obtain rfl : n = 0 := by simpa using hlen
  clear hlen hbd
  have hnil := fun w : World => Lib.run_eql_slice_nil (P := Tryz.prog) w 22 9 none 0 c 0 0 Tryz.underlying22
  simp only [Option.isNone_none] at hnil
  go_enter Tryz.func116, Tryz.ntmps116
  go_wp2
  go_ret
  exact ⟨_, [], rfl, CellsR.nil, World.ownsRow_nil _ _ _ _, Below.refl _ _⟩
 ·
  obtain ⟨i0, hi, hz0, hz1, hz2⟩ := info_parts Tryz.infoStr
  have HLEN := Lib.hid hlen
  clear hlen
  have hnb : n * 16 ≤ 140737488355328 := by rw [HLEN.out]; exact hbd
  have hnil := fun w : World => Lib.run_eql_slice_nil (P := Tryz.prog) w 22 9 (some ad) n c 0 0 Tryz.underlying22
  simp only [Option.isNone_some] at hnil
  go_enter Tryz.func116, Tryz.ntmps116
  go_wp2_with (at_builtin; refine wpList_append_row _ rfl (.tmp 5) (.tmp 6) 22 9 rfl i0 _ 16 Tryz.underlying22 hi hz0 hz1 hz2 rfl (by decide) (R := fun _ => R w) (fun _ => hone w) w.heap.size (.slice (some ⟨w.heap.size, 0, none⟩) 0 0) 0 [] rfl (World.ownsRow_lit w #[] 0 (Nat.le_refl _) (Nat.zero_le _) rfl) (some ad) n c l rfl (HS.out.fix ((Below.refl _ _).alloc (Nat.le_refl _) _)) (by unfold maxLen; omega) (by omega) (by simp) ?_; intro v' w1 cs hcs hown hgr hat)
  go_ret
  refine ⟨v', cs, rfl, hcs, ?_, ((Below.refl _ _).alloc (Nat.le_refl _) _).grown hgr (by simp) (by simp [Value.ownBlock])⟩
  rw [← HLEN.out]
  simpa using hown
theorem Tryz.infoUnit : (Tryz.prog.info? 116).map (fun i => (i.zero, i.size, i.bytes)) = some (some (.agg #[.string ⟨#[]⟩, .string ⟨#[]⟩, .int .i64 0, .int .i64 0, .int .i64 0]), 5, 56) := by kernel_rfl
theorem cloneUnit_g {α : Type} {R : World → List Value → α → Prop} (hone : One R) (A : Option Addr) (n c : Nat) (l : List α) (w : World) (hs : SlB 5 56 R w (.slice A n c) l) :
 Calls Tryz.prog 117 #[.slice A n c] w (RetRow 116 5 R l w) := by
 have hlen := hs.1.len
 have hbd := hs.2
 have HS := Lib.hid hs.1
 clear hs
 rcases A with _ | ad
 ·
  have hl : l = [] := by
   obtain ⟨cs, hcs, _⟩ := HS.out.cells
   cases l with
   | nil => rfl
   | cons x r => obtain ⟨b, off, x, cs, e, _⟩ := HS.out.at_ (k := 0) (by rw [hlen]; simp); cases e
  subst hl
  obtain rfl : n = 0 := by simpa using hlen
  clear hlen hbd
  have hnil := fun w : World => Lib.run_eql_slice_nil (P := Tryz.prog) w 23 116 none 0 c 0 0 Tryz.underlying23
  simp only [Option.isNone_none] at hnil
  go_enter Tryz.func117, Tryz.ntmps117
  go_wp2
  go_ret
  exact ⟨_, [], rfl, CellsR.nil, World.ownsRow_nil _ _ _ _, Below.refl _ _⟩
 ·
  obtain ⟨i0, hi, hz0, hz1, hz2⟩ := info_parts Tryz.infoUnit
  have HLEN := Lib.hid hlen
  clear hlen
  have hnb : n * 56 ≤ 140737488355328 := by rw [HLEN.out]; exact hbd
  have hnil := fun w : World => Lib.run_eql_slice_nil (P := Tryz.prog) w 23 116 (some ad) n c 0 0 Tryz.underlying23
  simp only [Option.isNone_some] at hnil
  go_enter Tryz.func117, Tryz.ntmps117
  go_wp2_with (at_builtin; refine wpList_append_row _ rfl (.tmp 5) (.tmp 6) 23 116 rfl i0 _ 56 Tryz.underlying23 hi hz0 hz1 hz2 rfl (by decide) (R := fun _ => R w) (fun _ => hone w) w.heap.size (.slice (some ⟨w.heap.size, 0, none⟩) 0 0) 0 [] rfl (World.ownsRow_lit w #[] 0 (Nat.le_refl _) (Nat.zero_le _) rfl) (some ad) n c l rfl (HS.out.fix ((Below.refl _ _).alloc (Nat.le_refl _) _)) (by unfold maxLen; omega) (by omega) (by simp) ?_; intro v' w1 cs hcs hown hgr hat)
  go_ret
  refine ⟨v', cs, rfl, hcs, ?_, ((Below.refl _ _).alloc (Nat.le_refl _) _).grown hgr (by simp) (by simp [Value.ownBlock])⟩
  rw [← HLEN.out]
  simpa using hown
theorem Tryz.infoSchema : (Tryz.prog.info? 52).map (fun i => (i.zero, i.size, i.bytes)) = some (some (.agg #[.string ⟨#[]⟩, .string ⟨#[]⟩, .int .i64 0, .int .i64 0, .slice none 0 0, .slice none 0 0]), 6, 96) := by kernel_rfl
theorem cloneSchema_g {α : Type} {R : World → List Value → α → Prop} (hone : One R) (A : Option Addr) (n c : Nat) (l : List α) (w : World) (hs : SlB 6 96 R w (.slice A n c) l) :
 Calls Tryz.prog 118 #[.slice A n c] w (RetRow 52 6 R l w) := by
 have hlen := hs.1.len
 have hbd := hs.2
 have HS := Lib.hid hs.1
 clear hs
 rcases A with _ | ad
 ·
  have hl : l = [] := by
   obtain ⟨cs, hcs, _⟩ := HS.out.cells
   cases l with
   | nil => rfl
   | cons x r => obtain ⟨b, off, x, cs, e, _⟩ := HS.out.at_ (k := 0) (by rw [hlen]; simp); cases e
  subst hl
  obtain rfl : n = 0 := by simpa using hlen
  clear hlen hbd
  have hnil := fun w : World => Lib.run_eql_slice_nil (P := Tryz.prog) w 24 52 none 0 c 0 0 Tryz.underlying24
  simp only [Option.isNone_none] at hnil
  go_enter Tryz.func118, Tryz.ntmps118
  go_wp2
  go_ret
  exact ⟨_, [], rfl, CellsR.nil, World.ownsRow_nil _ _ _ _, Below.refl _ _⟩
 ·
  obtain ⟨i0, hi, hz0, hz1, hz2⟩ := info_parts Tryz.infoSchema
  have HLEN := Lib.hid hlen
  clear hlen
  have hnb : n * 96 ≤ 140737488355328 := by rw [HLEN.out]; exact hbd
  have hnil := fun w : World => Lib.run_eql_slice_nil (P := Tryz.prog) w 24 52 (some ad) n c 0 0 Tryz.underlying24
  simp only [Option.isNone_some] at hnil
  go_enter Tryz.func118, Tryz.ntmps118
  go_wp2_with (at_builtin; refine wpList_append_row _ rfl (.tmp 5) (.tmp 6) 24 52 rfl i0 _ 96 Tryz.underlying24 hi hz0 hz1 hz2 rfl (by decide) (R := fun _ => R w) (fun _ => hone w) w.heap.size (.slice (some ⟨w.heap.size, 0, none⟩) 0 0) 0 [] rfl (World.ownsRow_lit w #[] 0 (Nat.le_refl _) (Nat.zero_le _) rfl) (some ad) n c l rfl (HS.out.fix ((Below.refl _ _).alloc (Nat.le_refl _) _)) (by unfold maxLen; omega) (by omega) (by simp) ?_; intro v' w1 cs hcs hown hgr hat)
  go_ret
  refine ⟨v', cs, rfl, hcs, ?_, ((Below.refl _ _).alloc (Nat.le_refl _) _).grown hgr (by simp) (by simp [Value.ownBlock])⟩
  rw [← HLEN.out]
  simpa using hown
theorem Tryz.infoRule : (Tryz.prog.info? 83).map (fun i => (i.zero, i.size, i.bytes)) = some (some (.agg #[.string ⟨#[]⟩, .int .i64 0, .slice none 0 0, .slice none 0 0, .slice none 0 0]), 5, 96) := by kernel_rfl
theorem cloneRule_g {α : Type} {R : World → List Value → α → Prop} (hone : One R) (A : Option Addr) (n c : Nat) (l : List α) (w : World) (hs : SlB 5 96 R w (.slice A n c) l) :
 Calls Tryz.prog 119 #[.slice A n c] w (RetRow 83 5 R l w) := by
 have hlen := hs.1.len
 have hbd := hs.2
 have HS := Lib.hid hs.1
 clear hs
 rcases A with _ | ad
 ·
  have hl : l = [] := by
   obtain ⟨cs, hcs, _⟩ := HS.out.cells
   cases l with
   | nil => rfl
   | cons x r => obtain ⟨b, off, x, cs, e, _⟩ := HS.out.at_ (k := 0) (by rw [hlen]; simp); cases e
  subst hl
  obtain rfl : n = 0 := by simpa using hlen
  clear hlen hbd
  have hnil := fun w : World => Lib.run_eql_slice_nil (P := Tryz.prog) w 25 83 none 0 c 0 0 Tryz.underlying25
  simp only [Option.isNone_none] at hnil
  go_enter Tryz.func119, Tryz.ntmps119
  go_wp2
  go_ret
  exact ⟨_, [], rfl, CellsR.nil, World.ownsRow_nil _ _ _ _, Below.refl _ _⟩
 ·
  obtain ⟨i0, hi, hz0, hz1, hz2⟩ := info_parts Tryz.infoRule
  have HLEN := Lib.hid hlen
  clear hlen
  have hnb : n * 96 ≤ 140737488355328 := by rw [HLEN.out]; exact hbd
  have hnil := fun w : World => Lib.run_eql_slice_nil (P := Tryz.prog) w 25 83 (some ad) n c 0 0 Tryz.underlying25
  simp only [Option.isNone_some] at hnil
  go_enter Tryz.func119, Tryz.ntmps119
  go_wp2_with (at_builtin; refine wpList_append_row _ rfl (.tmp 5) (.tmp 6) 25 83 rfl i0 _ 96 Tryz.underlying25 hi hz0 hz1 hz2 rfl (by decide) (R := fun _ => R w) (fun _ => hone w) w.heap.size (.slice (some ⟨w.heap.size, 0, none⟩) 0 0) 0 [] rfl (World.ownsRow_lit w #[] 0 (Nat.le_refl _) (Nat.zero_le _) rfl) (some ad) n c l rfl (HS.out.fix ((Below.refl _ _).alloc (Nat.le_refl _) _)) (by unfold maxLen; omega) (by omega) (by simp) ?_; intro v' w1 cs hcs hown hgr hat)
  go_ret
  refine ⟨v', cs, rfl, hcs, ?_, ((Below.refl _ _).alloc (Nat.le_refl _) _).grown hgr (by simp) (by simp [Value.ownBlock])⟩
  rw [← HLEN.out]
  simpa using hown
theorem Tryz.infoConvert : (Tryz.prog.info? 86).map (fun i => (i.zero, i.size, i.bytes)) = some (some (.agg #[.string ⟨#[]⟩, .string ⟨#[]⟩, .int .i64 0, .int .i64 0, .slice none 0 0]), 5, 72) := by kernel_rfl
theorem cloneConvert_g {α : Type} {R : World → List Value → α → Prop} (hone : One R) (A : Option Addr) (n c : Nat) (l : List α) (w : World) (hs : SlB 5 72 R w (.slice A n c) l) :
 Calls Tryz.prog 120 #[.slice A n c] w (RetRow 86 5 R l w) := by
 have hlen := hs.1.len
 have hbd := hs.2
 have HS := Lib.hid hs.1
 clear hs
 rcases A with _ | ad
 ·
  have hl : l = [] := by
   obtain ⟨cs, hcs, _⟩ := HS.out.cells
   cases l with
   | nil => rfl
   | cons x r => obtain ⟨b, off, x, cs, e, _⟩ := HS.out.at_ (k := 0) (by rw [hlen]; simp); cases e
  subst hl
  obtain rfl : n = 0 := by simpa using hlen
  clear hlen hbd
  have hnil := fun w : World => Lib.run_eql_slice_nil (P := Tryz.prog) w 26 86 none 0 c 0 0 Tryz.underlying26
  simp only [Option.isNone_none] at hnil
  go_enter Tryz.func120, Tryz.ntmps120
  go_wp2
  go_ret
  exact ⟨_, [], rfl, CellsR.nil, World.ownsRow_nil _ _ _ _, Below.refl _ _⟩
 ·
  obtain ⟨i0, hi, hz0, hz1, hz2⟩ := info_parts Tryz.infoConvert
  have HLEN := Lib.hid hlen
  clear hlen
  have hnb : n * 72 ≤ 140737488355328 := by rw [HLEN.out]; exact hbd
  have hnil := fun w : World => Lib.run_eql_slice_nil (P := Tryz.prog) w 26 86 (some ad) n c 0 0 Tryz.underlying26
  simp only [Option.isNone_some] at hnil
  go_enter Tryz.func120, Tryz.ntmps120
  go_wp2_with (at_builtin; refine wpList_append_row _ rfl (.tmp 5) (.tmp 6) 26 86 rfl i0 _ 72 Tryz.underlying26 hi hz0 hz1 hz2 rfl (by decide) (R := fun _ => R w) (fun _ => hone w) w.heap.size (.slice (some ⟨w.heap.size, 0, none⟩) 0 0) 0 [] rfl (World.ownsRow_lit w #[] 0 (Nat.le_refl _) (Nat.zero_le _) rfl) (some ad) n c l rfl (HS.out.fix ((Below.refl _ _).alloc (Nat.le_refl _) _)) (by unfold maxLen; omega) (by omega) (by simp) ?_; intro v' w1 cs hcs hown hgr hat)
  go_ret
  refine ⟨v', cs, rfl, hcs, ?_, ((Below.refl _ _).alloc (Nat.le_refl _) _).grown hgr (by simp) (by simp [Value.ownBlock])⟩
  rw [← HLEN.out]
  simpa using hown
theorem Tryz.infoPurpose : (Tryz.prog.info? 89).map (fun i => (i.zero, i.size, i.bytes)) = some (some (.agg #[.string ⟨#[]⟩, .slice none 0 0, .int .i64 0]), 3, 48) := by kernel_rfl
theorem clonePurpose_g {α : Type} {R : World → List Value → α → Prop} (hone : One R) (A : Option Addr) (n c : Nat) (l : List α) (w : World) (hs : SlB 3 48 R w (.slice A n c) l) :
 Calls Tryz.prog 121 #[.slice A n c] w (RetRow 89 3 R l w) := by
 have hlen := hs.1.len
 have hbd := hs.2
 have HS := Lib.hid hs.1
 clear hs
 rcases A with _ | ad
 ·
  have hl : l = [] := by
   obtain ⟨cs, hcs, _⟩ := HS.out.cells
   cases l with
   | nil => rfl
   | cons x r => obtain ⟨b, off, x, cs, e, _⟩ := HS.out.at_ (k := 0) (by rw [hlen]; simp); cases e
  subst hl
  obtain rfl : n = 0 := by simpa using hlen
  clear hlen hbd
  have hnil := fun w : World => Lib.run_eql_slice_nil (P := Tryz.prog) w 27 89 none 0 c 0 0 Tryz.underlying27
  simp only [Option.isNone_none] at hnil
  go_enter Tryz.func121, Tryz.ntmps121
  go_wp2
  go_ret
  exact ⟨_, [], rfl, CellsR.nil, World.ownsRow_nil _ _ _ _, Below.refl _ _⟩
 ·
  obtain ⟨i0, hi, hz0, hz1, hz2⟩ := info_parts Tryz.infoPurpose
  have HLEN := Lib.hid hlen
  clear hlen
  have hnb : n * 48 ≤ 140737488355328 := by rw [HLEN.out]; exact hbd
  have hnil := fun w : World => Lib.run_eql_slice_nil (P := Tryz.prog) w 27 89 (some ad) n c 0 0 Tryz.underlying27
  simp only [Option.isNone_some] at hnil
  go_enter Tryz.func121, Tryz.ntmps121
  go_wp2_with (at_builtin; refine wpList_append_row _ rfl (.tmp 5) (.tmp 6) 27 89 rfl i0 _ 48 Tryz.underlying27 hi hz0 hz1 hz2 rfl (by decide) (R := fun _ => R w) (fun _ => hone w) w.heap.size (.slice (some ⟨w.heap.size, 0, none⟩) 0 0) 0 [] rfl (World.ownsRow_lit w #[] 0 (Nat.le_refl _) (Nat.zero_le _) rfl) (some ad) n c l rfl (HS.out.fix ((Below.refl _ _).alloc (Nat.le_refl _) _)) (by unfold maxLen; omega) (by omega) (by simp) ?_; intro v' w1 cs hcs hown hgr hat)
  go_ret
  refine ⟨v', cs, rfl, hcs, ?_, ((Below.refl _ _).alloc (Nat.le_refl _) _).grown hgr (by simp) (by simp [Value.ownBlock])⟩
  rw [← HLEN.out]
  simpa using hown
theorem Tryz.infoField : (Tryz.prog.info? 58).map (fun i => (i.zero, i.size, i.bytes)) = some (some (.agg #[.string ⟨#[]⟩, .int .i64 0, .int .i64 0, .int .i64 0, .string ⟨#[]⟩, .int .i64 0, .slice none 0 0, .int .i64 0, .int .i64 0, .int .i64 0, .int .i64 0]), 11, 120) := by kernel_rfl
theorem cloneField_g {α : Type} {R : World → List Value → α → Prop} (hone : One R) (A : Option Addr) (n c : Nat) (l : List α) (w : World) (hs : SlB 11 120 R w (.slice A n c) l) :
 Calls Tryz.prog 190 #[.slice A n c] w (RetRow 58 11 R l w) := by
 have hlen := hs.1.len
 have hbd := hs.2
 have HS := Lib.hid hs.1
 clear hs
 rcases A with _ | ad
 ·
  have hl : l = [] := by
   obtain ⟨cs, hcs, _⟩ := HS.out.cells
   cases l with
   | nil => rfl
   | cons x r => obtain ⟨b, off, x, cs, e, _⟩ := HS.out.at_ (k := 0) (by rw [hlen]; simp); cases e
  subst hl
  obtain rfl : n = 0 := by simpa using hlen
  clear hlen hbd
  have hnil := fun w : World => Lib.run_eql_slice_nil (P := Tryz.prog) w 49 58 none 0 c 0 0 Tryz.underlying49
  simp only [Option.isNone_none] at hnil
  go_enter Tryz.func190, Tryz.ntmps190
  go_wp2
  go_ret
  exact ⟨_, [], rfl, CellsR.nil, World.ownsRow_nil _ _ _ _, Below.refl _ _⟩
 ·
  obtain ⟨i0, hi, hz0, hz1, hz2⟩ := info_parts Tryz.infoField
  have HLEN := Lib.hid hlen
  clear hlen
  have hnb : n * 120 ≤ 140737488355328 := by rw [HLEN.out]; exact hbd
  have hnil := fun w : World => Lib.run_eql_slice_nil (P := Tryz.prog) w 49 58 (some ad) n c 0 0 Tryz.underlying49
  simp only [Option.isNone_some] at hnil
  go_enter Tryz.func190, Tryz.ntmps190
  go_wp2_with (at_builtin; refine wpList_append_row _ rfl (.tmp 5) (.tmp 6) 49 58 rfl i0 _ 120 Tryz.underlying49 hi hz0 hz1 hz2 rfl (by decide) (R := fun _ => R w) (fun _ => hone w) w.heap.size (.slice (some ⟨w.heap.size, 0, none⟩) 0 0) 0 [] rfl (World.ownsRow_lit w #[] 0 (Nat.le_refl _) (Nat.zero_le _) rfl) (some ad) n c l rfl (HS.out.fix ((Below.refl _ _).alloc (Nat.le_refl _) _)) (by unfold maxLen; omega) (by omega) (by simp) ?_; intro v' w1 cs hcs hown hgr hat)
  go_ret
  refine ⟨v', cs, rfl, hcs, ?_, ((Below.refl _ _).alloc (Nat.le_refl _) _).grown hgr (by simp) (by simp [Value.ownBlock])⟩
  rw [← HLEN.out]
  simpa using hown
theorem Tryz.infoDep : (Tryz.prog.info? 75).map (fun i => (i.zero, i.size, i.bytes)) = some (some (.agg #[.slice none 0 0, .string ⟨#[]⟩, .slice none 0 0, .int .i64 0]), 4, 72) := by kernel_rfl
theorem cloneDep_g {α : Type} {R : World → List Value → α → Prop} (hone : One R) (A : Option Addr) (n c : Nat) (l : List α) (w : World) (hs : SlB 4 72 R w (.slice A n c) l) :
 Calls Tryz.prog 191 #[.slice A n c] w (RetRow 75 4 R l w) := by
 have hlen := hs.1.len
 have hbd := hs.2
 have HS := Lib.hid hs.1
 clear hs
 rcases A with _ | ad
 ·
  have hl : l = [] := by
   obtain ⟨cs, hcs, _⟩ := HS.out.cells
   cases l with
   | nil => rfl
   | cons x r => obtain ⟨b, off, x, cs, e, _⟩ := HS.out.at_ (k := 0) (by rw [hlen]; simp); cases e
  subst hl
  obtain rfl : n = 0 := by simpa using hlen
  clear hlen hbd
  have hnil := fun w : World => Lib.run_eql_slice_nil (P := Tryz.prog) w 50 75 none 0 c 0 0 Tryz.underlying50
  simp only [Option.isNone_none] at hnil
  go_enter Tryz.func191, Tryz.ntmps191
  go_wp2
  go_ret
  exact ⟨_, [], rfl, CellsR.nil, World.ownsRow_nil _ _ _ _, Below.refl _ _⟩
 ·
  obtain ⟨i0, hi, hz0, hz1, hz2⟩ := info_parts Tryz.infoDep
  have HLEN := Lib.hid hlen
  clear hlen
  have hnb : n * 72 ≤ 140737488355328 := by rw [HLEN.out]; exact hbd
  have hnil := fun w : World => Lib.run_eql_slice_nil (P := Tryz.prog) w 50 75 (some ad) n c 0 0 Tryz.underlying50
  simp only [Option.isNone_some] at hnil
  go_enter Tryz.func191, Tryz.ntmps191
  go_wp2_with (at_builtin; refine wpList_append_row _ rfl (.tmp 5) (.tmp 6) 50 75 rfl i0 _ 72 Tryz.underlying50 hi hz0 hz1 hz2 rfl (by decide) (R := fun _ => R w) (fun _ => hone w) w.heap.size (.slice (some ⟨w.heap.size, 0, none⟩) 0 0) 0 [] rfl (World.ownsRow_lit w #[] 0 (Nat.le_refl _) (Nat.zero_le _) rfl) (some ad) n c l rfl (HS.out.fix ((Below.refl _ _).alloc (Nat.le_refl _) _)) (by unfold maxLen; omega) (by omega) (by simp) ?_; intro v' w1 cs hcs hown hgr hat)
  go_ret
  refine ⟨v', cs, rfl, hcs, ?_, ((Below.refl _ _).alloc (Nat.le_refl _) _).grown hgr (by simp) (by simp [Value.ownBlock])⟩
  rw [← HLEN.out]
  simpa using hown
theorem Tryz.infoFrom : (Tryz.prog.info? 205).map (fun i => (i.zero, i.size, i.bytes)) = some (some (.agg #[.string ⟨#[]⟩, .string ⟨#[]⟩, .int .i64 0, .string ⟨#[]⟩, .string ⟨#[]⟩, .int .i64 0, .int .i64 0, .int .i64 0]), 8, 96) := by kernel_rfl
theorem cloneFrom_g {α : Type} {R : World → List Value → α → Prop} (hone : One R) (A : Option Addr) (n c : Nat) (l : List α) (w : World) (hs : SlB 8 96 R w (.slice A n c) l) :
 Calls Tryz.prog 192 #[.slice A n c] w (RetRow 205 8 R l w) := by
 have hlen := hs.1.len
 have hbd := hs.2
 have HS := Lib.hid hs.1
 clear hs
 rcases A with _ | ad
 ·
  have hl : l = [] := by
   obtain ⟨cs, hcs, _⟩ := HS.out.cells
   cases l with
   | nil => rfl
   | cons x r => obtain ⟨b, off, x, cs, e, _⟩ := HS.out.at_ (k := 0) (by rw [hlen]; simp); cases e
  subst hl
  obtain rfl : n = 0 := by simpa using hlen
  clear hlen hbd
  have hnil := fun w : World => Lib.run_eql_slice_nil (P := Tryz.prog) w 79 205 none 0 c 0 0 Tryz.underlying79
  simp only [Option.isNone_none] at hnil
  go_enter Tryz.func192, Tryz.ntmps192
  go_wp2
  go_ret
  exact ⟨_, [], rfl, CellsR.nil, World.ownsRow_nil _ _ _ _, Below.refl _ _⟩
 ·
  obtain ⟨i0, hi, hz0, hz1, hz2⟩ := info_parts Tryz.infoFrom
  have HLEN := Lib.hid hlen
  clear hlen
  have hnb : n * 96 ≤ 140737488355328 := by rw [HLEN.out]; exact hbd
  have hnil := fun w : World => Lib.run_eql_slice_nil (P := Tryz.prog) w 79 205 (some ad) n c 0 0 Tryz.underlying79
  simp only [Option.isNone_some] at hnil
  go_enter Tryz.func192, Tryz.ntmps192
  go_wp2_with (at_builtin; refine wpList_append_row _ rfl (.tmp 5) (.tmp 6) 79 205 rfl i0 _ 96 Tryz.underlying79 hi hz0 hz1 hz2 rfl (by decide) (R := fun _ => R w) (fun _ => hone w) w.heap.size (.slice (some ⟨w.heap.size, 0, none⟩) 0 0) 0 [] rfl (World.ownsRow_lit w #[] 0 (Nat.le_refl _) (Nat.zero_le _) rfl) (some ad) n c l rfl (HS.out.fix ((Below.refl _ _).alloc (Nat.le_refl _) _)) (by unfold maxLen; omega) (by omega) (by simp) ?_; intro v' w1 cs hcs hown hgr hat)
  go_ret
  refine ⟨v', cs, rfl, hcs, ?_, ((Below.refl _ _).alloc (Nat.le_refl _) _).grown hgr (by simp) (by simp [Value.ownBlock])⟩
  rw [← HLEN.out]
  simpa using hown
theorem cloneFrom_any (A : Option Addr) (n c : Nat) (l : List QFrom) (w : World) (hs : SlB 8 96 qFromR w (.slice A n c) l) :
 Calls Tryz.prog 192 #[.slice A n c] w (RetRow 205 8 qFromR l w) := cloneFrom_g qFromR_one A n c l w hs
theorem Tryz.infoAtom : (Tryz.prog.info? 192).map (fun i => (i.zero, i.size, i.bytes)) = some (some (.agg #[.int .i64 0, .string ⟨#[]⟩, .string ⟨#[]⟩, .int .i64 0, .int .i64 0, .int .i64 0, .string ⟨#[]⟩, .string ⟨#[]⟩, .int .i64 0, .int .i64 0, .int .i64 0]), 11, 120) := by kernel_rfl
theorem cloneAtom_g {α : Type} {R : World → List Value → α → Prop} (hone : One R) (A : Option Addr) (n c : Nat) (l : List α) (w : World) (hs : SlB 11 120 R w (.slice A n c) l) :
 Calls Tryz.prog 194 #[.slice A n c] w (RetRow 192 11 R l w) := by
 have hlen := hs.1.len
 have hbd := hs.2
 have HS := Lib.hid hs.1
 clear hs
 rcases A with _ | ad
 ·
  have hl : l = [] := by
   obtain ⟨cs, hcs, _⟩ := HS.out.cells
   cases l with
   | nil => rfl
   | cons x r => obtain ⟨b, off, x, cs, e, _⟩ := HS.out.at_ (k := 0) (by rw [hlen]; simp); cases e
  subst hl
  obtain rfl : n = 0 := by simpa using hlen
  clear hlen hbd
  have hnil := fun w : World => Lib.run_eql_slice_nil (P := Tryz.prog) w 80 192 none 0 c 0 0 Tryz.underlying80
  simp only [Option.isNone_none] at hnil
  go_enter Tryz.func194, Tryz.ntmps194
  go_wp2
  go_ret
  exact ⟨_, [], rfl, CellsR.nil, World.ownsRow_nil _ _ _ _, Below.refl _ _⟩
 ·
  obtain ⟨i0, hi, hz0, hz1, hz2⟩ := info_parts Tryz.infoAtom
  have HLEN := Lib.hid hlen
  clear hlen
  have hnb : n * 120 ≤ 140737488355328 := by rw [HLEN.out]; exact hbd
  have hnil := fun w : World => Lib.run_eql_slice_nil (P := Tryz.prog) w 80 192 (some ad) n c 0 0 Tryz.underlying80
  simp only [Option.isNone_some] at hnil
  go_enter Tryz.func194, Tryz.ntmps194
  go_wp2_with (at_builtin; refine wpList_append_row _ rfl (.tmp 5) (.tmp 6) 80 192 rfl i0 _ 120 Tryz.underlying80 hi hz0 hz1 hz2 rfl (by decide) (R := fun _ => R w) (fun _ => hone w) w.heap.size (.slice (some ⟨w.heap.size, 0, none⟩) 0 0) 0 [] rfl (World.ownsRow_lit w #[] 0 (Nat.le_refl _) (Nat.zero_le _) rfl) (some ad) n c l rfl (HS.out.fix ((Below.refl _ _).alloc (Nat.le_refl _) _)) (by unfold maxLen; omega) (by omega) (by simp) ?_; intro v' w1 cs hcs hown hgr hat)
  go_ret
  refine ⟨v', cs, rfl, hcs, ?_, ((Below.refl _ _).alloc (Nat.le_refl _) _).grown hgr (by simp) (by simp [Value.ownBlock])⟩
  rw [← HLEN.out]
  simpa using hown
theorem cloneAtom_any (A : Option Addr) (n c : Nat) (l : List QAtom) (w : World) (hs : SlB 11 120 qAtomR w (.slice A n c) l) :
 Calls Tryz.prog 194 #[.slice A n c] w (RetRow 192 11 qAtomR l w) := cloneAtom_g qAtomR_one A n c l w hs
theorem Tryz.infoSet : (Tryz.prog.info? 195).map (fun i => (i.zero, i.size, i.bytes)) = some (some (.agg #[.string ⟨#[]⟩, .int .i64 0, .string ⟨#[]⟩, .string ⟨#[]⟩, .int .i64 0, .int .i64 0, .int .i64 0]), 7, 80) := by kernel_rfl
theorem cloneSet_g {α : Type} {R : World → List Value → α → Prop} (hone : One R) (A : Option Addr) (n c : Nat) (l : List α) (w : World) (hs : SlB 7 80 R w (.slice A n c) l) :
 Calls Tryz.prog 195 #[.slice A n c] w (RetRow 195 7 R l w) := by
 have hlen := hs.1.len
 have hbd := hs.2
 have HS := Lib.hid hs.1
 clear hs
 rcases A with _ | ad
 ·
  have hl : l = [] := by
   obtain ⟨cs, hcs, _⟩ := HS.out.cells
   cases l with
   | nil => rfl
   | cons x r => obtain ⟨b, off, x, cs, e, _⟩ := HS.out.at_ (k := 0) (by rw [hlen]; simp); cases e
  subst hl
  obtain rfl : n = 0 := by simpa using hlen
  clear hlen hbd
  have hnil := fun w : World => Lib.run_eql_slice_nil (P := Tryz.prog) w 81 195 none 0 c 0 0 Tryz.underlying81
  simp only [Option.isNone_none] at hnil
  go_enter Tryz.func195, Tryz.ntmps195
  go_wp2
  go_ret
  exact ⟨_, [], rfl, CellsR.nil, World.ownsRow_nil _ _ _ _, Below.refl _ _⟩
 ·
  obtain ⟨i0, hi, hz0, hz1, hz2⟩ := info_parts Tryz.infoSet
  have HLEN := Lib.hid hlen
  clear hlen
  have hnb : n * 80 ≤ 140737488355328 := by rw [HLEN.out]; exact hbd
  have hnil := fun w : World => Lib.run_eql_slice_nil (P := Tryz.prog) w 81 195 (some ad) n c 0 0 Tryz.underlying81
  simp only [Option.isNone_some] at hnil
  go_enter Tryz.func195, Tryz.ntmps195
  go_wp2_with (at_builtin; refine wpList_append_row _ rfl (.tmp 5) (.tmp 6) 81 195 rfl i0 _ 80 Tryz.underlying81 hi hz0 hz1 hz2 rfl (by decide) (R := fun _ => R w) (fun _ => hone w) w.heap.size (.slice (some ⟨w.heap.size, 0, none⟩) 0 0) 0 [] rfl (World.ownsRow_lit w #[] 0 (Nat.le_refl _) (Nat.zero_le _) rfl) (some ad) n c l rfl (HS.out.fix ((Below.refl _ _).alloc (Nat.le_refl _) _)) (by unfold maxLen; omega) (by omega) (by simp) ?_; intro v' w1 cs hcs hown hgr hat)
  go_ret
  refine ⟨v', cs, rfl, hcs, ?_, ((Below.refl _ _).alloc (Nat.le_refl _) _).grown hgr (by simp) (by simp [Value.ownBlock])⟩
  rw [← HLEN.out]
  simpa using hown
theorem cloneSet_any (A : Option Addr) (n c : Nat) (l : List QSet) (w : World) (hs : SlB 7 80 qSetR w (.slice A n c) l) :
 Calls Tryz.prog 195 #[.slice A n c] w (RetRow 195 7 qSetR l w) := cloneSet_g qSetR_one A n c l w hs
theorem Tryz.infoMove : (Tryz.prog.info? 202).map (fun i => (i.zero, i.size, i.bytes)) = some (some (.agg #[.string ⟨#[]⟩, .string ⟨#[]⟩, .int .i64 0, .int .i64 0, .int .i64 0]), 5, 56) := by kernel_rfl
theorem cloneMove_g {α : Type} {R : World → List Value → α → Prop} (hone : One R) (A : Option Addr) (n c : Nat) (l : List α) (w : World) (hs : SlB 5 56 R w (.slice A n c) l) :
 Calls Tryz.prog 196 #[.slice A n c] w (RetRow 202 5 R l w) := by
 have hlen := hs.1.len
 have hbd := hs.2
 have HS := Lib.hid hs.1
 clear hs
 rcases A with _ | ad
 ·
  have hl : l = [] := by
   obtain ⟨cs, hcs, _⟩ := HS.out.cells
   cases l with
   | nil => rfl
   | cons x r => obtain ⟨b, off, x, cs, e, _⟩ := HS.out.at_ (k := 0) (by rw [hlen]; simp); cases e
  subst hl
  obtain rfl : n = 0 := by simpa using hlen
  clear hlen hbd
  have hnil := fun w : World => Lib.run_eql_slice_nil (P := Tryz.prog) w 84 202 none 0 c 0 0 Tryz.underlying84
  simp only [Option.isNone_none] at hnil
  go_enter Tryz.func196, Tryz.ntmps196
  go_wp2
  go_ret
  exact ⟨_, [], rfl, CellsR.nil, World.ownsRow_nil _ _ _ _, Below.refl _ _⟩
 ·
  obtain ⟨i0, hi, hz0, hz1, hz2⟩ := info_parts Tryz.infoMove
  have HLEN := Lib.hid hlen
  clear hlen
  have hnb : n * 56 ≤ 140737488355328 := by rw [HLEN.out]; exact hbd
  have hnil := fun w : World => Lib.run_eql_slice_nil (P := Tryz.prog) w 84 202 (some ad) n c 0 0 Tryz.underlying84
  simp only [Option.isNone_some] at hnil
  go_enter Tryz.func196, Tryz.ntmps196
  go_wp2_with (at_builtin; refine wpList_append_row _ rfl (.tmp 5) (.tmp 6) 84 202 rfl i0 _ 56 Tryz.underlying84 hi hz0 hz1 hz2 rfl (by decide) (R := fun _ => R w) (fun _ => hone w) w.heap.size (.slice (some ⟨w.heap.size, 0, none⟩) 0 0) 0 [] rfl (World.ownsRow_lit w #[] 0 (Nat.le_refl _) (Nat.zero_le _) rfl) (some ad) n c l rfl (HS.out.fix ((Below.refl _ _).alloc (Nat.le_refl _) _)) (by unfold maxLen; omega) (by omega) (by simp) ?_; intro v' w1 cs hcs hown hgr hat)
  go_ret
  refine ⟨v', cs, rfl, hcs, ?_, ((Below.refl _ _).alloc (Nat.le_refl _) _).grown hgr (by simp) (by simp [Value.ownBlock])⟩
  rw [← HLEN.out]
  simpa using hown
theorem cloneMove_any (A : Option Addr) (n c : Nat) (l : List QMove) (w : World) (hs : SlB 5 56 qMoveR w (.slice A n c) l) :
 Calls Tryz.prog 196 #[.slice A n c] w (RetRow 202 5 qMoveR l w) := cloneMove_g qMoveR_one A n c l w hs
theorem Tryz.infoRef : (Tryz.prog.info? 160).map (fun i => (i.zero, i.size, i.bytes)) = some (some (.agg #[.string ⟨#[]⟩, .string ⟨#[]⟩, .int .i64 0, .int .i64 0]), 4, 48) := by kernel_rfl
theorem cloneRef_g {α : Type} {R : World → List Value → α → Prop} (hone : One R) (A : Option Addr) (n c : Nat) (l : List α) (w : World) (hs : SlB 4 48 R w (.slice A n c) l) :
 Calls Tryz.prog 197 #[.slice A n c] w (RetRow 160 4 R l w) := by
 have hlen := hs.1.len
 have hbd := hs.2
 have HS := Lib.hid hs.1
 clear hs
 rcases A with _ | ad
 ·
  have hl : l = [] := by
   obtain ⟨cs, hcs, _⟩ := HS.out.cells
   cases l with
   | nil => rfl
   | cons x r => obtain ⟨b, off, x, cs, e, _⟩ := HS.out.at_ (k := 0) (by rw [hlen]; simp); cases e
  subst hl
  obtain rfl : n = 0 := by simpa using hlen
  clear hlen hbd
  have hnil := fun w : World => Lib.run_eql_slice_nil (P := Tryz.prog) w 87 160 none 0 c 0 0 Tryz.underlying87
  simp only [Option.isNone_none] at hnil
  go_enter Tryz.func197, Tryz.ntmps197
  go_wp2
  go_ret
  exact ⟨_, [], rfl, CellsR.nil, World.ownsRow_nil _ _ _ _, Below.refl _ _⟩
 ·
  obtain ⟨i0, hi, hz0, hz1, hz2⟩ := info_parts Tryz.infoRef
  have HLEN := Lib.hid hlen
  clear hlen
  have hnb : n * 48 ≤ 140737488355328 := by rw [HLEN.out]; exact hbd
  have hnil := fun w : World => Lib.run_eql_slice_nil (P := Tryz.prog) w 87 160 (some ad) n c 0 0 Tryz.underlying87
  simp only [Option.isNone_some] at hnil
  go_enter Tryz.func197, Tryz.ntmps197
  go_wp2_with (at_builtin; refine wpList_append_row _ rfl (.tmp 5) (.tmp 6) 87 160 rfl i0 _ 48 Tryz.underlying87 hi hz0 hz1 hz2 rfl (by decide) (R := fun _ => R w) (fun _ => hone w) w.heap.size (.slice (some ⟨w.heap.size, 0, none⟩) 0 0) 0 [] rfl (World.ownsRow_lit w #[] 0 (Nat.le_refl _) (Nat.zero_le _) rfl) (some ad) n c l rfl (HS.out.fix ((Below.refl _ _).alloc (Nat.le_refl _) _)) (by unfold maxLen; omega) (by omega) (by simp) ?_; intro v' w1 cs hcs hown hgr hat)
  go_ret
  refine ⟨v', cs, rfl, hcs, ?_, ((Below.refl _ _).alloc (Nat.le_refl _) _).grown hgr (by simp) (by simp [Value.ownBlock])⟩
  rw [← HLEN.out]
  simpa using hown
theorem cloneRef_any (A : Option Addr) (n c : Nat) (l : List QRef) (w : World) (hs : SlB 4 48 qRefR w (.slice A n c) l) :
 Calls Tryz.prog 197 #[.slice A n c] w (RetRow 160 4 qRefR l w) := cloneRef_g qRefR_one A n c l w hs
end Go.Proofs.YtkgmonplcdnnbaaGreat
