/- testamurlaw23: what the laws about tables share: Check, Of, Whole and the guards over the arguments. Written by genlawS.py and genty.py. -/
import Derived.Test.YtkgmonplcdnnbaaGreatPm36
import Derived.Test.YtkgmonplcdnnbaaGreatPm18
import Derived.Test.YtkgmonplcdnnbaaGreatPm23
import Derived.Test.YtkgmonplcdnnbaaGreatPm22
import Derived.Test.YtkgmonplcdnnbaaGreatPm31
import Derived.Deep.RegionHeld3
import Derived.BigQuiet
namespace Go.Proofs.YtkgmonplcdnnbaaGreat
open Go.RowKit Go.Shelf
attribute [local go_sem] Oper.semAt_some
theorem ofNil0 {T : Value} {w W : World} (h : Tab0 T w) (hb : Below w.heap.size w W) {A : Option Addr} {n c : Nat} (hcs : SlB 3 56 qClaimsR W (.slice A n c) []) :
 Calls Tryz.prog 12 #[T, .slice A n c] W fun e w' => ∃ v, e = .returned (.tuple #[v, .int .i64 0]) ∧ SlR 1 iR w' v [0, 0, 0, 0] ∧ Below W.heap.size W w' := by
 have := of0 h hb hcs
 rwa [ofE_nil, of_nil] at this
theorem ofOne0 {T : Value} {w W : World} (h : Tab0 T w) (hb : Below w.heap.size w W) {A : Option Addr} {n c : Nat} (hcs : SlB 3 56 qClaimsR W (.slice A n c) [⟨0, [], []⟩]) :
 Calls Tryz.prog 12 #[T, .slice A n c] W fun e w' => ∃ v, e = .returned (.tuple #[v, .int .i64 0]) ∧ SlR 1 iR w' v [1, 0, 0, 0] ∧ Below W.heap.size W w' := by
 have := of0 h hb hcs
 rwa [ofE_one, of_one] at this
theorem ofA0 {T : Value} {w W : World} (h : Tab0 T w) (hb : Below w.heap.size w W) {A : Option Addr} {n c : Nat} (hcs : SlB 3 56 qClaimsR W (.slice A n c) [⟨0, [1], [4]⟩]) :
 Calls Tryz.prog 12 #[T, .slice A n c] W fun e w' => ∃ v, e = .returned (.tuple #[v, .int .i64 0]) ∧ SlR 1 iR w' v [5, 2, 5, 0] ∧ Below W.heap.size W w' := by
 have := of0 h hb hcs
 rwa [ofE_a, of_a] at this
theorem ofB0 {T : Value} {w W : World} (h : Tab0 T w) (hb : Below w.heap.size w W) {A : Option Addr} {n c : Nat} (hcs : SlB 3 56 qClaimsR W (.slice A n c) [⟨0, [2], [4]⟩, ⟨0, [], []⟩]) :
 Calls Tryz.prog 12 #[T, .slice A n c] W fun e w' => ∃ v, e = .returned (.tuple #[v, .int .i64 0]) ∧ SlR 1 iR w' v [5, 0, 5, 0] ∧ Below W.heap.size W w' := by
 have := of0 h hb hcs
 rwa [ofE_b, of_b] at this
theorem whA0 {T : Value} {w W : World} (h : Tab0 T w) (hb : Below w.heap.size w W) {FA VA : Option Addr} {nf cf cv : Nat} (hF : SlR 1 intR W (.slice FA nf cf) [1]) :
 Calls Tryz.prog 14 #[T, .agg #[.int .i64 0, .slice FA nf cf, .slice VA 1 cv]] W fun e w' => ∃ v, e = .returned (.tuple #[v, .int .i64 0]) ∧ SlR 1 iR w' v [1, 2] ∧ Below W.heap.size W w' := by
 have := wh0 (VA := VA) (cv := cv) (nv := 1) h hb 0 hF (by omega)
 rwa [whE_a, wh_a] at this
theorem whB0 {T : Value} {w W : World} (h : Tab0 T w) (hb : Below w.heap.size w W) {VA : Option Addr} {cv : Nat} :
 Calls Tryz.prog 14 #[T, .agg #[.int .i64 1, .slice none 0 0, .slice VA 0 cv]] W fun e w' => ∃ v, e = .returned (.tuple #[v, .int .i64 230]) ∧ SlR 1 iR w' v [] ∧ Below W.heap.size W w' := by
 have := wh0 (VA := VA) (cv := cv) (nv := 0) h hb 1 (ints_nil W) (by omega)
 rwa [wh_b.1, wh_b.2] at this
theorem claim1 {W : World} {g gf gv : Nat} {f v : Int} (hf : Blk W gf 3 #[.int .i64 f]) (hv : Blk W gv 3 #[.int .i64 v]) (hfx : isI64 f) (hvx : isI64 v) (h : Blk W g 42 #[.int .i64 0, .slice (some ⟨gf, 0, none⟩) 1 1, .slice (some ⟨gv, 0, none⟩) 1 1]) : SlB 3 56 qClaimsR W (.slice (some ⟨g, 0, none⟩) 1 1) [⟨0, [f], [v]⟩] :=
 ⟨slR_blk (l := [(⟨0, [f], [v]⟩ : QClaims)]) (cs := [.int .i64 0, .slice (some ⟨gf, 0, none⟩) 1 1, .slice (some ⟨gv, 0, none⟩) 1 1]) h (CellsR.single rfl ⟨_, _, _, _, _, _, rfl, int1 hf hfx, int1 hv hvx⟩) (by simp [maxLen]), by simp⟩
theorem claim0 {W : World} {g : Nat} (h : Blk W g 42 #[.int .i64 0, .slice none 0 0, .slice none 0 0]) : SlB 3 56 qClaimsR W (.slice (some ⟨g, 0, none⟩) 1 1) [⟨0, [], []⟩] :=
 ⟨slR_blk (l := [(⟨0, [], []⟩ : QClaims)]) (cs := [.int .i64 0, .slice none 0 0, .slice none 0 0]) h (CellsR.single rfl ⟨_, _, _, _, _, _, rfl, ints_nil _, ints_nil _⟩) (by simp [maxLen]), by simp⟩
theorem claim2 {W : World} {g gf gv : Nat} {f v : Int} (hf : Blk W gf 3 #[.int .i64 f]) (hv : Blk W gv 3 #[.int .i64 v]) (hfx : isI64 f) (hvx : isI64 v) (h : Blk W g 42 #[.int .i64 0, .slice (some ⟨gf, 0, none⟩) 1 1, .slice (some ⟨gv, 0, none⟩) 1 1, .int .i64 0, .slice none 0 0, .slice none 0 0]) : SlB 3 56 qClaimsR W (.slice (some ⟨g, 0, none⟩) 2 2) [⟨0, [f], [v]⟩, ⟨0, [], []⟩] :=
 ⟨slR_blk (l := [(⟨0, [f], [v]⟩ : QClaims), ⟨0, [], []⟩]) (cs := [.int .i64 0, .slice (some ⟨gf, 0, none⟩) 1 1, .slice (some ⟨gv, 0, none⟩) 1 1, .int .i64 0, .slice none 0 0, .slice none 0 0]) h (by
  refine ⟨rfl, fun i x hi => ?_⟩
  rcases i with _ | _ | i
  · simp only [List.getElem?_cons_zero, Option.some.injEq] at hi; subst hi; exact ⟨_, _, _, _, _, _, rfl, int1 hf hfx, int1 hv hvx⟩
  · simp only [Nat.zero_add, List.getElem?_cons_zero, List.getElem?_cons_succ, Option.some.injEq] at hi; subst hi; exact ⟨_, _, _, _, _, _, rfl, ints_nil _, ints_nil _⟩
  · simp at hi) (by simp [maxLen]), by simp⟩
theorem bel1 {A B : Option Addr} {n c m d : Nat} {w : World} (hl : SlR 1 iR w (.slice A n c) [1, 5]) (hr : SlR 1 iR w (.slice B m d) [2, 4]) :
 Calls Tryz.prog 17 #[.slice A n c, .slice B m d] w fun e w' => e = .returned (.tuple #[.bool false, .int .i64 0]) ∧ Below w.heap.size w w' := by
 have := leakBelow_any A B n c m d _ _ w hl hr
 rwa [show belowR [1, 5] [2, 4] = false by kernel_rfl, show lenE [1, 5] [2, 4] = 0 by kernel_rfl] at this
theorem bel2 (w : World) : Calls Tryz.prog 17 #[.slice none 0 0, .slice none 0 0] w fun e w' => e = .returned (.tuple #[.bool true, .int .i64 0]) ∧ Below w.heap.size w w' := by
 have := leakBelow_any none none 0 0 0 0 [] [] w (SlR.nil _ _ (Nat.zero_le _)) (SlR.nil _ _ (Nat.zero_le _))
 rwa [show belowR [] [] = true by kernel_rfl, show lenE [] [] = 0 by kernel_rfl] at this
theorem com1 {A B : Option Addr} {n c m d : Nat} {w : World} (hl : SlR 1 iR w (.slice A n c) [1, 5]) (hr : SlR 1 iR w (.slice B m d) [2, 4]) :
 Calls Tryz.prog 19 #[.slice A n c, .slice B m d] w fun e w' => e = .returned (.tuple #[.int .i64 (-1), .int .i64 0]) ∧ Below w.heap.size w w' := by
 have := leakCompare_any A B n c m d _ _ w hl hr
 rwa [show compR [1, 5] [2, 4] = -1 by kernel_rfl, show lenE [1, 5] [2, 4] = 0 by kernel_rfl] at this
theorem com2 {A B : Option Addr} {n c m d : Nat} {w : World} (hl : SlR 1 iR w (.slice A n c) [1]) (hr : SlR 1 iR w (.slice B m d) [1, 2]) :
 Calls Tryz.prog 19 #[.slice A n c, .slice B m d] w fun e w' => (∃ z, e = .returned (.tuple #[.int .i64 z, .int .i64 230])) ∧ Below w.heap.size w w' := by
 have := leakCompare_any A B n c m d _ _ w hl hr
 rw [show lenE [1] [1, 2] = 230 by kernel_rfl] at this
 exact this.mono (fun e w' h => ⟨⟨_, h.1⟩, h.2⟩)
theorem same0 {v u : Value} {l : List Int} {w : World} (hv : SlR 1 iR w v l) (hu : SlR 1 iR w u l) :
 Calls Tryz.prog 16 #[v, u] w fun e w' => e = .returned (.bool true) ∧ Below w.heap.size w w' := by
 obtain ⟨A, cap, rfl, _⟩ := id hv
 obtain ⟨B, cap', rfl, _⟩ := id hu
 have := sameInts23_any A B _ cap _ cap' l l w hv hu
 rwa [show sameL l l = true by simp [sameL]] at this
set_option maxHeartbeats 8000000 in
set_option maxRecDepth 100000 in
theorem sane23_any (w : World) : Calls Tryz.prog 9 #[] w fun e w' => e = .returned (.bool true) ∧ Below w.heap.size w w' := by
 go_enter Tryz.func9, Tryz.ntmps9
 go_wp2_with (go_at_call 22; refine (tables_any w).mono ?_)
 rintro e w1 ⟨T, rfl, hT, hb1⟩
 have hT' := hT
 obtain ⟨A1, A3, A7, rfl, _, _, _⟩ := hT'
 have HT := Lib.hid hT
 have HB1 := Lib.hid hb1
 clear hT hb1
 have kB := Blk.new w1 32 #[.slice A1 1 1, .slice none 0 0, .slice A3 1 1, .slice none 0 0, .slice none 0 0, .slice none 0 0, .slice A7 1 1]
 have hbB : Below w1.heap.size w1 (w1.alloc (.cells #[.slice A1 1 1, .slice none 0 0, .slice A3 1 1, .slice none 0 0, .slice none 0 0, .slice none 0 0, .slice A7 1 1] 32)) := (Below.refl _ _).alloc (Nat.le_refl _) _
 go_wp2_with (go_at_call 12; refine (ofNil0 HT.out hbB (slB_nil _)).mono ?_)
 rintro e w2 ⟨v2, rfl, hv2, hb2⟩
 have kB2 := kB.below hb2 kB.lt
 have HB2 := Lib.hid (hbB.trans (hb2.mono (by simp)))
 have Hv2 := Lib.hid hv2
 have lB := kB2.lt
 clear hb2 hv2 kB hbB
 have q0 := kB2.cell 0
 have q1 := kB2.cell 1
 have q2 := kB2.cell 2
 have q3 := kB2.cell 3
 have q4 := kB2.cell 4
 have q5 := kB2.cell 5
 have q6 := kB2.cell 6
 simp only [List.getElem?_toArray, List.getElem?_cons_zero, List.getElem?_cons_succ] at q0 q1 q2 q3 q4 q5 q6
 have HS : Hid (Below w2.heap.size w2 (w2.alloc (.cells #[.int .i64 0, .slice none 0 0, .slice none 0 0] 42))) := Lib.hid ((Below.refl w2.heap.size w2).alloc (Nat.le_refl _) (.cells #[.int .i64 0, .slice none 0 0, .slice none 0 0] 42))
 have HW : Hid (Below w1.heap.size w1 (w2.alloc (.cells #[.int .i64 0, .slice none 0 0, .slice none 0 0] 42))) := Lib.hid (HB2.out.trans (HS.out.mono HB2.out.size))
 have HKB := Lib.hid kB2
 clear kB2
 go_wp2_with (go_at_call 12; refine (ofOne0 HT.out HW.out (claim0 (Blk.new _ _ _))).mono ?_)
 rintro e w3 ⟨v3, rfl, hv, hb⟩
 have hst : Below w2.heap.size w2 w3 := HS.out.trans (hb.mono HS.out.size)
 have kB3 := HKB.out.below hst lB
 have HB3 := Lib.hid (HB2.out.trans (hst.mono HB2.out.size))
 replace Hv2 : Hid (SlR 1 iR w3 v2 [0, 0, 0, 0]) := Lib.hid (Hv2.out.mono iR_mono hst)
 replace lB := kB3.lt
 clear hst hb HS HW HKB HB2 q0 q1 q2 q3 q4 q5 q6
 have Hv3 := Lib.hid hv
 clear hv
 have q0 := kB3.cell 0
 have q1 := kB3.cell 1
 have q2 := kB3.cell 2
 have q3 := kB3.cell 3
 have q4 := kB3.cell 4
 have q5 := kB3.cell 5
 have q6 := kB3.cell 6
 simp only [List.getElem?_toArray, List.getElem?_cons_zero, List.getElem?_cons_succ] at q0 q1 q2 q3 q4 q5 q6
 have HS : Hid (Below w3.heap.size w3 (((w3.alloc (.cells #[.int .i64 1] 3)).alloc (.cells #[.int .i64 4] 3)).alloc (.cells #[.int .i64 0, .slice (some ⟨w3.heap.size, 0, none⟩) 1 1, .slice (some ⟨w3.heap.size + 1, 0, none⟩) 1 1] 42))) := Lib.hid ((((Below.refl w3.heap.size w3).alloc (Nat.le_refl _) (.cells #[.int .i64 1] 3)).alloc (by simp <;> omega) (.cells #[.int .i64 4] 3)).alloc (by simp <;> omega) (.cells #[.int .i64 0, .slice (some ⟨w3.heap.size, 0, none⟩) 1 1, .slice (some ⟨w3.heap.size + 1, 0, none⟩) 1 1] 42))
 have HW : Hid (Below w1.heap.size w1 (((w3.alloc (.cells #[.int .i64 1] 3)).alloc (.cells #[.int .i64 4] 3)).alloc (.cells #[.int .i64 0, .slice (some ⟨w3.heap.size, 0, none⟩) 1 1, .slice (some ⟨w3.heap.size + 1, 0, none⟩) 1 1] 42))) := Lib.hid (HB3.out.trans (HS.out.mono HB3.out.size))
 have hcl := claim1 (W := (((w3.alloc (.cells #[.int .i64 1] 3)).alloc (.cells #[.int .i64 4] 3)).alloc (.cells #[.int .i64 0, .slice (some ⟨w3.heap.size, 0, none⟩) 1 1, .slice (some ⟨w3.heap.size + 1, 0, none⟩) 1 1] 42))) (g := w3.heap.size + 1 + 1) (f := 1) (v := 4) (((Blk.new w3 _ _).alloc _).alloc _) ((blkNew (by simp)).alloc _) (by decide) (by decide) (blkNew (by simp))
 have HCL := Lib.hid hcl
 clear hcl
 have HKB := Lib.hid kB3
 clear kB3
 go_wp2_with (go_at_call 12; refine (ofA0 HT.out HW.out HCL.out).mono ?_)
 rintro e w4 ⟨v4, rfl, hv, hb⟩
 have hst : Below w3.heap.size w3 w4 := HS.out.trans (hb.mono HS.out.size)
 have kB4 := HKB.out.below hst lB
 have HB4 := Lib.hid (HB3.out.trans (hst.mono HB3.out.size))
 replace Hv2 : Hid (SlR 1 iR w4 v2 [0, 0, 0, 0]) := Lib.hid (Hv2.out.mono iR_mono hst)
 replace Hv3 : Hid (SlR 1 iR w4 v3 [1, 0, 0, 0]) := Lib.hid (Hv3.out.mono iR_mono hst)
 replace lB := kB4.lt
 clear hst hb HS HW HKB HB3 q0 q1 q2 q3 q4 q5 q6 HCL
 have Hv4 := Lib.hid hv
 clear hv
 have q0 := kB4.cell 0
 have q1 := kB4.cell 1
 have q2 := kB4.cell 2
 have q3 := kB4.cell 3
 have q4 := kB4.cell 4
 have q5 := kB4.cell 5
 have q6 := kB4.cell 6
 simp only [List.getElem?_toArray, List.getElem?_cons_zero, List.getElem?_cons_succ] at q0 q1 q2 q3 q4 q5 q6
 have HS : Hid (Below w4.heap.size w4 (((w4.alloc (.cells #[.int .i64 2] 3)).alloc (.cells #[.int .i64 4] 3)).alloc (.cells #[.int .i64 0, .slice (some ⟨w4.heap.size, 0, none⟩) 1 1, .slice (some ⟨w4.heap.size + 1, 0, none⟩) 1 1, .int .i64 0, .slice none 0 0, .slice none 0 0] 42))) := Lib.hid ((((Below.refl w4.heap.size w4).alloc (Nat.le_refl _) (.cells #[.int .i64 2] 3)).alloc (by simp <;> omega) (.cells #[.int .i64 4] 3)).alloc (by simp <;> omega) (.cells #[.int .i64 0, .slice (some ⟨w4.heap.size, 0, none⟩) 1 1, .slice (some ⟨w4.heap.size + 1, 0, none⟩) 1 1, .int .i64 0, .slice none 0 0, .slice none 0 0] 42))
 have HW : Hid (Below w1.heap.size w1 (((w4.alloc (.cells #[.int .i64 2] 3)).alloc (.cells #[.int .i64 4] 3)).alloc (.cells #[.int .i64 0, .slice (some ⟨w4.heap.size, 0, none⟩) 1 1, .slice (some ⟨w4.heap.size + 1, 0, none⟩) 1 1, .int .i64 0, .slice none 0 0, .slice none 0 0] 42))) := Lib.hid (HB4.out.trans (HS.out.mono HB4.out.size))
 have hcl := claim2 (W := (((w4.alloc (.cells #[.int .i64 2] 3)).alloc (.cells #[.int .i64 4] 3)).alloc (.cells #[.int .i64 0, .slice (some ⟨w4.heap.size, 0, none⟩) 1 1, .slice (some ⟨w4.heap.size + 1, 0, none⟩) 1 1, .int .i64 0, .slice none 0 0, .slice none 0 0] 42))) (g := w4.heap.size + 1 + 1) (f := 2) (v := 4) (((Blk.new w4 _ _).alloc _).alloc _) ((blkNew (by simp)).alloc _) (by decide) (by decide) (blkNew (by simp))
 have HCL := Lib.hid hcl
 clear hcl
 have HKB := Lib.hid kB4
 clear kB4
 go_wp2_with (go_at_call 12; refine (ofB0 HT.out HW.out HCL.out).mono ?_)
 rintro e w5 ⟨v5, rfl, hv, hb⟩
 have hst : Below w4.heap.size w4 w5 := HS.out.trans (hb.mono HS.out.size)
 have kB5 := HKB.out.below hst lB
 have HB5 := Lib.hid (HB4.out.trans (hst.mono HB4.out.size))
 replace Hv2 : Hid (SlR 1 iR w5 v2 [0, 0, 0, 0]) := Lib.hid (Hv2.out.mono iR_mono hst)
 replace Hv3 : Hid (SlR 1 iR w5 v3 [1, 0, 0, 0]) := Lib.hid (Hv3.out.mono iR_mono hst)
 replace Hv4 : Hid (SlR 1 iR w5 v4 [5, 2, 5, 0]) := Lib.hid (Hv4.out.mono iR_mono hst)
 replace lB := kB5.lt
 clear hst hb HS HW HKB HB4 q0 q1 q2 q3 q4 q5 q6 HCL
 have Hv5 := Lib.hid hv
 clear hv
 have q0 := kB5.cell 0
 have q1 := kB5.cell 1
 have q2 := kB5.cell 2
 have q3 := kB5.cell 3
 have q4 := kB5.cell 4
 have q5 := kB5.cell 5
 have q6 := kB5.cell 6
 simp only [List.getElem?_toArray, List.getElem?_cons_zero, List.getElem?_cons_succ] at q0 q1 q2 q3 q4 q5 q6
 have HS : Hid (Below w5.heap.size w5 ((w5.alloc (.cells #[.int .i64 1] 3)).alloc (.cells #[.int .i64 4] 3))) := Lib.hid (((Below.refl w5.heap.size w5).alloc (Nat.le_refl _) (.cells #[.int .i64 1] 3)).alloc (by simp <;> omega) (.cells #[.int .i64 4] 3))
 have HW : Hid (Below w1.heap.size w1 ((w5.alloc (.cells #[.int .i64 1] 3)).alloc (.cells #[.int .i64 4] 3))) := Lib.hid (HB5.out.trans (HS.out.mono HB5.out.size))
 have HCL := Lib.hid (int1 (W := ((w5.alloc (.cells #[.int .i64 1] 3)).alloc (.cells #[.int .i64 4] 3))) (x := 1) ((Blk.new w5 _ _).alloc _) (by decide))
 have HKB := Lib.hid kB5
 clear kB5
 go_wp2_with (go_at_call 14; refine (whA0 HT.out HW.out HCL.out).mono ?_)
 rintro e w6 ⟨v6, rfl, hv, hb⟩
 have hst : Below w5.heap.size w5 w6 := HS.out.trans (hb.mono HS.out.size)
 have kB6 := HKB.out.below hst lB
 have HB6 := Lib.hid (HB5.out.trans (hst.mono HB5.out.size))
 replace Hv2 : Hid (SlR 1 iR w6 v2 [0, 0, 0, 0]) := Lib.hid (Hv2.out.mono iR_mono hst)
 replace Hv3 : Hid (SlR 1 iR w6 v3 [1, 0, 0, 0]) := Lib.hid (Hv3.out.mono iR_mono hst)
 replace Hv4 : Hid (SlR 1 iR w6 v4 [5, 2, 5, 0]) := Lib.hid (Hv4.out.mono iR_mono hst)
 replace Hv5 : Hid (SlR 1 iR w6 v5 [5, 0, 5, 0]) := Lib.hid (Hv5.out.mono iR_mono hst)
 replace lB := kB6.lt
 clear hst hb HS HW HKB HB5 q0 q1 q2 q3 q4 q5 q6 HCL
 have Hv6 := Lib.hid hv
 clear hv
 have q0 := kB6.cell 0
 have q1 := kB6.cell 1
 have q2 := kB6.cell 2
 have q3 := kB6.cell 3
 have q4 := kB6.cell 4
 have q5 := kB6.cell 5
 have q6 := kB6.cell 6
 simp only [List.getElem?_toArray, List.getElem?_cons_zero, List.getElem?_cons_succ] at q0 q1 q2 q3 q4 q5 q6
 have HS : Hid (Below w6.heap.size w6 w6) := Lib.hid (Below.refl w6.heap.size w6)
 have HW : Hid (Below w1.heap.size w1 w6) := Lib.hid (HB6.out.trans (HS.out.mono HB6.out.size))
 have HKB := Lib.hid kB6
 clear kB6
 go_wp2_with (go_at_call 14; refine (whB0 HT.out HW.out).mono ?_)
 rintro e w7 ⟨v7, rfl, -, hb⟩
 have hst : Below w6.heap.size w6 w7 := HS.out.trans (hb.mono HS.out.size)
 have kB7 := HKB.out.below hst lB
 have HB7 := Lib.hid (HB6.out.trans (hst.mono HB6.out.size))
 replace Hv2 : Hid (SlR 1 iR w7 v2 [0, 0, 0, 0]) := Lib.hid (Hv2.out.mono iR_mono hst)
 replace Hv3 : Hid (SlR 1 iR w7 v3 [1, 0, 0, 0]) := Lib.hid (Hv3.out.mono iR_mono hst)
 replace Hv4 : Hid (SlR 1 iR w7 v4 [5, 2, 5, 0]) := Lib.hid (Hv4.out.mono iR_mono hst)
 replace Hv5 : Hid (SlR 1 iR w7 v5 [5, 0, 5, 0]) := Lib.hid (Hv5.out.mono iR_mono hst)
 replace Hv6 : Hid (SlR 1 iR w7 v6 [1, 2]) := Lib.hid (Hv6.out.mono iR_mono hst)
 replace lB := kB7.lt
 clear hst hb HS HW HKB HB6 q0 q1 q2 q3 q4 q5 q6
 have q0 := kB7.cell 0
 have q1 := kB7.cell 1
 have q2 := kB7.cell 2
 have q3 := kB7.cell 3
 have q4 := kB7.cell 4
 have q5 := kB7.cell 5
 have q6 := kB7.cell 6
 simp only [List.getElem?_toArray, List.getElem?_cons_zero, List.getElem?_cons_succ] at q0 q1 q2 q3 q4 q5 q6
 have HS : Hid (Below w7.heap.size w7 (w7.alloc (.cells #[.int .i64 0] 3))) := Lib.hid ((Below.refl w7.heap.size w7).alloc (Nat.le_refl _) (.cells #[.int .i64 0] 3))
 have HW : Hid (Below w1.heap.size w1 (w7.alloc (.cells #[.int .i64 0] 3))) := Lib.hid (HB7.out.trans (HS.out.mono HB7.out.size))
 have HCL := Lib.hid (i_of_ints (int1 (W := (w7.alloc (.cells #[.int .i64 0] 3))) (x := 0) (Blk.new w7 _ _) (by decide)))
 have HKB := Lib.hid kB7
 clear kB7
 go_wp2_with (go_at_call 12; refine (ofX HCL.out).mono ?_)
 rintro e w8 ⟨v8, rfl, hb⟩
 have hst : Below w7.heap.size w7 w8 := HS.out.trans (hb.mono HS.out.size)
 have kB8 := HKB.out.below hst lB
 have HB8 := Lib.hid (HB7.out.trans (hst.mono HB7.out.size))
 replace Hv2 : Hid (SlR 1 iR w8 v2 [0, 0, 0, 0]) := Lib.hid (Hv2.out.mono iR_mono hst)
 replace Hv3 : Hid (SlR 1 iR w8 v3 [1, 0, 0, 0]) := Lib.hid (Hv3.out.mono iR_mono hst)
 replace Hv4 : Hid (SlR 1 iR w8 v4 [5, 2, 5, 0]) := Lib.hid (Hv4.out.mono iR_mono hst)
 replace Hv5 : Hid (SlR 1 iR w8 v5 [5, 0, 5, 0]) := Lib.hid (Hv5.out.mono iR_mono hst)
 replace Hv6 : Hid (SlR 1 iR w8 v6 [1, 2]) := Lib.hid (Hv6.out.mono iR_mono hst)
 replace lB := kB8.lt
 clear hst hb HS HW HKB HB7 q0 q1 q2 q3 q4 q5 q6 HCL
 have q0 := kB8.cell 0
 have q1 := kB8.cell 1
 have q2 := kB8.cell 2
 have q3 := kB8.cell 3
 have q4 := kB8.cell 4
 have q5 := kB8.cell 5
 have q6 := kB8.cell 6
 simp only [List.getElem?_toArray, List.getElem?_cons_zero, List.getElem?_cons_succ] at q0 q1 q2 q3 q4 q5 q6
 have HS : Hid (Below w8.heap.size w8 ((w8.alloc (.cells #[.int .i64 1, .int .i64 5] 3)).alloc (.cells #[.int .i64 2, .int .i64 4] 3))) := Lib.hid (((Below.refl w8.heap.size w8).alloc (Nat.le_refl _) (.cells #[.int .i64 1, .int .i64 5] 3)).alloc (by simp <;> omega) (.cells #[.int .i64 2, .int .i64 4] 3))
 have HW : Hid (Below w1.heap.size w1 ((w8.alloc (.cells #[.int .i64 1, .int .i64 5] 3)).alloc (.cells #[.int .i64 2, .int .i64 4] 3))) := Lib.hid (HB8.out.trans (HS.out.mono HB8.out.size))
 have HL1 := Lib.hid (ints_blk' (W := ((w8.alloc (.cells #[.int .i64 1, .int .i64 5] 3)).alloc (.cells #[.int .i64 2, .int .i64 4] 3))) (l := [1, 5]) ((Blk.new w8 3 _).alloc _) (by simp [maxLen]))
 have HL2 := Lib.hid (ints_blk' (W := ((w8.alloc (.cells #[.int .i64 1, .int .i64 5] 3)).alloc (.cells #[.int .i64 2, .int .i64 4] 3))) (g := w8.heap.size + 1) (t := 3) (l := [2, 4]) (blkNew (by simp)) (by simp [maxLen]))
 have HKB := Lib.hid kB8
 clear kB8
 go_wp2_with (go_at_call 17; refine (bel1 HL1.out HL2.out).mono ?_)
 rintro e w9 ⟨rfl, hb⟩
 have hst : Below w8.heap.size w8 w9 := HS.out.trans (hb.mono HS.out.size)
 have kB9 := HKB.out.below hst lB
 have HB9 := Lib.hid (HB8.out.trans (hst.mono HB8.out.size))
 replace Hv2 : Hid (SlR 1 iR w9 v2 [0, 0, 0, 0]) := Lib.hid (Hv2.out.mono iR_mono hst)
 replace Hv3 : Hid (SlR 1 iR w9 v3 [1, 0, 0, 0]) := Lib.hid (Hv3.out.mono iR_mono hst)
 replace Hv4 : Hid (SlR 1 iR w9 v4 [5, 2, 5, 0]) := Lib.hid (Hv4.out.mono iR_mono hst)
 replace Hv5 : Hid (SlR 1 iR w9 v5 [5, 0, 5, 0]) := Lib.hid (Hv5.out.mono iR_mono hst)
 replace Hv6 : Hid (SlR 1 iR w9 v6 [1, 2]) := Lib.hid (Hv6.out.mono iR_mono hst)
 replace lB := kB9.lt
 clear hst hb HS HW HKB HB8 q0 q1 q2 q3 q4 q5 q6 HL1 HL2
 have q0 := kB9.cell 0
 have q1 := kB9.cell 1
 have q2 := kB9.cell 2
 have q3 := kB9.cell 3
 have q4 := kB9.cell 4
 have q5 := kB9.cell 5
 have q6 := kB9.cell 6
 simp only [List.getElem?_toArray, List.getElem?_cons_zero, List.getElem?_cons_succ] at q0 q1 q2 q3 q4 q5 q6
 have HS : Hid (Below w9.heap.size w9 ((w9.alloc (.cells #[.int .i64 1, .int .i64 5] 3)).alloc (.cells #[.int .i64 2, .int .i64 4] 3))) := Lib.hid (((Below.refl w9.heap.size w9).alloc (Nat.le_refl _) (.cells #[.int .i64 1, .int .i64 5] 3)).alloc (by simp <;> omega) (.cells #[.int .i64 2, .int .i64 4] 3))
 have HW : Hid (Below w1.heap.size w1 ((w9.alloc (.cells #[.int .i64 1, .int .i64 5] 3)).alloc (.cells #[.int .i64 2, .int .i64 4] 3))) := Lib.hid (HB9.out.trans (HS.out.mono HB9.out.size))
 have HL1 := Lib.hid (ints_blk' (W := ((w9.alloc (.cells #[.int .i64 1, .int .i64 5] 3)).alloc (.cells #[.int .i64 2, .int .i64 4] 3))) (l := [1, 5]) ((Blk.new w9 3 _).alloc _) (by simp [maxLen]))
 have HL2 := Lib.hid (ints_blk' (W := ((w9.alloc (.cells #[.int .i64 1, .int .i64 5] 3)).alloc (.cells #[.int .i64 2, .int .i64 4] 3))) (g := w9.heap.size + 1) (t := 3) (l := [2, 4]) (blkNew (by simp)) (by simp [maxLen]))
 have HKB := Lib.hid kB9
 clear kB9
 go_wp2_with (go_at_call 19; refine (com1 HL1.out HL2.out).mono ?_)
 rintro e w10 ⟨rfl, hb⟩
 have hst : Below w9.heap.size w9 w10 := HS.out.trans (hb.mono HS.out.size)
 have kB10 := HKB.out.below hst lB
 have HB10 := Lib.hid (HB9.out.trans (hst.mono HB9.out.size))
 replace Hv2 : Hid (SlR 1 iR w10 v2 [0, 0, 0, 0]) := Lib.hid (Hv2.out.mono iR_mono hst)
 replace Hv3 : Hid (SlR 1 iR w10 v3 [1, 0, 0, 0]) := Lib.hid (Hv3.out.mono iR_mono hst)
 replace Hv4 : Hid (SlR 1 iR w10 v4 [5, 2, 5, 0]) := Lib.hid (Hv4.out.mono iR_mono hst)
 replace Hv5 : Hid (SlR 1 iR w10 v5 [5, 0, 5, 0]) := Lib.hid (Hv5.out.mono iR_mono hst)
 replace Hv6 : Hid (SlR 1 iR w10 v6 [1, 2]) := Lib.hid (Hv6.out.mono iR_mono hst)
 replace lB := kB10.lt
 clear hst hb HS HW HKB HB9 q0 q1 q2 q3 q4 q5 q6 HL1 HL2
 have q0 := kB10.cell 0
 have q1 := kB10.cell 1
 have q2 := kB10.cell 2
 have q3 := kB10.cell 3
 have q4 := kB10.cell 4
 have q5 := kB10.cell 5
 have q6 := kB10.cell 6
 simp only [List.getElem?_toArray, List.getElem?_cons_zero, List.getElem?_cons_succ] at q0 q1 q2 q3 q4 q5 q6
 have HS : Hid (Below w10.heap.size w10 w10) := Lib.hid (Below.refl w10.heap.size w10)
 have HW : Hid (Below w1.heap.size w1 w10) := Lib.hid (HB10.out.trans (HS.out.mono HB10.out.size))
 have HKB := Lib.hid kB10
 clear kB10
 go_wp2_with (go_at_call 17; refine (bel2 _).mono ?_)
 rintro e w11 ⟨rfl, hb⟩
 have hst : Below w10.heap.size w10 w11 := HS.out.trans (hb.mono HS.out.size)
 have kB11 := HKB.out.below hst lB
 have HB11 := Lib.hid (HB10.out.trans (hst.mono HB10.out.size))
 replace Hv2 : Hid (SlR 1 iR w11 v2 [0, 0, 0, 0]) := Lib.hid (Hv2.out.mono iR_mono hst)
 replace Hv3 : Hid (SlR 1 iR w11 v3 [1, 0, 0, 0]) := Lib.hid (Hv3.out.mono iR_mono hst)
 replace Hv4 : Hid (SlR 1 iR w11 v4 [5, 2, 5, 0]) := Lib.hid (Hv4.out.mono iR_mono hst)
 replace Hv5 : Hid (SlR 1 iR w11 v5 [5, 0, 5, 0]) := Lib.hid (Hv5.out.mono iR_mono hst)
 replace Hv6 : Hid (SlR 1 iR w11 v6 [1, 2]) := Lib.hid (Hv6.out.mono iR_mono hst)
 replace lB := kB11.lt
 clear hst hb HS HW HKB HB10 q0 q1 q2 q3 q4 q5 q6
 have q0 := kB11.cell 0
 have q1 := kB11.cell 1
 have q2 := kB11.cell 2
 have q3 := kB11.cell 3
 have q4 := kB11.cell 4
 have q5 := kB11.cell 5
 have q6 := kB11.cell 6
 simp only [List.getElem?_toArray, List.getElem?_cons_zero, List.getElem?_cons_succ] at q0 q1 q2 q3 q4 q5 q6
 have HS : Hid (Below w11.heap.size w11 ((w11.alloc (.cells #[.int .i64 1] 3)).alloc (.cells #[.int .i64 1, .int .i64 2] 3))) := Lib.hid (((Below.refl w11.heap.size w11).alloc (Nat.le_refl _) (.cells #[.int .i64 1] 3)).alloc (by simp <;> omega) (.cells #[.int .i64 1, .int .i64 2] 3))
 have HW : Hid (Below w1.heap.size w1 ((w11.alloc (.cells #[.int .i64 1] 3)).alloc (.cells #[.int .i64 1, .int .i64 2] 3))) := Lib.hid (HB11.out.trans (HS.out.mono HB11.out.size))
 have HL1 := Lib.hid (ints_blk' (W := ((w11.alloc (.cells #[.int .i64 1] 3)).alloc (.cells #[.int .i64 1, .int .i64 2] 3))) (l := [1]) ((Blk.new w11 3 _).alloc _) (by simp [maxLen]))
 have HL2 := Lib.hid (ints_blk' (W := ((w11.alloc (.cells #[.int .i64 1] 3)).alloc (.cells #[.int .i64 1, .int .i64 2] 3))) (g := w11.heap.size + 1) (t := 3) (l := [1, 2]) (blkNew (by simp)) (by simp [maxLen]))
 have HKB := Lib.hid kB11
 clear kB11
 go_wp2_with (go_at_call 19; refine (com2 HL1.out HL2.out).mono ?_)
 rintro e w12 ⟨⟨z, rfl⟩, hb⟩
 have hst : Below w11.heap.size w11 w12 := HS.out.trans (hb.mono HS.out.size)
 have kB12 := HKB.out.below hst lB
 have HB12 := Lib.hid (HB11.out.trans (hst.mono HB11.out.size))
 replace Hv2 : Hid (SlR 1 iR w12 v2 [0, 0, 0, 0]) := Lib.hid (Hv2.out.mono iR_mono hst)
 replace Hv3 : Hid (SlR 1 iR w12 v3 [1, 0, 0, 0]) := Lib.hid (Hv3.out.mono iR_mono hst)
 replace Hv4 : Hid (SlR 1 iR w12 v4 [5, 2, 5, 0]) := Lib.hid (Hv4.out.mono iR_mono hst)
 replace Hv5 : Hid (SlR 1 iR w12 v5 [5, 0, 5, 0]) := Lib.hid (Hv5.out.mono iR_mono hst)
 replace Hv6 : Hid (SlR 1 iR w12 v6 [1, 2]) := Lib.hid (Hv6.out.mono iR_mono hst)
 replace lB := kB12.lt
 clear hst hb HS HW HKB HB11 q0 q1 q2 q3 q4 q5 q6 HL1 HL2
 have q0 := kB12.cell 0
 have q1 := kB12.cell 1
 have q2 := kB12.cell 2
 have q3 := kB12.cell 3
 have q4 := kB12.cell 4
 have q5 := kB12.cell 5
 have q6 := kB12.cell 6
 simp only [List.getElem?_toArray, List.getElem?_cons_zero, List.getElem?_cons_succ] at q0 q1 q2 q3 q4 q5 q6
 have HS : Hid (Below w12.heap.size w12 w12) := Lib.hid (Below.refl w12.heap.size w12)
 have HW : Hid (Below w1.heap.size w1 w12) := Lib.hid (HB12.out.trans (HS.out.mono HB12.out.size))
 have HKB := Lib.hid kB12
 clear kB12
 go_wp2_with (go_at_call 23; refine (check0 HT.out _ HB12.out).mono ?_)
 rintro e w13 ⟨rfl, hb⟩
 have hst : Below w12.heap.size w12 w13 := HS.out.trans (hb.mono HS.out.size)
 have kB13 := HKB.out.below hst lB
 have HB13 := Lib.hid (HB12.out.trans (hst.mono HB12.out.size))
 replace Hv2 : Hid (SlR 1 iR w13 v2 [0, 0, 0, 0]) := Lib.hid (Hv2.out.mono iR_mono hst)
 replace Hv3 : Hid (SlR 1 iR w13 v3 [1, 0, 0, 0]) := Lib.hid (Hv3.out.mono iR_mono hst)
 replace Hv4 : Hid (SlR 1 iR w13 v4 [5, 2, 5, 0]) := Lib.hid (Hv4.out.mono iR_mono hst)
 replace Hv5 : Hid (SlR 1 iR w13 v5 [5, 0, 5, 0]) := Lib.hid (Hv5.out.mono iR_mono hst)
 replace Hv6 : Hid (SlR 1 iR w13 v6 [1, 2]) := Lib.hid (Hv6.out.mono iR_mono hst)
 replace lB := kB13.lt
 clear hst hb HS HW HKB HB12 q0 q1 q2 q3 q4 q5 q6
 have q0 := kB13.cell 0
 have q1 := kB13.cell 1
 have q2 := kB13.cell 2
 have q3 := kB13.cell 3
 have q4 := kB13.cell 4
 have q5 := kB13.cell 5
 have q6 := kB13.cell 6
 simp only [List.getElem?_toArray, List.getElem?_cons_zero, List.getElem?_cons_succ] at q0 q1 q2 q3 q4 q5 q6
 have HS : Hid (Below w13.heap.size w13 (w13.alloc (.cells #[.int .i64 0, .int .i64 0, .int .i64 0, .int .i64 0] 3))) := Lib.hid ((Below.refl w13.heap.size w13).alloc (Nat.le_refl _) (.cells #[.int .i64 0, .int .i64 0, .int .i64 0, .int .i64 0] 3))
 have HW : Hid (Below w1.heap.size w1 (w13.alloc (.cells #[.int .i64 0, .int .i64 0, .int .i64 0, .int .i64 0] 3))) := Lib.hid (HB13.out.trans (HS.out.mono HB13.out.size))
 have HL1 := Lib.hid (Hv2.out.mono iR_mono HS.out)
 have HL2 := Lib.hid (ints_blk' (W := (w13.alloc (.cells #[.int .i64 0, .int .i64 0, .int .i64 0, .int .i64 0] 3))) (l := [0, 0, 0, 0]) (Blk.new w13 3 _) (by simp [maxLen]))
 have HKB := Lib.hid kB13
 clear kB13
 go_wp2_with (go_at_call 16; refine (same0 HL1.out HL2.out).mono ?_)
 rintro e w14 ⟨rfl, hb⟩
 have hst : Below w13.heap.size w13 w14 := HS.out.trans (hb.mono HS.out.size)
 have kB14 := HKB.out.below hst lB
 have HB14 := Lib.hid (HB13.out.trans (hst.mono HB13.out.size))
 replace Hv2 : Hid (SlR 1 iR w14 v2 [0, 0, 0, 0]) := Lib.hid (Hv2.out.mono iR_mono hst)
 replace Hv3 : Hid (SlR 1 iR w14 v3 [1, 0, 0, 0]) := Lib.hid (Hv3.out.mono iR_mono hst)
 replace Hv4 : Hid (SlR 1 iR w14 v4 [5, 2, 5, 0]) := Lib.hid (Hv4.out.mono iR_mono hst)
 replace Hv5 : Hid (SlR 1 iR w14 v5 [5, 0, 5, 0]) := Lib.hid (Hv5.out.mono iR_mono hst)
 replace Hv6 : Hid (SlR 1 iR w14 v6 [1, 2]) := Lib.hid (Hv6.out.mono iR_mono hst)
 replace lB := kB14.lt
 clear hst hb HS HW HKB HB13 q0 q1 q2 q3 q4 q5 q6 HL1 HL2
 have q0 := kB14.cell 0
 have q1 := kB14.cell 1
 have q2 := kB14.cell 2
 have q3 := kB14.cell 3
 have q4 := kB14.cell 4
 have q5 := kB14.cell 5
 have q6 := kB14.cell 6
 simp only [List.getElem?_toArray, List.getElem?_cons_zero, List.getElem?_cons_succ] at q0 q1 q2 q3 q4 q5 q6
 have HS : Hid (Below w14.heap.size w14 (w14.alloc (.cells #[.int .i64 1, .int .i64 0, .int .i64 0, .int .i64 0] 3))) := Lib.hid ((Below.refl w14.heap.size w14).alloc (Nat.le_refl _) (.cells #[.int .i64 1, .int .i64 0, .int .i64 0, .int .i64 0] 3))
 have HW : Hid (Below w1.heap.size w1 (w14.alloc (.cells #[.int .i64 1, .int .i64 0, .int .i64 0, .int .i64 0] 3))) := Lib.hid (HB14.out.trans (HS.out.mono HB14.out.size))
 have HL1 := Lib.hid (Hv3.out.mono iR_mono HS.out)
 have HL2 := Lib.hid (ints_blk' (W := (w14.alloc (.cells #[.int .i64 1, .int .i64 0, .int .i64 0, .int .i64 0] 3))) (l := [1, 0, 0, 0]) (Blk.new w14 3 _) (by simp [maxLen]))
 have HKB := Lib.hid kB14
 clear kB14
 go_wp2_with (go_at_call 16; refine (same0 HL1.out HL2.out).mono ?_)
 rintro e w15 ⟨rfl, hb⟩
 have hst : Below w14.heap.size w14 w15 := HS.out.trans (hb.mono HS.out.size)
 have kB15 := HKB.out.below hst lB
 have HB15 := Lib.hid (HB14.out.trans (hst.mono HB14.out.size))
 replace Hv2 : Hid (SlR 1 iR w15 v2 [0, 0, 0, 0]) := Lib.hid (Hv2.out.mono iR_mono hst)
 replace Hv3 : Hid (SlR 1 iR w15 v3 [1, 0, 0, 0]) := Lib.hid (Hv3.out.mono iR_mono hst)
 replace Hv4 : Hid (SlR 1 iR w15 v4 [5, 2, 5, 0]) := Lib.hid (Hv4.out.mono iR_mono hst)
 replace Hv5 : Hid (SlR 1 iR w15 v5 [5, 0, 5, 0]) := Lib.hid (Hv5.out.mono iR_mono hst)
 replace Hv6 : Hid (SlR 1 iR w15 v6 [1, 2]) := Lib.hid (Hv6.out.mono iR_mono hst)
 replace lB := kB15.lt
 clear hst hb HS HW HKB HB14 q0 q1 q2 q3 q4 q5 q6 HL1 HL2
 have q0 := kB15.cell 0
 have q1 := kB15.cell 1
 have q2 := kB15.cell 2
 have q3 := kB15.cell 3
 have q4 := kB15.cell 4
 have q5 := kB15.cell 5
 have q6 := kB15.cell 6
 simp only [List.getElem?_toArray, List.getElem?_cons_zero, List.getElem?_cons_succ] at q0 q1 q2 q3 q4 q5 q6
 have HS : Hid (Below w15.heap.size w15 (w15.alloc (.cells #[.int .i64 5, .int .i64 2, .int .i64 5, .int .i64 0] 3))) := Lib.hid ((Below.refl w15.heap.size w15).alloc (Nat.le_refl _) (.cells #[.int .i64 5, .int .i64 2, .int .i64 5, .int .i64 0] 3))
 have HW : Hid (Below w1.heap.size w1 (w15.alloc (.cells #[.int .i64 5, .int .i64 2, .int .i64 5, .int .i64 0] 3))) := Lib.hid (HB15.out.trans (HS.out.mono HB15.out.size))
 have HL1 := Lib.hid (Hv4.out.mono iR_mono HS.out)
 have HL2 := Lib.hid (ints_blk' (W := (w15.alloc (.cells #[.int .i64 5, .int .i64 2, .int .i64 5, .int .i64 0] 3))) (l := [5, 2, 5, 0]) (Blk.new w15 3 _) (by simp [maxLen]))
 have HKB := Lib.hid kB15
 clear kB15
 go_wp2_with (go_at_call 16; refine (same0 HL1.out HL2.out).mono ?_)
 rintro e w16 ⟨rfl, hb⟩
 have hst : Below w15.heap.size w15 w16 := HS.out.trans (hb.mono HS.out.size)
 have kB16 := HKB.out.below hst lB
 have HB16 := Lib.hid (HB15.out.trans (hst.mono HB15.out.size))
 replace Hv2 : Hid (SlR 1 iR w16 v2 [0, 0, 0, 0]) := Lib.hid (Hv2.out.mono iR_mono hst)
 replace Hv3 : Hid (SlR 1 iR w16 v3 [1, 0, 0, 0]) := Lib.hid (Hv3.out.mono iR_mono hst)
 replace Hv4 : Hid (SlR 1 iR w16 v4 [5, 2, 5, 0]) := Lib.hid (Hv4.out.mono iR_mono hst)
 replace Hv5 : Hid (SlR 1 iR w16 v5 [5, 0, 5, 0]) := Lib.hid (Hv5.out.mono iR_mono hst)
 replace Hv6 : Hid (SlR 1 iR w16 v6 [1, 2]) := Lib.hid (Hv6.out.mono iR_mono hst)
 replace lB := kB16.lt
 clear hst hb HS HW HKB HB15 q0 q1 q2 q3 q4 q5 q6 HL1 HL2
 have q0 := kB16.cell 0
 have q1 := kB16.cell 1
 have q2 := kB16.cell 2
 have q3 := kB16.cell 3
 have q4 := kB16.cell 4
 have q5 := kB16.cell 5
 have q6 := kB16.cell 6
 simp only [List.getElem?_toArray, List.getElem?_cons_zero, List.getElem?_cons_succ] at q0 q1 q2 q3 q4 q5 q6
 have HS : Hid (Below w16.heap.size w16 (w16.alloc (.cells #[.int .i64 5, .int .i64 0, .int .i64 5, .int .i64 0] 3))) := Lib.hid ((Below.refl w16.heap.size w16).alloc (Nat.le_refl _) (.cells #[.int .i64 5, .int .i64 0, .int .i64 5, .int .i64 0] 3))
 have HW : Hid (Below w1.heap.size w1 (w16.alloc (.cells #[.int .i64 5, .int .i64 0, .int .i64 5, .int .i64 0] 3))) := Lib.hid (HB16.out.trans (HS.out.mono HB16.out.size))
 have HL1 := Lib.hid (Hv5.out.mono iR_mono HS.out)
 have HL2 := Lib.hid (ints_blk' (W := (w16.alloc (.cells #[.int .i64 5, .int .i64 0, .int .i64 5, .int .i64 0] 3))) (l := [5, 0, 5, 0]) (Blk.new w16 3 _) (by simp [maxLen]))
 have HKB := Lib.hid kB16
 clear kB16
 go_wp2_with (go_at_call 16; refine (same0 HL1.out HL2.out).mono ?_)
 rintro e w17 ⟨rfl, hb⟩
 have hst : Below w16.heap.size w16 w17 := HS.out.trans (hb.mono HS.out.size)
 have kB17 := HKB.out.below hst lB
 have HB17 := Lib.hid (HB16.out.trans (hst.mono HB16.out.size))
 replace Hv2 : Hid (SlR 1 iR w17 v2 [0, 0, 0, 0]) := Lib.hid (Hv2.out.mono iR_mono hst)
 replace Hv3 : Hid (SlR 1 iR w17 v3 [1, 0, 0, 0]) := Lib.hid (Hv3.out.mono iR_mono hst)
 replace Hv4 : Hid (SlR 1 iR w17 v4 [5, 2, 5, 0]) := Lib.hid (Hv4.out.mono iR_mono hst)
 replace Hv5 : Hid (SlR 1 iR w17 v5 [5, 0, 5, 0]) := Lib.hid (Hv5.out.mono iR_mono hst)
 replace Hv6 : Hid (SlR 1 iR w17 v6 [1, 2]) := Lib.hid (Hv6.out.mono iR_mono hst)
 replace lB := kB17.lt
 clear hst hb HS HW HKB HB16 q0 q1 q2 q3 q4 q5 q6 HL1 HL2
 have q0 := kB17.cell 0
 have q1 := kB17.cell 1
 have q2 := kB17.cell 2
 have q3 := kB17.cell 3
 have q4 := kB17.cell 4
 have q5 := kB17.cell 5
 have q6 := kB17.cell 6
 simp only [List.getElem?_toArray, List.getElem?_cons_zero, List.getElem?_cons_succ] at q0 q1 q2 q3 q4 q5 q6
 have HS : Hid (Below w17.heap.size w17 (w17.alloc (.cells #[.int .i64 1, .int .i64 2] 3))) := Lib.hid ((Below.refl w17.heap.size w17).alloc (Nat.le_refl _) (.cells #[.int .i64 1, .int .i64 2] 3))
 have HW : Hid (Below w1.heap.size w1 (w17.alloc (.cells #[.int .i64 1, .int .i64 2] 3))) := Lib.hid (HB17.out.trans (HS.out.mono HB17.out.size))
 have HL1 := Lib.hid (Hv6.out.mono iR_mono HS.out)
 have HL2 := Lib.hid (ints_blk' (W := (w17.alloc (.cells #[.int .i64 1, .int .i64 2] 3))) (l := [1, 2]) (Blk.new w17 3 _) (by simp [maxLen]))
 have HKB := Lib.hid kB17
 clear kB17
 go_wp2_with (go_at_call 16; refine (same0 HL1.out HL2.out).mono ?_)
 rintro e w18 ⟨rfl, hb⟩
 have hst : Below w17.heap.size w17 w18 := HS.out.trans (hb.mono HS.out.size)
 have kB18 := HKB.out.below hst lB
 have HB18 := Lib.hid (HB17.out.trans (hst.mono HB17.out.size))
 replace Hv2 : Hid (SlR 1 iR w18 v2 [0, 0, 0, 0]) := Lib.hid (Hv2.out.mono iR_mono hst)
 replace Hv3 : Hid (SlR 1 iR w18 v3 [1, 0, 0, 0]) := Lib.hid (Hv3.out.mono iR_mono hst)
 replace Hv4 : Hid (SlR 1 iR w18 v4 [5, 2, 5, 0]) := Lib.hid (Hv4.out.mono iR_mono hst)
 replace Hv5 : Hid (SlR 1 iR w18 v5 [5, 0, 5, 0]) := Lib.hid (Hv5.out.mono iR_mono hst)
 replace Hv6 : Hid (SlR 1 iR w18 v6 [1, 2]) := Lib.hid (Hv6.out.mono iR_mono hst)
 replace lB := kB18.lt
 clear hst hb HS HW HKB HB17 q0 q1 q2 q3 q4 q5 q6 HL1 HL2
 go_wp2_with fail
 go_ret
 exact ⟨rfl, HB1.out.trans (HB18.out.mono HB1.out.size)⟩
def hideL : List Nat → World → World
 | [], w => w
 | b :: S, w => mask b (b + 1) (hideL S w)
theorem hideL_size {w : World} : ∀ S : List Nat, (hideL S w).heap.size = w.heap.size
 | [] => rfl
 | b :: S => by rw [hideL, mask_size, hideL_size S]
theorem hideL_heap {w : World} {g : Nat} : ∀ S : List Nat, g ∉ S → (hideL S w).heap[g]? = w.heap[g]?
 | [], _ => rfl
 |
  b :: S, h => by
  rw [List.mem_cons, not_or] at h
  rw [hideL, mask_heap (by omega), hideL_heap S h.2]
theorem hideL_hid {w : World} {g : Nat} (hg : g < w.heap.size) : ∀ S : List Nat, g ∈ S → (hideL S w).heap[g]? = some (.cells #[] 0)
 |
  b :: S, h => by
  rw [hideL]
  by_cases e : g = b
  ·
   subst e
   exact mask_hid (by omega) (by rw [hideL_size]; exact hg)
  ·
   rw [mask_heap (by omega)]
   exact hideL_hid hg S ((List.mem_cons.1 h).resolve_left e)
theorem hideL_rest {w : World} : ∀ S : List Nat, (hideL S w).os = w.os ∧ (hideL S w).tape = w.tape ∧ (hideL S w).output = w.output
 | [] => ⟨rfl, rfl, rfl⟩
 | _ :: S => hideL_rest S
theorem hideL_unm {α : Type} {R : World → List Value → α → Prop} (hR : Unm R) {w : World} {cs : List Value} {x : α} : ∀ S : List Nat, R (hideL S w) cs x → R w cs x
 | [], h => h
 | _ :: S, h => hideL_unm hR S (hR _ _ _ _ _ h)
theorem hideL_cells {α : Type} {sz : Nat} {R : World → List Value → α → Prop} (hR : Unm R) {w : World} {cs : List Value} {l : List α} {S : List Nat} (h : CellsR sz R (hideL S w) cs l) : CellsR sz R w cs l :=
 ⟨h.1, fun i x hi => hideL_unm hR S (h.2 i x hi)⟩
theorem hideL_grown {w w' : World} {S S' : List Nat} {row : Option Nat} (hg : w.grownBy w' row) (hr : ∀ r, row = some r → r < w.heap.size → r ∈ S) (hS : ∀ b, b < w.heap.size → (b ∈ S' ↔ b ∈ S)) : Below (hideL S w).heap.size (hideL S w) (hideL S' w') := by
 obtain ⟨a1, a2, a3⟩ := hideL_rest (w := w) S
 obtain ⟨b1, b2, b3⟩ := hideL_rest (w := w') S'
 refine ⟨by rw [a1, b1]; exact hg.os, by rw [a2, b2]; exact hg.tape, by rw [a3, b3]; exact hg.output, by rw [hideL_size, hideL_size]; exact hg.size, fun k hk => ?_⟩
 rw [hideL_size] at hk
 by_cases hb : k ∈ S
 · rw [hideL_hid hk S hb, hideL_hid (Nat.lt_of_lt_of_le hk hg.size) S' ((hS k hk).2 hb)]
 ·
  rw [hideL_heap S hb, hideL_heap S' (fun h => hb ((hS k hk).1 h))]
  exact hg.block k hk (fun e => hb (hr k e.symm hk))
theorem hideL_below {w w' : World} {S : List Nat} (hb : Below w.heap.size w w') : Below (hideL S w).heap.size (hideL S w) (hideL S w') :=
 hideL_grown (row := none) ⟨hb.os, hb.tape, hb.output, hb.size, fun k hk _ => hb.block k hk⟩ (by simp) (fun _ _ => Iff.rfl)
def Grow {α : Type} (L : Nat) (T : TypeId) (sz : Nat) (R : World → List Value → α → Prop) (v : Value) (l : List α) (w : World) : Prop :=
 ∃ cs S, w.ownsRow L T sz v l.length cs ∧ (∀ r, v.ownBlock = some r → r ∈ S) ∧ (∀ b ∈ S, L ≤ b ∧ b < w.heap.size) ∧ CellsR sz R (hideL S w) cs l
section
variable {α : Type} {L : Nat} {T : TypeId} {sz : Nat} {R : World → List Value → α → Prop} {v : Value} {l : List α} {w w' : World}
theorem Grow.lit {g : Nat} (h : Blk w g T #[]) (hL : L ≤ g) : Grow L T sz R (.slice (some ⟨g, 0, none⟩) 0 0) [] w :=
 ⟨[], [g], ⟨by simp, .inr ⟨g, 0, #[], rfl, hL, h, Nat.le_refl _, by decide, by simp, by simp⟩⟩, fun r e => by
  simp only [Value.ownBlock, Option.some.injEq] at e
  simp [e], fun b hb => by
  rw [List.mem_singleton] at hb
  subst hb
  exact ⟨hL, h.lt⟩, CellsR.nil⟩
theorem Grow.below (h : Grow L T sz R v l w) (hR : Mono R) (hb : Below w.heap.size w w') : Grow L T sz R v l w' := by
 obtain ⟨cs, S, h1, h2, h3, h4⟩ := h
 exact ⟨cs, S, own_below0 h1 hb, h2, fun b hm => ⟨(h3 b hm).1, Nat.lt_of_lt_of_le (h3 b hm).2 hb.size⟩, h4.mono hR (hideL_below hb)⟩
theorem Grow.form (h : Grow L T sz R v l w) : ∃ A c, v = .slice A l.length c := by
 obtain ⟨cs, S, h1, _⟩ := h
 rcases own_row h1 with ⟨rfl, h0⟩ | ⟨g, cap, rfl, _⟩
 · exact ⟨none, 0, by rw [h0]⟩
 · exact ⟨_, cap, rfl⟩
theorem Grow.sl (h : Grow L T sz R v l w) (hR : Unm R) : SlR sz R w v l := by
 obtain ⟨cs, S, h1, h2, h3, h4⟩ := h
 exact slR_of_row h1 (hideL_cells hR h4) rfl
theorem Grow.push {cs : List Value} {S : List Nat} (h2 : ∀ r, v.ownBlock = some r → r ∈ S) (h3 : ∀ b ∈ S, L ≤ b ∧ b < w.heap.size) (hc : CellsR sz R (hideL S w) cs l) (hR : Mono R) {v' : Value} {news : List Value} {r : List α} {n : Nat}
 (hown : w'.ownsRow L T sz v' n (cs ++ news)) (hn : n = (l ++ r).length) (hg : w.grownBy w' v.ownBlock) (hat : v'.ownBlock = v.ownBlock ∨ v'.ownBlock = some w.heap.size) (hL : L ≤ w.heap.size) (hx : CellsR sz R (hideL S w) news r) : Grow L T sz R v' (l ++ r) w' := by
 have hlt : ∀ r, v'.ownBlock = some r → r < w'.heap.size := fun r e => (hown.lt r e).2
 subst hn
 rcases hat with hat | hat
 ·
  refine ⟨_, S, hown, fun r e => h2 r (by rw [← hat]; exact e), fun b hm => ⟨(h3 b hm).1, Nat.lt_of_lt_of_le (h3 b hm).2 hg.size⟩, ?_⟩
  have hb := hideL_grown (S := S) (S' := S) hg (fun r e _ => h2 r e) (fun _ _ => Iff.rfl)
  exact (hc.mono hR hb).append (hx.mono hR hb)
 ·
  refine ⟨_, w.heap.size :: S, hown, fun r e => by rw [hat] at e; injection e with e; simp [e], fun b hm => ?_, ?_⟩
  ·
   rcases List.mem_cons.1 hm with rfl | hm
   · exact ⟨hL, hlt _ hat⟩
   · exact ⟨(h3 b hm).1, Nat.lt_of_lt_of_le (h3 b hm).2 hg.size⟩
  have hb := hideL_grown (S := S) (S' := w.heap.size :: S) hg (fun r e _ => h2 r e) (fun b hlt => by
   rw [List.mem_cons]
   exact ⟨fun h => h.resolve_left (by omega), .inr⟩)
  exact (hc.mono hR hb).append (hx.mono hR hb)
end
theorem blk_new2 (w : World) (o : Obj) (t : TypeId) (cs : Array Value) : Blk ((w.alloc o).alloc (.cells cs t)) (w.heap.size + 1) t cs := by simpa using Blk.new (w.alloc o) t cs
def ckP (n2 : Nat) (s : QSource) (l : List Int) : Int := checkP (twoWayP n2 s.schemas) s l
theorem checkSays_any (A1 A2 A3 A4 A5 A6 : Option Addr) (n1 c1 n2 c2 n3 c3 n4 c4 n5 c5 n6 c6 : Nat) (A7 : Option Addr) (n7 c7 : Nat) (s : QSource) (l : List Int) (w : World) (h1 : SlB 1 16 strR w (.slice A1 n1 c1) s.issuers) (h2 : SlB 5 56 qUnitR w (.slice A2 n2 c2) s.units) (h3 : SlB 6 96 qSchemaR w (.slice A3 n3 c3) s.schemas) (h4 : SlB 5 96 qRuleR w (.slice A4 n4 c4) s.rules) (h5 : SlB 5 72 qConvertR w (.slice A5 n5 c5) s.converts) (h6 : SlB 3 48 qPurposeR w (.slice A6 n6 c6) s.purposes) (h7 : SlR 1 iR w (.slice A7 n7 c7) l) (hI : ∀ x ∈ s.schemas, ∀ d ∈ x.deps, depI64 d) : CheckSays (.agg #[.slice A1 n1 c1, .slice A2 n2 c2, .slice A3 n3 c3, .slice A4 n4 c4, .slice A5 n5 c5, .slice A6 n6 c6, .slice A7 n7 c7]) (ckP n2 s l) w := fun W hW =>
 schemasCheck_any A1 A2 A3 A4 A5 A6 n1 c1 n2 c2 n3 c3 n4 c4 n5 c5 n6 c6 A7 n7 c7 s l (twoWayP n2 s.schemas) W (h1.mono strR_mono hW) (h2.mono qUnitR_mono hW) (h3.mono qSchemaR_mono hW) (h4.mono qRuleR_mono hW) (h5.mono qConvertR_mono hW) (h6.mono qPurposeR_mono hW) (h7.mono iR_mono hW) (subs_any A1 A2 A3 A4 A5 A6 n1 c1 n2 c2 n3 c3 n4 c4 n5 c5 n6 c6 s W (h2.mono qUnitR_mono hW) (h3.mono qSchemaR_mono hW)) hI
structure Known (T : Value) (T6 : Value) (ck : Int) (ss : List QSchema) (w : World) : Prop where
 of_ : ∀ (A : Option Addr) (n c : Nat) (cs : List QClaims) (W : World), Below w.heap.size w W → SlB 3 56 qClaimsR W (.slice A n c) cs → Calls Tryz.prog 12 #[T, .slice A n c] W fun e w' => ∃ v, e = .returned (.tuple #[v, .int .i64 (ofE ck ss cs)]) ∧ SlR 1 iR w' v (ofL ck ss cs) ∧ Below W.heap.size W w'
 whole : ∀ (sc : Int) (FA VA : Option Addr) (nf cf nv cv : Nat) (F : List Int) (W : World), Below w.heap.size w W → SlR 1 intR W (.slice FA nf cf) F → nv ≤ 9223372036854775807 → Calls Tryz.prog 14 #[T, .agg #[.int .i64 sc, .slice FA nf cf, .slice VA nv cv]] W fun e w' => ∃ v, e = .returned (.tuple #[v, .int .i64 (wholeE ck ss sc F nv)]) ∧ SlR 1 iR w' v (wholeL ck ss sc F nv) ∧ Below W.heap.size W w'
 few : ∀ (W : World), Below w.heap.size w W → Calls Tryz.prog 10 #[T6] W fun e w' => Bools e ∧ Below W.heap.size W w'
set_option maxRecDepth 100000 in
theorem known_any (A1 A2 A3 A4 A5 A6 : Option Addr) (n1 c1 n2 c2 n3 c3 n4 c4 n5 c5 n6 c6 : Nat) (A7 : Option Addr) (n7 c7 : Nat) (s : QSource) (l : List Int) (w : World) (h1 : SlB 1 16 strR w (.slice A1 n1 c1) s.issuers) (h2 : SlB 5 56 qUnitR w (.slice A2 n2 c2) s.units) (h3 : SlB 6 96 qSchemaR w (.slice A3 n3 c3) s.schemas) (h4 : SlB 5 96 qRuleR w (.slice A4 n4 c4) s.rules) (h5 : SlB 5 72 qConvertR w (.slice A5 n5 c5) s.converts) (h6 : SlB 3 48 qPurposeR w (.slice A6 n6 c6) s.purposes) (h7 : SlR 1 iR w (.slice A7 n7 c7) l) (hI : ∀ x ∈ s.schemas, ∀ d ∈ x.deps, depI64 d) : Known (.agg #[.slice A1 n1 c1, .slice A2 n2 c2, .slice A3 n3 c3, .slice A4 n4 c4, .slice A5 n5 c5, .slice A6 n6 c6, .slice A7 n7 c7]) (.agg #[.slice A1 n1 c1, .slice A2 n2 c2, .slice A3 n3 c3, .slice A4 n4 c4, .slice A5 n5 c5, .slice A6 n6 c6, .slice A7 n7 c7]) (ckP n2 s l) s.schemas w where
 of_ := fun A n c cs W hW hcs => Of_any A1 A2 A3 A4 A5 A6 n1 c1 n2 c2 n3 c3 n4 c4 n5 c5 n6 c6 A7 A n7 c7 n c s.schemas cs (ckP n2 s l) W ((checkSays_any A1 A2 A3 A4 A5 A6 n1 c1 n2 c2 n3 c3 n4 c4 n5 c5 n6 c6 A7 n7 c7 s l w h1 h2 h3 h4 h5 h6 h7 hI).below hW) (h3.mono qSchemaR_mono hW) hcs hI (fun h => ck_weighed h)
 whole := fun sc FA VA nf cf nv cv F W hW hF hnv => (Whole_any A1 A2 A3 A4 A5 A6 n1 c1 n2 c2 n3 c3 n4 c4 n5 c5 n6 c6 A7 FA VA n7 c7 nf cf nv cv s.schemas sc (ckP n2 s l) F W ((checkSays_any A1 A2 A3 A4 A5 A6 n1 c1 n2 c2 n3 c3 n4 c4 n5 c5 n6 c6 A7 n7 c7 s l w h1 h2 h3 h4 h5 h6 h7 hI).below hW) (h3.mono qSchemaR_mono hW) hF hnv hI).mono fun _ _ h => by
  obtain ⟨v, e, hv, hb⟩ := h
  exact ⟨v, e, slI_of_own hv, hb⟩
 few := fun W hW => fewTables_any A1 A2 A3 A4 A5 A6 A7 n1 c1 n2 c2 n3 c3 n4 c4 n5 c5 n6 c6 n7 c7 s W (h3.1.mono qSchemaR_mono hW) (h4.1.mono qRuleR_mono hW) (h5.1.mono qConvertR_mono hW) (h6.1.mono qPurposeR_mono hW)
end Go.Proofs.YtkgmonplcdnnbaaGreat
