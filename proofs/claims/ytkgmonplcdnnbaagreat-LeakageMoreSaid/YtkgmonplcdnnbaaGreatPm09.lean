/- container/heap over rules.queue: Push and Pop of the queue itself. -/
import Derived.Test.YtkgmonplcdnnbaaGreatPm08
import Derived.Lib.SmallJoins
import Derived.Maps.AppendAt
import Derived.Test.YtkgmonplcdnnbaaGreatPm06
import Derived.WalkSmall
import Derived.IntWalk
namespace Go.Proofs.YtkgmonplcdnnbaaGreat
open Go.RowKit
def inB (nf : Nat) (f : Int) : Bool := decide (0 ≤ f) && decide (f < nf)
def listX (nf : Nat) (x : Nat) : List Int := ((List.range nf).filter x.testBit).map (fun i : Nat => (i : Int))
def closOk (nf : Nat) (ds : List Dep) (l : List Int) : Bool := checkB nf ds && l.all (inB nf)
def closL (nf : Nat) (ds : List Dep) (l : List Int) : List Int := if closOk nf ds l then listX nf (clos ds (bitsL l 0)) else []
def RetInts (l : List Int) (ok : Bool) (w : World) (e : Ending) (w' : World) : Prop :=
 ∃ v, e = .returned (.tuple #[v, .int .i64 (eno ok)]) ∧ w'.ownsRow w.heap.size 3 1 v l.length (l.map (Value.int .i64)) ∧ Below w.heap.size w w'
theorem listX_succ_yes {n x : Nat} (h : x.testBit n = true) : listX (n + 1) x = listX n x ++ [(n : Int)] := by
 simp [listX, List.range_succ, List.filter_append, h]
theorem listX_succ_no {n x : Nat} (h : x.testBit n = false) : listX (n + 1) x = listX n x := by
 simp [listX, List.range_succ, List.filter_append, h]
theorem listX_len (n x : Nat) : (listX n x).length ≤ n := by
 simp only [listX, List.length_map]
 exact Nat.le_trans (List.length_filter_le _ _) (by simp)
theorem listX_mem {n x : Nat} {f : Int} (h : f ∈ listX n x) : 0 ≤ f ∧ f < n := by
 simp only [listX, List.mem_map, List.mem_filter, List.mem_range] at h
 obtain ⟨i, ⟨hi, _⟩, rfl⟩ := h
 omega
theorem closL_no {nf : Nat} {ds : List Dep} {l : List Int} (h : closOk nf ds l = false) : closL nf ds l = [] := by simp [closL, h]
theorem closL_yes {nf : Nat} {ds : List Dep} {l : List Int} (h : closOk nf ds l = true) : closL nf ds l = listX nf (clos ds (bitsL l 0)) := by simp [closL, h]
theorem Tryz.infoIntD : (Tryz.prog.info? 3).map (fun i => (i.zero, i.size, i.bytes)) = some (some (.int .i64 0), 1, 8) := by kernel_rfl
set_option maxRecDepth 100000 in
set_option maxHeartbeats 1600000 in
theorem Closure_any (s1 s2 : ByteArray) (i1 i2 : Int) (fA dA : Option Addr) (nf fc nd dc : Nat) (ds : List Dep) (A : Option Addr) (n c : Nat) (l : List Int) (w : World)
 (hnf : nf ≤ 9223372036854775807) (hs : SlR 4 depR w (.slice dA nd dc) ds) (hl : SlR 1 intR w (.slice A n c) l) :
 Calls Tryz.prog 40 #[.agg #[.string s1, .string s2, .int .i64 i1, .int .i64 i2, .slice fA nf fc, .slice dA nd dc], .slice A n c] w (RetInts (closL nf ds l) (closOk nf ds l) w) := by
 have hn2 : n ≤ 9223372036854775807 := by have := hl.le; omega
 have HN := Lib.hid hl.len
 have HS := Lib.hid hs
 have HL := Lib.hid hl
 clear hs hl
 obtain ⟨i0, hi, hz0, hz1, hz2⟩ := info_parts Tryz.infoIntD
 have hbx : Below w.heap.size w (w.alloc (.cells #[.string s1, .string s2, .int .i64 i1, .int .i64 i2, .slice fA nf fc, .slice dA nd dc] 52)) := (Below.refl _ _).alloc (Nat.le_refl _) _
 have HBX := Lib.hid hbx
 clear hbx
 obtain ⟨cb, hcb⟩ : ∃ cb, checkB nf ds = cb := ⟨_, rfl⟩
 have HCB := Lib.hid hcb
 clear hcb
 rcases cb with _ | _
 ·
  have HOK : Hid (closOk nf ds l = false) := by show _ = _; simp [closOk, HCB.out]
  go_enter Tryz.func40, Tryz.ntmps40
  go_wp2_with fail
  refine (check_any s1 s2 i1 i2 fA dA nf fc nd dc ds _ hnf (HS.out.mono depR_mono HBX.out)).mono ?_
  rintro e w1 ⟨rfl, hb1⟩
  rw [HCB.out]
  have HB1 := Lib.hid hb1
  clear hb1
  go_wp2
  go_ret2
  exact ⟨.slice none 0 0, by rw [HOK.out]; rfl, by rw [closL_no HOK.out]; exact World.ownsRow_nil _ _ _ _, HBX.out.trans (HB1.out.mono (by simp))⟩
 ·
  obtain ⟨k1, k2, k3, k4⟩ := checkB_ok HCB.out
  have HK := Lib.hid k4
  clear k4
  go_enter Tryz.func40, Tryz.ntmps40
  go_wp2_with fail
  refine (check_any s1 s2 i1 i2 fA dA nf fc nd dc ds _ hnf (HS.out.mono depR_mono HBX.out)).mono ?_
  rintro e w1 ⟨rfl, hb1⟩
  rw [HCB.out, show eno true = 0 from rfl]
  have hbb := HBX.out.trans (hb1.mono (by simp))
  have hz : w.heap.size < w1.heap.size := by have := hb1.size; simp at this; omega
  have q0 : w1.cell? ⟨w.heap.size, 0, none⟩ = some (.string s1) := (hb1.cell (p := ⟨w.heap.size, 0, none⟩) (by simp)).trans (by simp)
  have q1 : w1.cell? ⟨w.heap.size, 1, none⟩ = some (.string s2) := (hb1.cell (p := ⟨w.heap.size, 1, none⟩) (by simp)).trans (by simp)
  have q2 : w1.cell? ⟨w.heap.size, 2, none⟩ = some (.int .i64 i1) := (hb1.cell (p := ⟨w.heap.size, 2, none⟩) (by simp)).trans (by simp)
  have q3 : w1.cell? ⟨w.heap.size, 3, none⟩ = some (.int .i64 i2) := (hb1.cell (p := ⟨w.heap.size, 3, none⟩) (by simp)).trans (by simp)
  have q4 : w1.cell? ⟨w.heap.size, 4, none⟩ = some (.slice fA nf fc) := (hb1.cell (p := ⟨w.heap.size, 4, none⟩) (by simp)).trans (by simp)
  have q5 : w1.cell? ⟨w.heap.size, 5, none⟩ = some (.slice dA nd dc) := (hb1.cell (p := ⟨w.heap.size, 5, none⟩) (by simp)).trans (by simp)
  have HB1 := Lib.hid hb1
  have HBB := Lib.hid hbb
  clear hb1 hbb
  have HL1 := Lib.hid (HL.out.mono intR_mono HBB.out)
  have HS1 := Lib.hid (HS.out.mono depR_mono HBB.out)
  go_wp2_with fail
  go_loopg [4, 18] n (fun g x i wr => ∃ k : Nat, k ≤ n ∧ g = n - k ∧ i = .int .i64 k ∧ x = .slice none 0 0 ∧ w1 = wr ∧ (l.take k).all (inB nf) = true)
  case atStart => exact ⟨0, Nat.zero_le _, rfl, rfl, rfl, rfl, rfl⟩
  case round =>
   obtain ⟨k, hk, hg, rfl, rfl, rfl, hv⟩ := hrel
   have HV := Lib.hid hv
   have HG := Lib.hid hg
   clear hv hg
   by_cases hlt : k < n
   ·
    obtain ⟨b, off, f, rfl, hb, hf, hc, hlo, hhi⟩ := ints_at HL1.out hlt
    have HF := Lib.hid hf
    clear hf
    by_cases hin : 0 ≤ f ∧ f < nf
    ·
     have hi0 := hin.1
     have hi1 := hin.2
     clear hin
     go_wp2_with fail
     go_roundg (n - (k + 1))
     case measure => have := HG.out; omega
     case rel => exact ⟨k + 1, by omega, rfl, by go_num, rfl, rfl, by rw [take_snoc HF.out, List.all_append, HV.out]; simp [inB, hi0, hi1]⟩
    ·
     have HOK : Hid (closOk nf ds l = false) := by
      show _ = _
      have : l.all (inB nf) = false := by
       rw [List.all_eq_false]
       refine ⟨f, List.mem_of_getElem? HF.out, ?_⟩
       simp only [inB, Bool.and_eq_true, decide_eq_true_eq]
       exact hin
      simp [closOk, this]
     go_wp2_with fail
     all_goals first
      | (go_ret2; exact ⟨.slice none 0 0, by rw [HOK.out]; rfl, by rw [closL_no HOK.out]; exact World.ownsRow_nil _ _ _ _, HBB.out⟩)
      | (exfalso; omega)
   ·
    have HIN : Hid (l.all (inB nf) = true) := by
     have h1 := HV.out
     rw [List.take_of_length_le (by have := HN.out; omega)] at h1
     exact h1
    have HOK : Hid (closOk nf ds l = true) := by show _ = _; simp [closOk, HCB.out, HIN.out]
    have hin : ∀ f ∈ l, 0 ≤ f ∧ f < 12 := by
     intro f hf
     have := List.all_eq_true.1 HIN.out f hf
     simp only [inB, Bool.and_eq_true, decide_eq_true_eq] at this
     omega
    have hbl : bitsL l 0 < 4096 := bitsL_lt hin (by omega)
    have hcl : clos ds (bitsL l 0) < 4096 := passN_lt (fun d hd => okDep_12 k2 (HK.out d hd)) hbl _
    have HINN := Lib.hid hin
    clear hin
    go_wp2_with fail
    go_region_held3 (fun w' => w'.cell? ⟨w.heap.size, 0, none⟩ = some (.string s1) ∧ w'.cell? ⟨w.heap.size, 1, none⟩ = some (.string s2) ∧ w'.cell? ⟨w.heap.size, 2, none⟩ = some (.int .i64 i1) ∧ w'.cell? ⟨w.heap.size, 3, none⟩ = some (.int .i64 i2) ∧ w'.cell? ⟨w.heap.size, 4, none⟩ = some (.slice fA nf fc) ∧ w'.cell? ⟨w.heap.size, 5, none⟩ = some (.slice dA nd dc))
     (first | go_keep | exact ⟨(hb3.cell (p := ⟨w.heap.size, 0, none⟩) (by simp; omega)).trans q0, (hb3.cell (p := ⟨w.heap.size, 1, none⟩) (by simp; omega)).trans q1, (hb3.cell (p := ⟨w.heap.size, 2, none⟩) (by simp; omega)).trans q2, (hb3.cell (p := ⟨w.heap.size, 3, none⟩) (by simp; omega)).trans q3, (hb3.cell (p := ⟨w.heap.size, 4, none⟩) (by simp; omega)).trans q4, (hb3.cell (p := ⟨w.heap.size, 5, none⟩) (by simp; omega)).trans q5⟩)
     (first
      | (go_at_call 62; refine (bitsOf_any A n c l _ (HL.out.mono intR_mono HBB.out.drew) HINN.out).mono ?_; rintro e w' ⟨rfl, rfl⟩)
      | (go_at_call 61; refine (closure_any s1 s2 i1 i2 fA dA nf fc nd dc ds _ _ (HS.out.mono depR_mono HBB.out.drew) (fun d hd => okDep_12 k2 (HK.out d hd)) hbl).mono ?_; rintro e w3 ⟨rfl, hb3⟩))
    have hz3 : w.heap.size < w3.heap.size := by have := hb3.size; simp at this; omega
    have p4 : w3.cell? ⟨w.heap.size, 4, none⟩ = some (.slice fA nf fc) := (hb3.cell (p := ⟨w.heap.size, 4, none⟩) (by simp; omega)).trans q4
    have hb4 : Below (w.heap.size + 1) (w.alloc (.cells #[.string s1, .string s2, .int .i64 i1, .int .i64 i2, .slice fA nf fc, .slice dA nd dc] 52)) w3 := (HB1.out.mono (B' := w.heap.size + 1) (by simp)).drew.trans (hb3.mono (by simp; omega))
    have HB4 := Lib.hid hb4
    clear hb3 hb4 q0 q1 q2 q3 q4 q5
    go_wp2_with fail
    obtain ⟨C, hC⟩ : ∃ C, clos ds (bitsL l 0) = C := ⟨_, rfl⟩
    have HC := Lib.hid hC
    rw [hC] at hcl ⊢
    clear hC
    go_loopg [4, 39] nf (fun g x i wr => ∃ q : Nat, q ≤ nf ∧ g = nf - q ∧ i = .int .i64 q ∧ wr.ownsRow (w.heap.size + 1) 3 1 x (listX q C).length ((listX q C).map (Value.int .i64)) ∧
     Below (w.heap.size + 1) (w.alloc (.cells #[.string s1, .string s2, .int .i64 i1, .int .i64 i2, .slice fA nf fc, .slice dA nd dc] 52)) wr)
    case atStart => exact ⟨0, Nat.zero_le _, rfl, rfl, World.ownsRow_nil _ _ _ _, HB4.out⟩
    case round =>
     rename_i x39 _
     obtain ⟨q, hq, hg, rfl, hown, hbw⟩ := hrel
     have hll := listX_len q C
     have hsz : w.heap.size < wr.heap.size := by have := hbw.size; simp at this; omega
     have HG := Lib.hid hg
     have HBW := Lib.hid hbw
     have HOWN := Lib.hid hown
     clear hg hbw hown
     by_cases hlt : q < nf
     ·
      obtain ⟨tb, htb⟩ : ∃ tb, C.testBit ((q : Int)).toNat = tb := ⟨_, rfl⟩
      have HTB := Lib.hid htb
      clear htb
      rcases tb with _ | _
      ·
       go_wp2_with (go_at_call 63; refine (has_any _ _ _ hcl (by omega) (by omega)).mono ?_; rintro e w' ⟨rfl, rfl⟩; rw [HTB.out])
       go_roundg (nf - (q + 1))
       case measure => have := HG.out; omega
       case rel =>
        have htb : C.testBit q = false := by simpa using HTB.out
        refine ⟨q + 1, by omega, rfl, by go_num, ?_, HBW.out⟩
        rw [listX_succ_no htb]; exact HOWN.out
      ·
       go_wp2_with (first
        | (go_at_call 63; refine (has_any _ _ _ hcl (by omega) (by omega)).mono ?_; rintro e w' ⟨rfl, rfl⟩; rw [HTB.out])
        | (at_builtin; refine wpList_append_own _ rfl (.tmp 45) (.tmp 47) 30 rfl (w.heap.size + 1) 3 i0 (.int .i64 0) 1 8 Tryz.underlying30 hi hz0 hz1 hz2 rfl (by decide) _ _ _ rfl (HOWN.out.alloc _) ⟨wr.heap.size, 0, none⟩ 1 1 [.int .i64 q] rfl rfl (cell_one_new _ _ _) (by simp [Value.oneCell']) (by unfold maxLen; omega) (by omega) (by simp; omega) ?_; intro v' w5 hown' hgrow hnil))
       go_roundg (nf - (q + 1))
       case measure => have := HG.out; omega
       case rel =>
        have htb : C.testBit q = true := by simpa using HTB.out
        refine ⟨q + 1, by omega, rfl, by go_num, ?_, (HBW.out.alloc (by omega) _).grown hgrow (by simp; omega) (fun k hk => (HOWN.out.lt k hk).1)⟩
        rw [listX_succ_yes htb, List.map_append, List.length_append]; exact hown'
     ·
      go_wp2_with fail
      go_ret2
      have hqe : q = nf := by omega
      refine ⟨_, by rw [HOK.out]; rfl, ?_, HBX.out.trans (HBW.out.mono (by omega))⟩
      rw [closL_yes HOK.out, HC.out, ← hqe]
      exact Joins.ownsRow_le HOWN.out (Nat.le_succ _)
theorem assertInt (x : Int) (w : World) : (Instr.typeAssert (.iface 3 (.int .i64 x)) 20 3 true).run Tryz.prog w = .ok (.tuple #[.int .i64 x, .bool true]) w := by kernel_rfl
set_option maxHeartbeats 2000000 in
set_option maxRecDepth 100000 in
theorem qpush_any (base G : Nat) (l : List Int) (x : Int) (w : World) (hq : QAt w base G l) (hb : base ≤ w.heap.size) (hl : l.length ≤ 1000000) :
 Calls Tryz.prog 239 #[.pointer (some ⟨G, 0, none⟩), .iface 3 (.int .i64 x)] w fun e w' => (∃ u, e = .returned u) ∧ QAt w' base G (l ++ [x]) ∧ Kept G w w' := by
 obtain ⟨v, h1, h2, h3, h4⟩ := hq
 obtain ⟨i0, hi, hz0, hz1, hz2⟩ := info_parts Tryz.infoIntD
 have c0 := h1.cell 0
 have f0 := h1.frozen 0
 have lG := h1.lt
 simp only [List.getElem?_toArray, List.getElem?_cons_zero] at c0
 have H1 := Lib.hid h1
 have H2 := Lib.hid h2
 have HI := Lib.hid hi
 have HZ := Lib.hid (And.intro hz0 (And.intro hz1 hz2))
 have hv : ∃ A n c, v = .slice A n c := by
  rcases h2.2 with ⟨rfl, _⟩ | ⟨g, cap, cur, rfl, _⟩
  · exact ⟨_, _, _, rfl⟩
  · exact ⟨_, _, _, rfl⟩
 clear h1 h2 hi hz0 hz1 hz2
 obtain ⟨A, n, c, rfl⟩ := hv
 have hta := assertInt x
 go_enter Tryz.func239, Tryz.ntmps239
 go_wp2_with (at_builtin; refine wpList_append_own_at _ rfl (.tmp 16) (.tmp 18) 210 rfl base 3 i0 (.int .i64 0) 1 8 Tryz.underlying210 HI.out HZ.out.1 HZ.out.2.1 HZ.out.2.2 rfl (by decide) (.slice A n c) l.length _ rfl (H2.out.alloc _) ⟨w.heap.size, 0, none⟩ 1 1 [.int .i64 x] rfl rfl (cell_one_new _ _ _) (by simp [Value.oneCell']) (by unfold maxLen; omega) (by omega) (by simp; omega) ?_; intro v' w5 hown' hgrow _ hat; have HAT := Lib.hid hat; clear hat; obtain ⟨g', cap', rfl⟩ := Joins.ownsRow_form hown' (by omega); have k5 : Blk w5 G 212 #[.slice A n c] := (H1.out.alloc _).grown hgrow (fun e => by have := (H2.out.lt G e.symm).1; omega); have HK5 := Lib.hid k5; have f5 := k5.frozen 0; have c5 := k5.cell 0; simp only [List.getElem?_toArray, List.getElem?_cons_zero] at c5; have HOW := Lib.hid hown'; have HGR := Lib.hid hgrow; clear hown' hgrow k5)
 go_end0
 have hlen : (l ++ [x]).length = l.length + 1 := by simp
 have hsz : base ≤ w5.heap.size := Nat.le_trans hb (Nat.le_trans (by simp) HGR.out.size)
 refine ⟨⟨_, rfl⟩, ⟨_, HK5.out.put 0 _, ?_, h3, by simpa [World.setCell] using hsz⟩, ?_⟩
 ·
  rw [hlen, List.map_append]
  exact ownsRow_setCell_below HOW.out h3 _
 ·
  refine Kept.put (show Kept G w w5 from ⟨HGR.out.os, HGR.out.tape, HGR.out.output, Nat.le_trans (by simp) HGR.out.size, fun b hb2 _ hp => ?_, .inl ?_⟩) HK5.out ?_
  ·
   refine (HGR.out.block b (by simp; omega) (fun e => hp (by rw [ptOf_blk H1.out, e]))).trans ?_
   exact Below.heap_alloc w _ b hb2
  · rw [ptOf_blk HK5.out, ptOf_blk H1.out]
  ·
   rw [ptOf_blk H1.out]
   rcases HAT.out with e | e
   · exact .inl e
   · exact .inr ⟨_, e, by simp⟩
theorem row_pop {w : World} {base g cap : Nat} {l : List Int} (hl : 0 < l.length) (h : w.ownsRow base 3 1 (.slice (some ⟨g, 0, none⟩) l.length cap) l.length (l.map (Value.int .i64))) :
 w.ownsRow base 3 1 (.slice (some ⟨g, 0, none⟩) (l.length - 1) cap) (l.length - 1) ((l.take (l.length - 1)).map (Value.int .i64)) := by
 obtain ⟨n, hn⟩ : ∃ n, l.length = n + 1 := ⟨l.length - 1, by omega⟩
 rw [hn] at h ⊢
 refine ownsRow_pop (last := (l.drop n).map (Value.int .i64)) (by simp; omega) ?_
 rw [← List.map_append]
 simp only [Nat.add_sub_cancel, List.take_append_drop]
 exact h
set_option maxHeartbeats 2000000 in
set_option maxRecDepth 100000 in
theorem qpop_any (base G : Nat) (l : List Int) (w : World) (hq : QAt w base G l) (hpos : 0 < l.length) (hl : l.length ≤ 1000000) :
 Calls Tryz.prog 238 #[.pointer (some ⟨G, 0, none⟩)] w fun e w' => e = .returned (.iface 3 (.int .i64 (l.getD (l.length - 1) 0))) ∧ QAt w' base G (l.take (l.length - 1)) ∧ Kept G w w' := by
 obtain ⟨g, cap, hbg, hGb, hbs, hk, hown⟩ := hq.form hpos
 clear hq
 have hc := rowI_cell hown (i := l.length - 1) (by omega)
 have HP := Lib.hid (row_pop hpos hown)
 have hcap : l.length ≤ cap := by
  rcases hown.2 with ⟨h, _⟩ | ⟨g', cap', cur, h, _, _, h2, _⟩
  · cases h
  · injection h with _ _ h; omega
 have hLEN : (l.take (l.length - 1)).length = l.length - 1 := by simp
 have HLEN := Lib.hid hLEN
 clear hLEN
 obtain ⟨x, hx⟩ : ∃ x, l.getD (l.length - 1) 0 = x := ⟨_, rfl⟩
 rw [hx] at hc ⊢
 obtain ⟨n, hn⟩ : ∃ n, l.length = n := ⟨_, rfl⟩
 obtain ⟨l', hl'⟩ : ∃ l', l.take (l.length - 1) = l' := ⟨_, rfl⟩
 rw [hl'] at HP HLEN ⊢
 rw [hn] at hc hk HP hcap hpos hl HLEN
 clear hx hn hl' hown
 have c0 := hk.cell 0
 have f0 := hk.frozen 0
 have lG := hk.lt
 simp only [List.getElem?_toArray, List.getElem?_cons_zero] at c0
 have HK := Lib.hid hk
 clear hk
 have e1 : IntKind.i64.wrap ((n : Int) - 1) = (n : Int) - 1 := IntWalk.i64_in _ (by omega)
 have e2 : (0 : Int) ≤ (n : Int) - 1 := by omega
 have e3 : ((n : Int) - 1).toNat = n - 1 := by omega
 have e4 : (n : Int) - 1 < (n : Int) := by omega
 have e5 : (n : Int) - 1 ≤ (cap : Int) := by omega
 go_enter Tryz.func238, Tryz.ntmps238
 go_wp2_with fail
 go_quiet (fail)
 go_wp2_with fail
 go_region
 go_wp2_with fail
 go_ret
 refine ⟨rfl, ⟨_, (HK.out.drewN _).put 0 _, ?_, hGb, by simpa [World.setCell] using hbs⟩, ((Kept.refl G w).drewN _).put (HK.out.drewN _) (.inl (by rw [ptOf_blk HK.out]; rfl))⟩
 rw [HLEN.out]
 exact ownsRow_setCell_below (w := w.drewN (nq + 1)) HP.out hGb _
end Go.Proofs.YtkgmonplcdnnbaaGreat
