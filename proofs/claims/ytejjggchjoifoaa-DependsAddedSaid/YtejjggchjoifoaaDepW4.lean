/- Contract of depends.Closure. -/
import Derived.Test.YtejjggchjoifoaaDepW3
import Derived.Maps.AppendAt
namespace Go.Proofs.Ytejjggchjoifoaa
open Go.RowKit

def inB (nf : Nat) (f : Int) : Bool := decide (0 ≤ f) && decide (f < nf)
/-- The fields of a set, in increasing order. -/
def listX (nf : Nat) (x : Nat) : List Int := ((List.range nf).filter x.testBit).map (fun i : Nat => (i : Int))
def closOk (nf : Nat) (ds : List Dep) (l : List Int) : Bool := checkB nf ds && l.all (inB nf)
def closL (nf : Nat) (ds : List Dep) (l : List Int) : List Int := if closOk nf ds l then listX nf (clos ds (bitsL l 0)) else []

def RetInts (l : List Int) (ok : Bool) (w : World) (e : Ending) (w' : World) : Prop :=
  ∃ v, e = .returned (.tuple #[v, .int .i64 (eno ok)]) ∧ SlR 1 intR w' v l ∧ Below w.heap.size w w'

theorem listX_succ_yes {n x : Nat} (h : x.testBit n = true) : listX (n + 1) x = listX n x ++ [(n : Int)] := by
  simp [listX, List.range_succ, List.filter_append, h]
theorem listX_succ_no {n x : Nat} (h : x.testBit n = false) : listX (n + 1) x = listX n x := by
  simp [listX, List.range_succ, List.filter_append, h]
theorem listX_len (n x : Nat) : (listX n x).length ≤ n := by
  simp only [listX, List.length_map]
  exact Nat.le_trans (List.length_filter_le _ _) (by simp)
theorem listX_mem {n x : Nat} {f : Int} (h : f ∈ listX n x) : 0 ≤ f ∧ f < n := by
  simp only [listX, List.mem_map, List.mem_filter, List.mem_range] at h
  obtain ⟨i, ⟨hi, _⟩, rfl⟩ := h
  omega
theorem closL_no {nf : Nat} {ds : List Dep} {l : List Int} (h : closOk nf ds l = false) : closL nf ds l = [] := by simp [closL, h]
theorem closL_yes {nf : Nat} {ds : List Dep} {l : List Int} (h : closOk nf ds l = true) : closL nf ds l = listX nf (clos ds (bitsL l 0)) := by simp [closL, h]

theorem Try.infoInt : (Try.prog.info? 3).map (fun i => (i.zero, i.size, i.bytes)) = some (some (.int .i64 0), 1, 8) := by kernel_rfl

set_option maxHeartbeats 1600000 in
theorem Closure_any (s1 s2 : ByteArray) (i1 i2 : Int) (fA dA : Option Addr) (nf fc nd dc : Nat) (ds : List Dep) (A : Option Addr) (n c : Nat) (l : List Int) (w : World)
    (hnf : nf ≤ 9223372036854775807) (hs : SlR 4 depR w (.slice dA nd dc) ds) (hl : SlR 1 intR w (.slice A n c) l) :
    Calls Try.prog 12 #[.agg #[.string s1, .string s2, .int .i64 i1, .int .i64 i2, .slice fA nf fc, .slice dA nd dc], .slice A n c] w (RetInts (closL nf ds l) (closOk nf ds l) w) := by
  have hn2 : n ≤ 9223372036854775807 := by have := hl.le; omega
  have HN := Lib.hid hl.len
  have HS := Lib.hid hs
  have HL := Lib.hid hl
  clear hs hl
  obtain ⟨i0, hi, hz0, hz1, hz2⟩ := info_parts Try.infoInt
  have hbx : Below w.heap.size w (w.alloc (.cells #[.string s1, .string s2, .int .i64 i1, .int .i64 i2, .slice fA nf fc, .slice dA nd dc] 25)) := (Below.refl _ _).alloc (Nat.le_refl _) _
  have HBX := Lib.hid hbx
  clear hbx
  obtain ⟨cb, hcb⟩ : ∃ cb, checkB nf ds = cb := ⟨_, rfl⟩
  have HCB := Lib.hid hcb
  clear hcb
  rcases cb with _ | _
  · have HOK : Hid (closOk nf ds l = false) := by show _ = _; simp [closOk, HCB.out]
    go_enter Try.func12, Try.ntmps12
    go_wp2_with fail
    refine (check_any s1 s2 i1 i2 fA dA nf fc nd dc ds _ hnf (HS.out.mono depR_mono HBX.out)).mono ?_
    rintro e w1 ⟨rfl, hb1⟩
    rw [HCB.out]
    have HB1 := Lib.hid hb1
    clear hb1
    go_wp2
    go_ret2
    exact ⟨.slice none 0 0, by rw [HOK.out]; rfl, by rw [closL_no HOK.out]; exact SlR.nil _ _ (Nat.zero_le _), HBX.out.trans (HB1.out.mono (by simp))⟩
  · obtain ⟨k1, k2, k3, k4⟩ := checkB_ok HCB.out
    have HK := Lib.hid k4
    clear k4
    go_enter Try.func12, Try.ntmps12
    go_wp2_with fail
    refine (check_any s1 s2 i1 i2 fA dA nf fc nd dc ds _ hnf (HS.out.mono depR_mono HBX.out)).mono ?_
    rintro e w1 ⟨rfl, hb1⟩
    rw [HCB.out, show eno true = 0 from rfl]
    have hbb := HBX.out.trans (hb1.mono (by simp))
    have hz : w.heap.size < w1.heap.size := by have := hb1.size; simp at this; omega
    have q0 : w1.cell? ⟨w.heap.size, 0, none⟩ = some (.string s1) := (hb1.cell (p := ⟨w.heap.size, 0, none⟩) (by simp)).trans (by simp)
    have q1 : w1.cell? ⟨w.heap.size, 1, none⟩ = some (.string s2) := (hb1.cell (p := ⟨w.heap.size, 1, none⟩) (by simp)).trans (by simp)
    have q2 : w1.cell? ⟨w.heap.size, 2, none⟩ = some (.int .i64 i1) := (hb1.cell (p := ⟨w.heap.size, 2, none⟩) (by simp)).trans (by simp)
    have q3 : w1.cell? ⟨w.heap.size, 3, none⟩ = some (.int .i64 i2) := (hb1.cell (p := ⟨w.heap.size, 3, none⟩) (by simp)).trans (by simp)
    have q4 : w1.cell? ⟨w.heap.size, 4, none⟩ = some (.slice fA nf fc) := (hb1.cell (p := ⟨w.heap.size, 4, none⟩) (by simp)).trans (by simp)
    have q5 : w1.cell? ⟨w.heap.size, 5, none⟩ = some (.slice dA nd dc) := (hb1.cell (p := ⟨w.heap.size, 5, none⟩) (by simp)).trans (by simp)
    have HB1 := Lib.hid hb1
    have HBB := Lib.hid hbb
    clear hb1 hbb
    have HL1 := Lib.hid (HL.out.mono intR_mono HBB.out)
    have HS1 := Lib.hid (HS.out.mono depR_mono HBB.out)
    go_wp2_with fail
    go_loopg [4, 18] n (fun g x i wr => ∃ k : Nat, k ≤ n ∧ g = n - k ∧ i = .int .i64 k ∧ x = .slice none 0 0 ∧ w1 = wr ∧ (l.take k).all (inB nf) = true)
    case atStart => exact ⟨0, Nat.zero_le _, rfl, rfl, rfl, rfl, rfl⟩
    case round =>
      obtain ⟨k, hk, hg, rfl, rfl, rfl, hv⟩ := hrel
      have HV := Lib.hid hv
      have HG := Lib.hid hg
      clear hv hg
      by_cases hlt : k < n
      · obtain ⟨b, off, f, rfl, hb, hf, hc, hlo, hhi⟩ := ints_at HL1.out hlt
        have HF := Lib.hid hf
        clear hf
        by_cases hin : 0 ≤ f ∧ f < nf
        · have hi0 := hin.1
          have hi1 := hin.2
          clear hin
          go_wp2_with fail
          go_roundg (n - (k + 1))
          case measure => have := HG.out; omega
          case rel => exact ⟨k + 1, by omega, rfl, by go_num, rfl, rfl, by rw [take_snoc HF.out, List.all_append, HV.out]; simp [inB, hi0, hi1]⟩
        · have HOK : Hid (closOk nf ds l = false) := by
            show _ = _
            have : l.all (inB nf) = false := by
              rw [List.all_eq_false]
              refine ⟨f, List.mem_of_getElem? HF.out, ?_⟩
              simp only [inB, Bool.and_eq_true, decide_eq_true_eq]
              exact hin
            simp [closOk, this]
          go_wp2_with fail
          all_goals first
            | (go_ret2; exact ⟨.slice none 0 0, by rw [HOK.out]; rfl, by rw [closL_no HOK.out]; exact SlR.nil _ _ (Nat.zero_le _), HBB.out⟩)
            | (exfalso; omega)
      · have HIN : Hid (l.all (inB nf) = true) := by
          have h1 := HV.out
          rw [List.take_of_length_le (by have := HN.out; omega)] at h1
          exact h1
        have HOK : Hid (closOk nf ds l = true) := by show _ = _; simp [closOk, HCB.out, HIN.out]
        have hin : ∀ f ∈ l, 0 ≤ f ∧ f < 12 := by
          intro f hf
          have := List.all_eq_true.1 HIN.out f hf
          simp only [inB, Bool.and_eq_true, decide_eq_true_eq] at this
          omega
        have hbl : bitsL l 0 < 4096 := bitsL_lt hin (by omega)
        have hcl : clos ds (bitsL l 0) < 4096 := passN_lt (fun d hd => okDep_12 k2 (HK.out d hd)) hbl _
        have HINN := Lib.hid hin
        clear hin
        go_wp2_with fail
        go_region_held3 (fun w' => w'.cell? ⟨w.heap.size, 0, none⟩ = some (.string s1) ∧ w'.cell? ⟨w.heap.size, 1, none⟩ = some (.string s2) ∧ w'.cell? ⟨w.heap.size, 2, none⟩ = some (.int .i64 i1) ∧ w'.cell? ⟨w.heap.size, 3, none⟩ = some (.int .i64 i2) ∧ w'.cell? ⟨w.heap.size, 4, none⟩ = some (.slice fA nf fc) ∧ w'.cell? ⟨w.heap.size, 5, none⟩ = some (.slice dA nd dc))
          (first | go_keep | exact ⟨(hb3.cell (p := ⟨w.heap.size, 0, none⟩) (by simp; omega)).trans q0, (hb3.cell (p := ⟨w.heap.size, 1, none⟩) (by simp; omega)).trans q1, (hb3.cell (p := ⟨w.heap.size, 2, none⟩) (by simp; omega)).trans q2, (hb3.cell (p := ⟨w.heap.size, 3, none⟩) (by simp; omega)).trans q3, (hb3.cell (p := ⟨w.heap.size, 4, none⟩) (by simp; omega)).trans q4, (hb3.cell (p := ⟨w.heap.size, 5, none⟩) (by simp; omega)).trans q5⟩)
          (first
            | (go_at_call 27; refine (bitsOf_any A n c l _ (HL.out.mono intR_mono HBB.out.drew) HINN.out).mono ?_; rintro e w' ⟨rfl, rfl⟩)
            | (go_at_call 26; refine (closure_any s1 s2 i1 i2 fA dA nf fc nd dc ds _ _ (HS.out.mono depR_mono HBB.out.drew) (fun d hd => okDep_12 k2 (HK.out d hd)) hbl).mono ?_; rintro e w3 ⟨rfl, hb3⟩))
        have hz3 : w.heap.size < w3.heap.size := by have := hb3.size; simp at this; omega
        have p4 : w3.cell? ⟨w.heap.size, 4, none⟩ = some (.slice fA nf fc) := (hb3.cell (p := ⟨w.heap.size, 4, none⟩) (by simp; omega)).trans q4
        have hb4 : Below (w.heap.size + 1) (w.alloc (.cells #[.string s1, .string s2, .int .i64 i1, .int .i64 i2, .slice fA nf fc, .slice dA nd dc] 25)) w3 := (HB1.out.mono (B' := w.heap.size + 1) (by simp)).drew.trans (hb3.mono (by simp; omega))
        have HB4 := Lib.hid hb4
        clear hb3 hb4 q0 q1 q2 q3 q4 q5
        go_wp2_with fail
        obtain ⟨C, hC⟩ : ∃ C, clos ds (bitsL l 0) = C := ⟨_, rfl⟩
        have HC := Lib.hid hC
        rw [hC] at hcl ⊢
        clear hC
        go_loopg [4, 39] nf (fun g x i wr => ∃ q : Nat, q ≤ nf ∧ g = nf - q ∧ i = .int .i64 q ∧ wr.ownsRow (w.heap.size + 1) 3 1 x (listX q C).length ((listX q C).map (Value.int .i64)) ∧
          Below (w.heap.size + 1) (w.alloc (.cells #[.string s1, .string s2, .int .i64 i1, .int .i64 i2, .slice fA nf fc, .slice dA nd dc] 25)) wr)
        case atStart => exact ⟨0, Nat.zero_le _, rfl, rfl, World.ownsRow_nil _ _ _ _, HB4.out⟩
        case round =>
          rename_i x39 _
          obtain ⟨q, hq, hg, rfl, hown, hbw⟩ := hrel
          have hll := listX_len q C
          have hsz : w.heap.size < wr.heap.size := by have := hbw.size; simp at this; omega
          have HG := Lib.hid hg
          have HBW := Lib.hid hbw
          have HOWN := Lib.hid hown
          clear hg hbw hown
          by_cases hlt : q < nf
          · obtain ⟨tb, htb⟩ : ∃ tb, C.testBit ((q : Int)).toNat = tb := ⟨_, rfl⟩
            have HTB := Lib.hid htb
            clear htb
            rcases tb with _ | _
            · go_wp2_with (go_at_call 28; refine (has_any _ _ _ hcl (by omega) (by omega)).mono ?_; rintro e w' ⟨rfl, rfl⟩; rw [HTB.out])
              go_roundg (nf - (q + 1))
              case measure => have := HG.out; omega
              case rel =>
                have htb : C.testBit q = false := by simpa using HTB.out
                refine ⟨q + 1, by omega, rfl, by go_num, ?_, HBW.out⟩
                rw [listX_succ_no htb]; exact HOWN.out
            · go_wp2_with (first
                | (go_at_call 28; refine (has_any _ _ _ hcl (by omega) (by omega)).mono ?_; rintro e w' ⟨rfl, rfl⟩; rw [HTB.out])
                | (at_builtin; refine wpList_append_own _ rfl (.tmp 45) (.tmp 47) 26 rfl (w.heap.size + 1) 3 i0 (.int .i64 0) 1 8 Try.underlying26 hi hz0 hz1 hz2 rfl (by decide) _ _ _ rfl (HOWN.out.alloc _) ⟨wr.heap.size, 0, none⟩ 1 1 [.int .i64 q] rfl rfl (cell_one_new _ _ _) (by simp [Value.oneCell']) (by unfold maxLen; omega) (by omega) (by simp; omega) ?_; intro v' w5 hown' hgrow hnil))
              go_roundg (nf - (q + 1))
              case measure => have := HG.out; omega
              case rel =>
                have htb : C.testBit q = true := by simpa using HTB.out
                refine ⟨q + 1, by omega, rfl, by go_num, ?_, (HBW.out.alloc (by omega) _).grown hgrow (by simp; omega) (fun k hk => (HOWN.out.lt k hk).1)⟩
                rw [listX_succ_yes htb, List.map_append, List.length_append]; exact hown'
          · go_wp2_with fail
            go_ret2
            have hqe : q = nf := by omega
            refine ⟨_, by rw [HOK.out]; rfl, ?_, HBX.out.trans (HBW.out.mono (by omega))⟩
            rw [closL_yes HOK.out, HC.out, ← hqe]
            exact slR_of_own HOWN.out (fun x hx => by have := listX_mem hx; omega)

end Go.Proofs.Ytejjggchjoifoaa
