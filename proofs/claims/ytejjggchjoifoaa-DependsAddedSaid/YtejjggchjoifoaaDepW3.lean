/- Contracts of depends.Closure and Implied. -/
import Derived.Test.YtejjggchjoifoaaDepW2
import Derived.Deep.RegionHeld3
import Derived.Deep.RegionWith
import Derived.OwnWalk
namespace Go.Proofs.Ytejjggchjoifoaa
open Go.RowKit

theorem vLoop_ok {nf : Nat} : ∀ {l : List Int} {x y : Nat}, vLoop nf l x = some y → ∀ f ∈ l, 0 ≤ f ∧ f < (nf : Int) := by
  intro l
  induction l with
  | nil => intro x y _ f hf; simp at hf
  | cons a r ih =>
    intro x y h f hf
    unfold vLoop at h
    split at h
    · cases h
    · rename_i hn
      rcases List.mem_cons.1 hf with rfl | hr
      · omega
      · exact ih h f hr
theorem validB_ok {nf : Nat} {d : Dep} (h : validB nf d = true) : okDep nf d := by
  unfold validB at h
  split at h
  · cases h
  · rename_i x hx
    simp only [Bool.and_eq_true, decide_eq_true_eq] at h
    exact ⟨vLoop_ok hx, h.1.1.2, h.1.2⟩
theorem checkB_ok {nf : Nat} {ds : List Dep} (h : checkB nf ds = true) : 1 ≤ nf ∧ nf ≤ 12 ∧ ds.length ≤ 12 ∧ ∀ d ∈ ds, okDep nf d := by
  simp only [checkB, Bool.and_eq_true, decide_eq_true_eq, List.all_eq_true] at h
  exact ⟨h.1.1.1, h.1.1.2, h.1.2, fun d hd => validB_ok (h.2 d hd)⟩
theorem okDep_12 {nf : Nat} (hn : nf ≤ 12) {d : Dep} (h : okDep nf d) : okDep 12 d :=
  ⟨fun f hf => by have := h.1 f hf; omega, h.2.1, by have := h.2.2; omega⟩

def impB (ds : List Dep) (d : Dep) : Bool := (clos ds (bitsL d.src 0)).testBit d.dst.toNat

set_option maxHeartbeats 800000 in
theorem implied_any (s1 s2 : ByteArray) (i1 i2 : Int) (fA dA : Option Addr) (nf fc nd dc : Nat) (ds : List Dep) (nA A : Option Addr) (nn nc n c : Nat) (s : ByteArray) (d : Dep) (w : World)
    (hnf : nf ≤ 9223372036854775807) (hs : SlR 4 depR w (.slice dA nd dc) ds) (hsrc : SlR 1 intR w (.slice A n c) d.src) :
    Calls Try.prog 14 #[.agg #[.string s1, .string s2, .int .i64 i1, .int .i64 i2, .slice fA nf fc, .slice dA nd dc], .agg #[.slice nA nn nc, .string s, .slice A n c, .int .i64 d.dst]] w
      (Ret (.tuple #[.bool (checkB nf ds && validB nf d && impB ds d), .int .i64 (eno (checkB nf ds && validB nf d))]) w) := by
  have HS := Lib.hid hs
  have HR := Lib.hid hsrc
  clear hs hsrc
  obtain ⟨cb, hcb⟩ : ∃ cb, checkB nf ds = cb := ⟨_, rfl⟩
  have HCB := Lib.hid hcb
  rw [hcb]
  clear hcb
  rcases cb with _ | _
  · go_enter Try.func14, Try.ntmps14
    go_wp2_with fail
    refine (check_any s1 s2 i1 i2 fA dA nf fc nd dc ds _ hnf (HS.out.mono depR_mono (((Below.refl _ _).alloc (Nat.le_refl _) _).alloc (by simp) _))).mono ?_
    rintro e w1 ⟨rfl, hb1⟩
    rw [HCB.out]
    have HB1 := Lib.hid hb1
    clear hb1
    go_wp2
    go_ret2
    exact ⟨rfl, (((Below.refl _ _).alloc (Nat.le_refl _) _).alloc (by simp) _).trans (HB1.out.mono (by simp; omega))⟩
  · obtain ⟨k1, k2, k3, k4⟩ := checkB_ok HCB.out
    have HK := Lib.hid k4
    clear k4
    obtain ⟨vb, hvb⟩ : ∃ vb, validB nf d = vb := ⟨_, rfl⟩
    have HVB := Lib.hid hvb
    rw [hvb]
    clear hvb
    rcases vb with _ | _
    · go_enter Try.func14, Try.ntmps14
      go_wp2_with fail
      refine (check_any s1 s2 i1 i2 fA dA nf fc nd dc ds _ hnf (HS.out.mono depR_mono (((Below.refl _ _).alloc (Nat.le_refl _) _).alloc (by simp) _))).mono ?_
      rintro e w1 ⟨rfl, hb1⟩
      rw [HCB.out]
      obtain ⟨hc1, hf1⟩ := bcell hb1
      have HB1 := Lib.hid hb1
      clear hb1
      go_wp2_with fail
      refine (valid_any nA A nn nc n c s d.dst nf d.src _ k2 (HR.out.mono intR_mono ((((Below.refl _ _).alloc (Nat.le_refl _) _).alloc (by simp) _).trans (HB1.out.mono (by simp; omega))))).mono ?_
      rintro e w2 ⟨rfl, hb2⟩
      rw [show validB nf ⟨d.src, d.dst⟩ = _ from HVB.out]
      have HB2 := Lib.hid hb2
      clear hb2
      go_wp2
      go_ret2
      exact ⟨rfl, ((((Below.refl _ _).alloc (Nat.le_refl _) _).alloc (by simp) _).trans (HB1.out.mono (by simp; omega))).trans (HB2.out.mono (by have := HB1.out.size; simp at this; omega))⟩
    · obtain ⟨v1, v2, v3⟩ := validB_ok HVB.out
      have HV := Lib.hid v1
      clear v1
      go_enter Try.func14, Try.ntmps14
      go_wp2_with fail
      refine (check_any s1 s2 i1 i2 fA dA nf fc nd dc ds _ hnf (HS.out.mono depR_mono (((Below.refl _ _).alloc (Nat.le_refl _) _).alloc (by simp) _))).mono ?_
      rintro e w1 ⟨rfl, hb1⟩
      rw [HCB.out]
      obtain ⟨hc1, hf1⟩ := bcell hb1
      have HB1 := Lib.hid hb1
      clear hb1
      go_wp2_with fail
      refine (valid_any nA A nn nc n c s d.dst nf d.src _ k2 (HR.out.mono intR_mono ((((Below.refl _ _).alloc (Nat.le_refl _) _).alloc (by simp) _).trans (HB1.out.mono (by simp; omega))))).mono ?_
      rintro e w2 ⟨rfl, hb2⟩
      rw [show validB nf ⟨d.src, d.dst⟩ = _ from HVB.out]
      have hbb := ((((Below.refl w.heap.size w).alloc (Nat.le_refl _) _).alloc (by simp) _).trans (HB1.out.mono (by simp; omega))).trans (hb2.mono (by have := HB1.out.size; simp at this; omega))
      have HBB := Lib.hid hbb
      have HB2 := Lib.hid hb2
      clear hb2
      have e2 : ∀ i, i < 6 → w2.cell? ⟨w.heap.size, i, none⟩ = (#[Value.string s1, .string s2, .int .i64 i1, .int .i64 i2, .slice fA nf fc, .slice dA nd dc])[i]? := by
        intro i hi
        have hz := HB1.out.size
        simp at hz
        rw [HB2.out.cell (p := ⟨w.heap.size, i, none⟩) (by simp; omega), hc1 _ _ (by simp; omega)]
        rcases i with _ | _ | _ | _ | _ | _ | i <;> first | (simp; done) | (exfalso; omega)
      have e3 : ∀ i, i < 4 → w2.cell? ⟨w.heap.size + 1, i, none⟩ = (#[Value.slice nA nn nc, .string s, .slice A n c, .int .i64 d.dst])[i]? := by
        intro i hi
        have hz := HB1.out.size
        simp at hz
        rw [HB2.out.cell (p := ⟨w.heap.size + 1, i, none⟩) (by simp; omega), hc1 _ _ (by simp)]
        rcases i with _ | _ | _ | _ | i <;> first | (simp; done) | (exfalso; omega)
      have q0 := e2 0 (by omega)
      have q1 := e2 1 (by omega)
      have q2 := e2 2 (by omega)
      have q3 := e2 3 (by omega)
      have q4 := e2 4 (by omega)
      have q5 := e2 5 (by omega)
      have r2 := e3 2 (by omega)
      have r3 := e3 3 (by omega)
      have hz2 : w.heap.size + 1 < w2.heap.size := by
        have hz := HB1.out.size
        have hz' := HB2.out.size
        simp at hz
        omega
      simp only [List.getElem?_toArray, List.getElem?_cons_zero, List.getElem?_cons_succ] at q0 q1 q2 q3 q4 q5 r2 r3
      clear e2 e3 hc1 hf1
      have hbl : bitsL d.src 0 < 4096 := bitsL_lt (fun f hf => by have := HV.out f hf; omega) (by omega)
      have hcl : clos ds (bitsL d.src 0) < 4096 := passN_lt (fun d hd => okDep_12 k2 (HK.out d hd)) hbl _
      go_wp2_with fail
      go_region_held3 (fun w' => w'.cell? ⟨w.heap.size, 0, none⟩ = some (.string s1) ∧ w'.cell? ⟨w.heap.size, 1, none⟩ = some (.string s2) ∧ w'.cell? ⟨w.heap.size, 2, none⟩ = some (.int .i64 i1) ∧ w'.cell? ⟨w.heap.size, 3, none⟩ = some (.int .i64 i2) ∧ w'.cell? ⟨w.heap.size, 4, none⟩ = some (.slice fA nf fc) ∧ w'.cell? ⟨w.heap.size, 5, none⟩ = some (.slice dA nd dc) ∧ w'.cell? ⟨w.heap.size + 1, 2, none⟩ = some (.slice A n c) ∧ w'.cell? ⟨w.heap.size + 1, 3, none⟩ = some (.int .i64 d.dst))
        (first | go_keep | exact ⟨(hb3.cell (p := ⟨w.heap.size, 0, none⟩) (by simp; omega)).trans q0, (hb3.cell (p := ⟨w.heap.size, 1, none⟩) (by simp; omega)).trans q1, (hb3.cell (p := ⟨w.heap.size, 2, none⟩) (by simp; omega)).trans q2, (hb3.cell (p := ⟨w.heap.size, 3, none⟩) (by simp; omega)).trans q3, (hb3.cell (p := ⟨w.heap.size, 4, none⟩) (by simp; omega)).trans q4, (hb3.cell (p := ⟨w.heap.size, 5, none⟩) (by simp; omega)).trans q5, (hb3.cell (p := ⟨w.heap.size + 1, 2, none⟩) (by simp; omega)).trans r2, (hb3.cell (p := ⟨w.heap.size + 1, 3, none⟩) (by simp; omega)).trans r3⟩)
        (first
          | (go_at_call 28; refine (has_any _ _ _ hcl v2 (by omega)).mono ?_; rintro e w' ⟨rfl, rfl⟩)
          | (go_at_call 27; refine (bitsOf_any A n c d.src _ (HR.out.mono intR_mono HBB.out.drew) (fun f hf => by have := HV.out f hf; omega)).mono ?_; rintro e w' ⟨rfl, rfl⟩)
          | (go_at_call 26; refine (closure_any s1 s2 i1 i2 fA dA nf fc nd dc ds _ _ (HS.out.mono depR_mono HBB.out.drew) (fun d hd => okDep_12 k2 (HK.out d hd)) (bitsL_lt (fun f hf => by have := HV.out f hf; omega) (by omega))).mono ?_; rintro e w3 ⟨rfl, hb3⟩))
      go_wp2
      go_ret2
      exact ⟨rfl, HBB.out.drew.trans (hb3.mono (by simp; omega))⟩

end Go.Proofs.Ytejjggchjoifoaa
