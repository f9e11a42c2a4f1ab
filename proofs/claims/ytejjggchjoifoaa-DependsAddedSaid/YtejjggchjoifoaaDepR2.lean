/- Contracts of the reference's Valid and Check. -/
import Derived.Test.YtejjggchjoifoaaDepR1
import Derived.Test.YtejjggchjoifoaaDepW4
import Derived.Deep.RegionHeld3
namespace Go.Proofs.Ytejjggchjoifoaa
open Go.RowKit

theorem SlR.take {α : Type} {sz : Nat} {R : World → List Value → α → Prop} {w : World} {A : Option Addr} {n c : Nat} {l : List α} (h : SlR sz R w (.slice A n c) l) {k : Nat} (hk : k ≤ n) : SlR sz R w (.slice A k c) (l.take k) := by
  obtain ⟨A', cap', e, h1, h2, h3⟩ := h
  injection e with e1 e2 e3
  subst e1 e2 e3
  refine ⟨A, c, by rw [List.length_take, Nat.min_eq_left hk], by simp; omega, h2, fun i x hi => ?_⟩
  have hik : i < k := by
    have := (List.getElem?_eq_some_iff.1 hi).1
    simp at this; omega
  rw [List.getElem?_take_of_lt hik] at hi
  exact h3 i x hi

/-- A set of fields as bits, and as a list. -/
def SetsOf (x : Nat) (l : List Int) : Prop := ∀ g : Int, 0 ≤ g → x.testBit g.toNat = l.any (· == g)

theorem setsOf_nil : SetsOf 0 [] := fun g _ => by simp
theorem setsOf_snoc {x : Nat} {l : List Int} {f : Int} (h : SetsOf x l) (hf : 0 ≤ f) : SetsOf (x ||| 2 ^ f.toNat) (l ++ [f]) := by
  intro g hg
  rw [testBit_or_pow, h g hg, List.any_append]
  congr 1
  simp only [List.any_cons, List.any_nil, Bool.or_false]
  rw [Bool.eq_iff_iff]
  simp only [decide_eq_true_eq, beq_iff_eq]
  omega
theorem validB_of {nf : Nat} {l : List Int} {to : Int} {x : Nat} (h : vLoop nf l 0 = some x) (hx : SetsOf x l) (hl : ∀ f ∈ l, 0 ≤ f) :
    validB nf ⟨l, to⟩ = (decide (0 < l.length) && decide (0 ≤ to) && decide (to < nf) && !l.any (· == to)) := by
  rw [validB_some h]
  have h0 : (x != 0) = decide (0 < l.length) := by
    cases l with
    | nil =>
      have : x = 0 := by simp only [vLoop, Option.some.injEq] at h; exact h.symm
      rw [this]; rfl
    | cons f r =>
      have hf := hl f (by simp)
      have := hx f hf
      have hx0 : x ≠ 0 := by
        rintro rfl
        simp at this
      rw [bne_iff_ne.2 hx0]; simp
  rw [h0]
  by_cases ht : 0 ≤ to
  · rw [hx to ht]
  · simp [ht]

set_option maxHeartbeats 1600000 in
theorem refValid_any (nA A : Option Addr) (nn nc n c : Nat) (s : ByteArray) (to : Int) (nf : Nat) (l : List Int) (w : World) (hs : SlR 1 intR w (.slice A n c) l) :
    Calls Try.prog 31 #[.int .i64 nf, .agg #[.slice nA nn nc, .string s, .slice A n c, .int .i64 to]] w (Ret (.bool (validB nf ⟨l, to⟩)) w) := by
  have hn2 : n ≤ 9223372036854775807 := by have := hs.le; omega
  have hnc : n ≤ c ∧ c ≤ 9223372036854775807 := hs.le
  have HN := Lib.hid hs.len
  have HS := Lib.hid hs
  clear hs
  go_enter Try.func31, Try.ntmps31
  go_wp2
  go_loopg [5] n (fun g i wr => ∃ k x : Nat, k ≤ n ∧ g = n - k ∧ i = .int .i64 k ∧ Below (w.heap.size + 1) (w.alloc (.cells #[.slice nA nn nc, .string s, .slice A n c, .int .i64 to] 29)) wr ∧ vLoop nf (l.drop k) x = vLoop nf l 0 ∧ SetsOf x (l.take k) ∧ ∀ f ∈ l.take k, 0 ≤ f)
  case atStart => exact ⟨0, 0, Nat.zero_le _, rfl, rfl, Below.refl _ _, rfl, setsOf_nil, by simp⟩
  case round =>
    obtain ⟨k, x, hk, hg, rfl, hbw, hv, hx, hpos⟩ := hrel
    have hb0 : Below w.heap.size w wr := ((Below.refl _ _).alloc (Nat.le_refl _) _).trans (hbw.mono (by omega))
    have q2 : wr.cell? ⟨w.heap.size, 2, none⟩ = some (.slice A n c) := (hbw.cell (p := ⟨w.heap.size, 2, none⟩) (by simp)).trans (by simp)
    have q3 : wr.cell? ⟨w.heap.size, 3, none⟩ = some (.int .i64 to) := (hbw.cell (p := ⟨w.heap.size, 3, none⟩) (by simp)).trans (by simp)
    have HV := Lib.hid hv
    have HG := Lib.hid hg
    have HX := Lib.hid hx
    have HP := Lib.hid hpos
    have HBW := Lib.hid hbw
    have HB0 := Lib.hid hb0
    have HSW := Lib.hid (HS.out.mono intR_mono hb0)
    clear hv hg hx hpos hbw hb0
    by_cases hlt : k < n
    · obtain ⟨b, off, f, rfl, hb, hf, hc, hlo, hhi⟩ := ints_at HSW.out hlt
      have HF := Lib.hid hf
      clear hf
      have hkn : (k : Int) < (n : Int) := by omega
      have hk0 : (0 : Int) ≤ (k : Int) := by omega
      have hkc : (k : Int) ≤ (c : Int) := by omega
      have hkc' : k ≤ c := by omega
      by_cases h1 : f < 0
      · have d1 : decide (f < 0) = true := by simpa using h1
        have HE : Hid (validB nf ⟨l, to⟩ = false) := validB_none (by rw [← HV.out, drop_cons HF.out, vLoop_bad (.inl h1)])
        go_wp2
        go_quiet (fail)
        go_wp2
        go_ret
        exact ⟨ret_bool HE.out.symm, below_drewN HB0.out _⟩
      · have d1 : decide (f < 0) = false := by simpa using h1
        have hf0 : 0 ≤ f := by omega
        by_cases h2 : (nf : Int) ≤ f
        · have d2 : decide ((nf : Int) ≤ f) = true := by simpa using h2
          have HE : Hid (validB nf ⟨l, to⟩ = false) := validB_none (by rw [← HV.out, drop_cons HF.out, vLoop_bad (.inr (.inl h2))])
          clear h1
          go_wp2
          go_quiet (fail)
          go_wp2
          go_ret
          exact ⟨ret_bool HE.out.symm, below_drewN HB0.out _⟩
        · have d2 : decide ((nf : Int) ≤ f) = false := by simpa using h2
          have hf1 : f < nf := by omega
          obtain ⟨tb, htb⟩ : ∃ tb, (l.take k).any (· == f) = tb := ⟨_, rfl⟩
          have HXT : Hid (x.testBit f.toNat = tb) := by show _ = _; rw [HX.out f hf0, htb]
          have hcall : ∀ m : Nat, Calls Try.prog 32 #[.slice (some ⟨b, off, none⟩) k c, .int .i64 f] (wr.drewN m) fun e w' => e = .returned (.bool tb) ∧ w' = wr.drewN m := fun m => by
            refine (refHas_any _ _ _ _ _ _ ((HSW.out.mono intR_mono (below_drewN (Below.refl _ _) m)).take (by omega))).mono ?_
            rintro e w' ⟨rfl, rfl⟩
            exact ⟨by rw [htb], rfl⟩
          have HC := Lib.hid hcall
          clear htb h1 h2 hcall
          rcases tb with _ | _
          · go_wp2
            go_quiet ((go_at_call 32; exact Calls.quiet_of_same (HC.out _)))
            go_wp2
            go_roundg (n - (k + 1))
            case measure => have := HG.out; omega
            case rel =>
              refine ⟨k + 1, x ||| 2 ^ f.toNat, by omega, rfl, by go_num, below_drewN HBW.out _, ?_, ?_, ?_⟩
              · rw [← HV.out, drop_cons HF.out, vLoop_go hf0 hf1 HXT.out]
              · rw [take_snoc HF.out]; exact setsOf_snoc HX.out hf0
              · rw [take_snoc HF.out]
                intro g hg
                rcases List.mem_append.1 hg with h | h
                · exact HP.out g h
                · rw [List.mem_singleton.1 h]; exact hf0
          · have HE : Hid (validB nf ⟨l, to⟩ = false) := validB_none (by rw [← HV.out, drop_cons HF.out, vLoop_bad (.inr (.inr HXT.out))])
            go_wp2
            go_quiet ((go_at_call 32; exact Calls.quiet_of_same (HC.out _)))
            go_wp2
            go_ret
            exact ⟨ret_bool HE.out.symm, below_drewN HB0.out _⟩
    · have hlk : l.length ≤ k := by have := HN.out; omega
      have hv := vLoop_end HV.out hlk
      have hx := HX.out
      have hp := HP.out
      rw [List.take_of_length_le hlk] at hx hp
      have HE := Lib.hid (validB_of (to := to) hv hx hp)
      have hln : n = l.length := HN.out
      have HW : Hid (validB nf ⟨l, to⟩ = (decide (0 < n) && decide (0 ≤ to) && decide (to < nf) && !l.any (· == to))) := by
        show _ = _
        rw [HE.out, hln]
      clear hv hx hp hln hlk
      go_wp2_with (go_at_call 32; refine (refHas_any _ _ _ l _ _ HSW.out).mono ?_; rintro e w' ⟨rfl, rfl⟩)
      all_goals
        go_ret
        refine ⟨ret_bool ?_, HB0.out⟩
        rw [HW.out]
        go_light
        simp [*]
        try (intros; omega)

set_option maxHeartbeats 800000 in
theorem refCheck_any (s1 s2 : ByteArray) (i1 i2 : Int) (fA dA : Option Addr) (nf fc nd dc : Nat) (ds : List Dep) (w : World) (hnf : nf ≤ 9223372036854775807) (hs : SlR 4 depR w (.slice dA nd dc) ds) :
    Calls Try.prog 17 #[.agg #[.string s1, .string s2, .int .i64 i1, .int .i64 i2, .slice fA nf fc, .slice dA nd dc]] w (Ret (.int .i64 (eno (checkB nf ds))) w) := by
  have hn2 : nd ≤ 9223372036854775807 := by have := hs.le; omega
  have HN := Lib.hid hs.len
  have HS := Lib.hid hs
  clear hs
  by_cases h1 : nf < 1 ∨ 12 < nf ∨ 12 < nd
  · have HC : Hid (checkB nf ds = false) := by
      have := HN.out
      show _ = _
      unfold checkB
      rcases h1 with h | h | h
      · simp [show ¬ 1 ≤ nf by omega]
      · simp [show ¬ nf ≤ 12 by omega]
      · simp [show ¬ ds.length ≤ 12 by omega]
    go_enter Try.func17, Try.ntmps17
    go_wp2
    all_goals first
      | (go_ret; exact ⟨by rw [HC.out]; rfl, (Below.refl _ _).alloc (Nat.le_refl _) _⟩)
      | (exfalso; omega)
  · have a1 : 1 ≤ nf := by omega
    have a2 : nf ≤ 12 := by omega
    have a3 : nd ≤ 12 := by omega
    clear h1
    have d1 : decide ((nf : Int) < 1) = false := by simp; omega
    have d2 : decide ((12 : Int) < nf) = false := by simp; omega
    have d3 : decide ((12 : Int) < nd) = false := by simp; omega
    go_enter Try.func17, Try.ntmps17
    go_wp2
    go_loopg [3] nd (fun g i wr => ∃ k : Nat, k ≤ nd ∧ g = nd - k ∧ i = .int .i64 k ∧ Below (w.heap.size + 1) (w.alloc (.cells #[.string s1, .string s2, .int .i64 i1, .int .i64 i2, .slice fA nf fc, .slice dA nd dc] 25)) wr ∧ (ds.take k).all (validB nf) = true)
    case atStart => exact ⟨0, Nat.zero_le _, rfl, rfl, Below.refl _ _, rfl⟩
    case round =>
      obtain ⟨k, hk, hg, rfl, hb, hv⟩ := hrel
      have HV := Lib.hid hv
      have HG := Lib.hid hg
      clear hv hg
      have hb0 : Below w.heap.size w wr := ((Below.refl _ _).alloc (Nat.le_refl _) _).trans (hb.mono (by omega))
      have q4 : wr.cell? ⟨w.heap.size, 4, none⟩ = some (.slice fA nf fc) := (hb.cell (p := ⟨w.heap.size, 4, none⟩) (by simp)).trans (by simp)
      have q5 : wr.cell? ⟨w.heap.size, 5, none⟩ = some (.slice dA nd dc) := (hb.cell (p := ⟨w.heap.size, 5, none⟩) (by simp)).trans (by simp)
      have hsz : w.heap.size < wr.heap.size := by have := hb.size; simp at this; omega
      by_cases hlt : k < nd
      · obtain ⟨b, off, d, nA, nn, nc, s, gA, gn, gc, rfl, hbl, hd, c0, c1, c2, c3, hsrc, hlo, hhi⟩ := dep_at (HS.out.mono depR_mono hb0) hlt
        have HD := Lib.hid hd
        have HSRC := Lib.hid hsrc
        have HB := Lib.hid hb
        have HB0 := Lib.hid hb0
        clear hd hsrc hb hb0
        have hkn : (k : Int) < (nd : Int) := by omega
        have hk0 : (0 : Int) ≤ (k : Int) := by omega
        obtain ⟨vb, hvb⟩ : ∃ vb, validB nf d = vb := ⟨_, rfl⟩
        have HVB := Lib.hid hvb
        clear hvb
        rcases vb with _ | _
        all_goals
          go_wp2_with fail
          go_region_held3 (fun w' => w'.cell? ⟨w.heap.size, 4, none⟩ = some (.slice fA nf fc) ∧ w'.cell? ⟨w.heap.size, 5, none⟩ = some (.slice (some ⟨b, off, none⟩) nd dc) ∧ w'.cell? ⟨b, off + k * 4, none⟩ = some (.slice nA nn nc) ∧ w'.cell? ⟨b, off + k * 4 + 1, none⟩ = some (.string s) ∧ w'.cell? ⟨b, off + k * 4 + 2, none⟩ = some (.slice gA gn gc) ∧ w'.cell? ⟨b, off + k * 4 + 3, none⟩ = some (.int .i64 d.dst))
            (first | go_keep | exact ⟨(hb1.cell (p := ⟨w.heap.size, 4, none⟩) (by simp; omega)).trans q4, (hb1.cell (p := ⟨w.heap.size, 5, none⟩) (by simp; omega)).trans q5, (hb1.cell (p := ⟨b, off + k * 4, none⟩) (by simp; omega)).trans c0, (hb1.cell (p := ⟨b, off + k * 4 + 1, none⟩) (by simp; omega)).trans c1, (hb1.cell (p := ⟨b, off + k * 4 + 2, none⟩) (by simp; omega)).trans c2, (hb1.cell (p := ⟨b, off + k * 4 + 3, none⟩) (by simp; omega)).trans c3⟩)
            (first
              | (go_at_call 31; refine (refValid_any _ _ _ _ _ _ _ d.dst nf d.src _ (HSRC.out.mono intR_mono (Below.refl _ _).drew)).mono ?_; rintro e w1 ⟨rfl, hb1⟩; rw [show validB nf ⟨d.src, d.dst⟩ = _ from HVB.out]))
          have HB1 := Lib.hid hb1
          clear hb1
          go_wp2_with fail
        · go_ret
          refine ⟨ret_int ?_, HB0.out.drew.trans (HB1.out.mono (by simp; omega))⟩
          rw [checkB_bad HD.out HVB.out]; rfl
        · go_roundg (nd - (k + 1))
          case measure => have := HG.out; omega
          case rel => exact ⟨k + 1, by omega, rfl, by go_num, HB.out.drew.trans (HB1.out.mono (by simp; omega)), by rw [take_snoc HD.out, List.all_append, HV.out]; simp [HVB.out]⟩
      · have HC : Hid (checkB nf ds = true) := by
          have h1 := HV.out
          have h2 := HN.out
          rw [List.take_of_length_le (by omega)] at h1
          show _ = _
          unfold checkB
          simp [h1, a1, a2]; omega
        go_wp2
        go_ret
        exact ⟨by rw [HC.out]; rfl, hb0⟩

end Go.Proofs.Ytejjggchjoifoaa
