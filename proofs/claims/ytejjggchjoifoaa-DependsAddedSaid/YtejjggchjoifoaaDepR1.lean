/- Contracts of the reference: Has, Valid, Check, SameInts, Few, FewInstances, and of the law's has, subset. -/
import Derived.Test.YtejjggchjoifoaaDepW1
import Derived.Test.YtejjggchjoifoaaDepCnt
import Derived.Test.YtejjggchjoifoaaDepPairs
namespace Go.Proofs.Ytejjggchjoifoaa
open Go.RowKit

theorem any_mem (l : List Int) (n : Int) : l.any (· == n) = decide (n ∈ l) := by
  rw [Bool.eq_iff_iff]; simp

set_option maxHeartbeats 400000 in
theorem refHas_any (A : Option Addr) (n c : Nat) (l : List Int) (x : Int) (w : World) (hs : SlR 1 intR w (.slice A n c) l) :
    Calls Try.prog 32 #[.slice A n c, .int .i64 x] w fun e w' => e = .returned (.bool (l.any (· == x))) ∧ w = w' := by
  have hn2 : n ≤ 9223372036854775807 := by have := hs.le; omega
  have HN := Lib.hid hs.len
  have HS := Lib.hid hs
  clear hs
  go_enter Try.func32, Try.ntmps32
  go_wp2
  go_loopg [5] n (fun g i wr => ∃ k : Nat, k ≤ n ∧ g = n - k ∧ i = .int .i64 k ∧ w = wr ∧ (l.take k).any (· == x) = false)
  case atStart => exact ⟨0, Nat.zero_le _, rfl, rfl, rfl, rfl⟩
  case round =>
    obtain ⟨k, hk, hg, rfl, rfl, hv⟩ := hrel
    have HV := Lib.hid hv
    have HG := Lib.hid hg
    clear hv hg
    by_cases hlt : k < n
    · obtain ⟨b, off, f, rfl, hb, hf, hc, hlo, hhi⟩ := ints_at HS.out hlt
      have HF := Lib.hid hf
      clear hf
      by_cases he : f = x
      · have t1 : (f == x) = true := by rw [he]; simp
        have HE := Lib.hid he
        clear he
        go_wp2
        go_ret
        refine ⟨ret_bool ?_, rfl⟩
        symm
        rw [List.any_eq_true]
        exact ⟨f, List.mem_of_getElem? HF.out, by rw [HE.out]; simp⟩
      · have t1 : (f == x) = false := by rw [beq_eq_false_iff_ne]; exact he
        clear he
        go_wp2
        go_roundg (n - (k + 1))
        case measure => have := HG.out; omega
        case rel => exact ⟨k + 1, by omega, rfl, by go_num, rfl, by rw [take_snoc HF.out, List.any_append, HV.out]; simp [t1]⟩
    · have HE : Hid (l.any (· == x) = false) := by
        have h1 := HV.out
        rw [List.take_of_length_le (by have := HN.out; omega)] at h1
        exact h1
      go_wp2
      go_ret
      exact ⟨ret_bool HE.out.symm, rfl⟩

set_option maxHeartbeats 400000 in
theorem lawHas_any (A : Option Addr) (n c : Nat) (l : List Int) (x : Int) (w : World) (hs : SlR 1 intR w (.slice A n c) l) :
    Calls Try.prog 23 #[.slice A n c, .int .i64 x] w fun e w' => e = .returned (.bool (l.any (· == x))) ∧ w = w' := by
  have hn2 : n ≤ 9223372036854775807 := by have := hs.le; omega
  have HN := Lib.hid hs.len
  have HS := Lib.hid hs
  clear hs
  go_enter Try.func23, Try.ntmps23
  go_wp2
  go_loopg [9] n (fun g i wr => ∃ k : Nat, k ≤ n ∧ g = n - k ∧ i = .int .i64 k ∧ w = wr ∧ (l.take k).any (· == x) = false)
  case atStart => exact ⟨0, Nat.zero_le _, rfl, rfl, rfl, rfl⟩
  case round =>
    obtain ⟨k, hk, hg, rfl, rfl, hv⟩ := hrel
    have HV := Lib.hid hv
    have HG := Lib.hid hg
    clear hv hg
    by_cases hlt : k < n
    · obtain ⟨b, off, f, rfl, hb, hf, hc, hlo, hhi⟩ := ints_at HS.out hlt
      have HF := Lib.hid hf
      clear hf
      by_cases he : f = x
      · have t1 : (f == x) = true := by rw [he]; simp
        have HE := Lib.hid he
        clear he
        go_wp2
        go_ret
        refine ⟨ret_bool ?_, rfl⟩
        symm
        rw [List.any_eq_true]
        exact ⟨f, List.mem_of_getElem? HF.out, by rw [HE.out]; simp⟩
      · have t1 : (f == x) = false := by rw [beq_eq_false_iff_ne]; exact he
        clear he
        go_wp2
        go_roundg (n - (k + 1))
        case measure => have := HG.out; omega
        case rel => exact ⟨k + 1, by omega, rfl, by go_num, rfl, by rw [take_snoc HF.out, List.any_append, HV.out]; simp [t1]⟩
    · have HE : Hid (l.any (· == x) = false) := by
        have h1 := HV.out
        rw [List.take_of_length_le (by have := HN.out; omega)] at h1
        exact h1
      go_wp2
      go_ret
      exact ⟨ret_bool HE.out.symm, rfl⟩

def subB (a b : List Int) : Bool := a.all (fun x => b.any (· == x))

set_option maxHeartbeats 400000 in
theorem subset_any (A B : Option Addr) (n c m d : Nat) (l r : List Int) (w : World) (hs : SlR 1 intR w (.slice A n c) l) (hr : SlR 1 intR w (.slice B m d) r) :
    Calls Try.prog 22 #[.slice A n c, .slice B m d] w fun e w' => e = .returned (.bool (subB l r)) ∧ w = w' := by
  have hn2 : n ≤ 9223372036854775807 := by have := hs.le; omega
  have HN := Lib.hid hs.len
  have HS := Lib.hid hs
  have HR := Lib.hid hr
  clear hs hr
  go_enter Try.func22, Try.ntmps22
  go_wp2
  go_loopg [9] n (fun g i wr => ∃ k : Nat, k ≤ n ∧ g = n - k ∧ i = .int .i64 k ∧ w = wr ∧ (l.take k).all (fun x => r.any (· == x)) = true)
  case atStart => exact ⟨0, Nat.zero_le _, rfl, rfl, rfl, rfl⟩
  case round =>
    obtain ⟨k, hk, hg, rfl, rfl, hv⟩ := hrel
    have HV := Lib.hid hv
    have HG := Lib.hid hg
    clear hv hg
    by_cases hlt : k < n
    · obtain ⟨b, off, f, rfl, hb, hf, hc, hlo, hhi⟩ := ints_at HS.out hlt
      have HF := Lib.hid hf
      clear hf
      obtain ⟨tb, htb⟩ : ∃ tb, r.any (· == f) = tb := ⟨_, rfl⟩
      have HTB := Lib.hid htb
      clear htb
      rcases tb with _ | _
      · go_wp2_with (go_at_call 23; refine (lawHas_any _ _ _ r _ _ HR.out).mono ?_; rintro e w' ⟨rfl, rfl⟩; rw [HTB.out])
        go_ret
        refine ⟨ret_bool ?_, rfl⟩
        symm
        unfold subB
        rw [List.all_eq_false]
        exact ⟨f, List.mem_of_getElem? HF.out, by rw [HTB.out]; simp⟩
      · go_wp2_with (go_at_call 23; refine (lawHas_any _ _ _ r _ _ HR.out).mono ?_; rintro e w' ⟨rfl, rfl⟩; rw [HTB.out])
        go_roundg (n - (k + 1))
        case measure => have := HG.out; omega
        case rel => exact ⟨k + 1, by omega, rfl, by go_num, rfl, by rw [take_snoc HF.out, List.all_append, HV.out]; simp only [List.all_cons, List.all_nil, HTB.out, Bool.and_self]⟩
    · have HE : Hid (subB l r = true) := by
        have h1 := HV.out
        rw [List.take_of_length_le (by have := HN.out; omega)] at h1
        exact h1
      go_wp2
      go_ret
      exact ⟨ret_bool HE.out.symm, rfl⟩

set_option maxHeartbeats 400000 in
theorem same_any (A B : Option Addr) (n c m d : Nat) (l r : List Int) (w : World) (hs : SlR 1 intR w (.slice A n c) l) (hr : SlR 1 intR w (.slice B m d) r) :
    Calls Try.prog 18 #[.slice A n c, .slice B m d] w fun e w' => e = .returned (.bool (decide (l = r))) ∧ ∃ k, w' = w.drewN k := by
  have hn2 : n ≤ 9223372036854775807 := by have := hs.le; omega
  have HN := Lib.hid hs.len
  have HM := Lib.hid hr.len
  have HS := Lib.hid hs
  have HR := Lib.hid hr
  clear hs hr
  by_cases hnm : n = m
  · have t0 : ((n : Int) != m) = false := by rw [hnm]; simp
    have HNM := Lib.hid hnm
    clear hnm
    go_enter Try.func18, Try.ntmps18
    go_wp2
    go_loopg [5] n (fun g i wr => ∃ k q : Nat, k ≤ n ∧ g = n - k ∧ i = .int .i64 k ∧ w.drewN q = wr ∧ l.take k = r.take k)
    case atStart => exact ⟨0, 0, Nat.zero_le _, rfl, rfl, rfl, rfl⟩
    case round =>
      obtain ⟨k, q, hk, hg, rfl, rfl, hv⟩ := hrel
      have HV := Lib.hid hv
      have HG := Lib.hid hg
      clear hv hg
      by_cases hlt : k < n
      · obtain ⟨b, off, f, rfl, hb, hf, hc, hlo, hhi⟩ := ints_at HS.out hlt
        obtain ⟨b', off', f', rfl, hb', hf', hc', hlo', hhi'⟩ := ints_at (k := k) HR.out (by have := HNM.out; omega)
        have hm : (k : Int) < (m : Int) := by have := HNM.out; omega
        have hn : (k : Int) < (n : Int) := by omega
        have hk0 : (0 : Int) ≤ (k : Int) := by omega
        have HF := Lib.hid hf
        have HF' := Lib.hid hf'
        clear hf hf'
        by_cases he : f = f'
        · have t1 : (f != f') = false := by rw [he]; simp
          have HE := Lib.hid he
          clear he
          go_wp2
          go_quiet (fail)
          go_wp2
          go_roundg (n - (k + 1))
          case measure => have := HG.out; omega
          case rel => exact ⟨k + 1, _, by omega, rfl, by go_num, rfl, by rw [take_snoc HF.out, take_snoc HF'.out, HV.out, HE.out]⟩
        · have t1 : (f != f') = true := by rw [bne_iff_ne]; exact he
          have HE := Lib.hid he
          clear he
          go_wp2
          go_quiet (fail)
          go_wp2
          go_ret
          refine ⟨ret_bool ?_, q + nq, by rw [World.drewN_drewN]⟩
          symm
          rw [decide_eq_false_iff_not]
          intro e
          have h1 := HF.out
          rw [e, HF'.out] at h1
          exact HE.out (Option.some.inj h1).symm
      · have HE : Hid (decide (l = r) = true) := by
          have h1 := HV.out
          rw [List.take_of_length_le (by have := HN.out; omega), List.take_of_length_le (by have := HM.out; have := HNM.out; omega)] at h1
          show _ = _
          simpa using h1
        go_wp2
        go_ret
        exact ⟨ret_bool HE.out.symm, _, rfl⟩
  · have t0 : ((n : Int) != m) = true := by rw [bne_iff_ne]; omega
    have HE : Hid (decide (l = r) = false) := by
      show _ = _
      rw [decide_eq_false_iff_not]
      intro e
      have h1 := HN.out
      rw [e, ← HM.out] at h1
      exact hnm h1
    clear hnm
    go_enter Try.func18, Try.ntmps18
    go_wp2
    go_ret
    exact ⟨ret_bool HE.out.symm, 0, rfl⟩

def fewB (nf : Nat) (ds : List Dep) : Bool := ds.all (fun d => decide (d.src.length ≤ 20)) && decide (nf ≤ 20) && decide (ds.length ≤ 20)

set_option maxHeartbeats 400000 in
theorem few_any (s1 s2 : ByteArray) (i1 i2 : Int) (fA dA : Option Addr) (nf fc nd dc : Nat) (ds : List Dep) (w : World) (hnf : nf ≤ 9223372036854775807) (hs : SlR 4 depR w (.slice dA nd dc) ds) :
    Calls Try.prog 11 #[.agg #[.string s1, .string s2, .int .i64 i1, .int .i64 i2, .slice fA nf fc, .slice dA nd dc]] w (Ret (.bool (fewB nf ds)) w) := by
  have hn2 : nd ≤ 9223372036854775807 := by have := hs.le; omega
  have HN := Lib.hid hs.len
  have HS := Lib.hid hs
  clear hs
  go_enter Try.func11, Try.ntmps11
  go_wp2
  go_loopg [3] nd (fun g i wr => ∃ k : Nat, k ≤ nd ∧ g = nd - k ∧ i = .int .i64 k ∧ w.alloc (.cells #[.string s1, .string s2, .int .i64 i1, .int .i64 i2, .slice fA nf fc, .slice dA nd dc] 25) = wr ∧ (ds.take k).all (fun d => decide (d.src.length ≤ 20)) = true)
  case atStart => exact ⟨0, Nat.zero_le _, rfl, rfl, rfl, rfl⟩
  case round =>
    obtain ⟨k, hk, hg, rfl, rfl, hv⟩ := hrel
    have HV := Lib.hid hv
    have HG := Lib.hid hg
    clear hv hg
    by_cases hlt : k < nd
    · obtain ⟨b, off, d, nA, nn, nc, s, gA, gn, gc, rfl, hbl, hd, c0, c1, c2, c3, hsrc, hlo, hhi⟩ := dep_at HS.out hlt
      have hgn : gn = d.src.length := hsrc.len
      have hgn2 : gn ≤ 9223372036854775807 := by have := hsrc.le; omega
      have HD := Lib.hid hd
      have HGN := Lib.hid hgn
      clear hd hsrc hgn
      by_cases h20 : gn ≤ 20
      · go_wp2
        go_roundg (nd - (k + 1))
        case measure => have := HG.out; omega
        case rel => exact ⟨k + 1, by omega, rfl, by go_num, rfl, by rw [take_snoc HD.out, List.all_append, HV.out]; have := HGN.out; simp; omega⟩
      · have HE : Hid (fewB nf ds = false) := by
          show _ = _
          have : ds.all (fun d => decide (d.src.length ≤ 20)) = false := by
            rw [List.all_eq_false]
            exact ⟨d, List.mem_of_getElem? HD.out, by have := HGN.out; simp; omega⟩
          simp [fewB, this]
        go_wp2
        go_ret
        exact ⟨ret_bool HE.out.symm, (Below.refl _ _).alloc (Nat.le_refl _) _⟩
    · have HE : Hid (fewB nf ds = (decide (nf ≤ 20) && decide (nd ≤ 20))) := by
        have h1 := HV.out
        rw [List.take_of_length_le (by have := HN.out; omega)] at h1
        show _ = _
        unfold fewB
        rw [h1, ← HN.out]; simp
      go_wp2
      all_goals
        go_ret
        refine ⟨ret_bool ?_, (Below.refl _ _).alloc (Nat.le_refl _) _⟩
        rw [HE.out]
        go_light
        rw [Bool.eq_iff_iff]
        simp only [Bool.and_eq_true, decide_eq_true_eq, Bool.false_eq_true]
        first
          | omega
          | (constructor
             · intro h; exact h.elim
             · intro h; exfalso; omega)

def fewI (l : List Inst) : Bool := l.all (fun x => decide (x.length ≤ 20)) && decide (l.length ≤ 12)

set_option maxHeartbeats 400000 in
theorem fewI_any (A : Option Addr) (ln c : Nat) (l : List Inst) (w : World) (hs : SlR 4 instR w (.slice A ln c) l) :
    Calls Try.prog 19 #[.slice A ln c] w fun e w' => e = .returned (.bool (fewI l)) ∧ w = w' := by
  have hn2 : ln ≤ 9223372036854775807 := by have := hs.le; omega
  have HN := Lib.hid hs.len
  have HS := Lib.hid hs
  clear hs
  go_enter Try.func19, Try.ntmps19
  go_wp2
  go_loopg [3] ln (fun g i wr => ∃ k : Nat, k ≤ ln ∧ g = ln - k ∧ i = .int .i64 k ∧ w = wr ∧ (l.take k).all (fun x => decide (x.length ≤ 20)) = true)
  case atStart => exact ⟨0, Nat.zero_le _, rfl, rfl, rfl, rfl⟩
  case round =>
    obtain ⟨k, hk, hg, rfl, rfl, hv⟩ := hrel
    have HV := Lib.hid hv
    have HG := Lib.hid hg
    clear hv hg
    by_cases hlt : k < ln
    · obtain ⟨b, off, x, i1, i2, i3, vA, vn, vc, rfl, hbl, hx, c0, c1, c2, c3, hxs⟩ := inst_at HS.out hlt
      have hvn : vn = x.length := hxs.len
      have hvn2 : vn ≤ 9223372036854775807 := by have := hxs.le; omega
      have HX := Lib.hid hx
      have HVN := Lib.hid hvn
      clear hx hxs hvn
      by_cases h20 : vn ≤ 20
      · go_wp2
        go_roundg (ln - (k + 1))
        case measure => have := HG.out; omega
        case rel => exact ⟨k + 1, by omega, rfl, by go_num, rfl, by rw [take_snoc HX.out, List.all_append, HV.out]; have := HVN.out; simp; omega⟩
      · have HE : Hid (fewI l = false) := by
          show _ = _
          have : l.all (fun x => decide (x.length ≤ 20)) = false := by
            rw [List.all_eq_false]
            exact ⟨x, List.mem_of_getElem? HX.out, by have := HVN.out; simp; omega⟩
          simp [fewI, this]
        go_wp2
        go_ret
        exact ⟨ret_bool HE.out.symm, rfl⟩
    · have HE : Hid (fewI l = decide (ln ≤ 12)) := by
        have h1 := HV.out
        rw [List.take_of_length_le (by have := HN.out; omega)] at h1
        show _ = _
        unfold fewI
        rw [h1, ← HN.out]; simp
      go_wp2
      go_ret
      refine ⟨ret_bool ?_, rfl⟩
      rw [HE.out]
      simp; omega

end Go.Proofs.Ytejjggchjoifoaa
