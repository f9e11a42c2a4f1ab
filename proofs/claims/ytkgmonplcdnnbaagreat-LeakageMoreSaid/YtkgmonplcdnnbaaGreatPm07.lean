/- Contracts of depends.set.has, valid, Check, bitsOf. -/
import Derived.Test.YtkgmonplcdnnbaaGreatPm00
import Derived.Test.YtkgmonplcdnnbaaGreatProg
import Derived.Deep.QuietTactic
import Derived.BigQuiet
namespace Go.Proofs.YtkgmonplcdnnbaaGreat
open Go.RowKit
structure Dep where
 src : List Int
 dst : Int
def vLoop (nf : Nat) : List Int → Nat → Option Nat
 | [], x => some x
 | f :: r, x => if f < 0 ∨ (nf : Int) ≤ f ∨ x.testBit f.toNat then none else vLoop nf r (x ||| 2 ^ f.toNat)
def validB (nf : Nat) (d : Dep) : Bool := match vLoop nf d.src 0 with
 | none => false
 | some x => x != 0 && decide (0 ≤ d.dst) && decide (d.dst < nf) && !x.testBit d.dst.toNat
def checkB (nf : Nat) (ds : List Dep) : Bool := decide (1 ≤ nf) && decide (nf ≤ 12) && decide (ds.length ≤ 12) && ds.all (validB nf)
def eno (b : Bool) : Int := if b then 0 else 130
def bitsL (l : List Int) (x : Nat) : Nat := l.foldl (fun x f => x ||| 2 ^ f.toNat) x
theorem bit_eq (x : Nat) (n : Nat) (hx : x < 4096) : (bits BinOp.and IntKind.u64 (↑x / 2 ^ n) 1 == 1) = x.testBit n := by
 have h1 : ((x : Int) / 2 ^ n) = ((x / 2 ^ n : Nat) : Int) := by simp
 have hlt : x / 2 ^ n < 18446744073709551616 := Nat.lt_of_le_of_lt (Nat.div_le_self _ _) (by omega)
 rw [h1]
 have h2 := u64_and_nat (x / 2 ^ n) 1 hlt (by omega)
 simp only [Int.natCast_one] at h2
 rw [h2, Nat.and_one_is_mod, Nat.testBit_eq_decide_div_mod_eq]
 rcases Nat.mod_two_eq_zero_or_one (x / 2 ^ n) with h | h <;> simp [h]
theorem vLoop_bad {nf : Nat} {f : Int} {r : List Int} {x : Nat} (h : f < 0 ∨ (nf : Int) ≤ f ∨ x.testBit f.toNat = true) : vLoop nf (f :: r) x = none := by
 unfold vLoop; rw [if_pos h]
theorem vLoop_go {nf : Nat} {f : Int} {r : List Int} {x : Nat} (h0 : 0 ≤ f) (h1 : f < (nf : Int)) (h2 : x.testBit f.toNat = false) : vLoop nf (f :: r) x = vLoop nf r (x ||| 2 ^ f.toNat) := by
 rw [vLoop, if_neg]; simp [h2]; omega
theorem or_lt {x n : Nat} (hx : x < 4096) (hn : n < 12) : x ||| 2 ^ n < 4096 := by
 have : 2 ^ n < 2 ^ 12 := Nat.pow_lt_pow_right (by omega) hn
 exact Nat.or_lt_two_pow (n := 12) hx this
theorem castNe (x : Nat) : ((x : Int) != 0) = (x != 0) := by
 rcases Nat.eq_zero_or_pos x with h | h
 · subst h; rfl
 ·
  have h1 : ((x : Int) != 0) = true := by rw [bne_iff_ne]; omega
  have h2 : (x != 0) = true := by rw [bne_iff_ne]; omega
  rw [h1, h2]
theorem validB_none {nf : Nat} {l : List Int} {to : Int} (h : vLoop nf l 0 = none) : validB nf ⟨l, to⟩ = false := by simp [validB, h]
theorem validB_some {nf : Nat} {l : List Int} {to : Int} {x : Nat} (h : vLoop nf l 0 = some x) : validB nf ⟨l, to⟩ = (x != 0 && decide (0 ≤ to) && decide (to < nf) && !x.testBit to.toNat) := by simp [validB, h]
theorem vLoop_end {nf : Nat} {l : List Int} {x k : Nat} {r : Option Nat} (h : vLoop nf (l.drop k) x = r) (hk : l.length ≤ k) : r = some x := by
 rw [List.drop_of_length_le hk] at h; exact h.symm
theorem set_or {x : Nat} {f : Int} (hx : x < 4096) (h1 : f < 12) : bits BinOp.or IntKind.u64 (↑x) (IntKind.u64.wrap (2 ^ f.toNat)) = ((x ||| 2 ^ f.toNat : Nat) : Int) := by
 have h2 : 2 ^ f.toNat < 2 ^ 12 := Nat.pow_lt_pow_right (by omega) (by omega)
 have h2' : 0 ≤ (2 : Int) ^ f.toNat := Int.pow_nonneg (by omega)
 have h3 : ((2 : Int) ^ f.toNat) = ((2 ^ f.toNat : Nat) : Int) := by simp
 have h4 : IntKind.u64.wrap (((2 ^ f.toNat : Nat)) : Int) = ((2 ^ f.toNat : Nat) : Int) := IntWalk.u64_in _ (by omega)
 rw [h3, h4]
 exact u64_or_nat _ _ (by omega) (by omega)
theorem checkB_bad {nf k : Nat} {ds : List Dep} {d : Dep} (h : ds[k]? = some d) (hv : validB nf d = false) : checkB nf ds = false := by
 have : ds.all (validB nf) = false := by
  rw [List.all_eq_false]
  exact ⟨d, List.mem_of_getElem? h, by simp [hv]⟩
 simp [checkB, this]
def addB (x : Nat) (d : Dep) : Bool := (x &&& bitsL d.src 0) == bitsL d.src 0 && !x.testBit d.dst.toNat
def stepX (x : Nat) (d : Dep) : Nat := if addB x d then x ||| 2 ^ d.dst.toNat else x
def okDep (nf : Nat) (d : Dep) : Prop := (∀ f ∈ d.src, 0 ≤ f ∧ f < nf) ∧ 0 ≤ d.dst ∧ d.dst < nf
theorem bitsL_lt {l : List Int} (hl : ∀ f ∈ l, 0 ≤ f ∧ f < 12) : ∀ {x : Nat}, x < 4096 → bitsL l x < 4096 := by
 induction l with
 | nil => exact fun h => h
 |
  cons f r ih =>
  intro x hx
  show bitsL r (x ||| 2 ^ f.toNat) < 4096
  have h1 := hl f (by simp)
  exact ih (fun g hg => hl g (by simp [hg])) (or_lt hx (by omega))
theorem stepX_lt {x : Nat} {d : Dep} (hx : x < 4096) (hd : d.dst < 12) : stepX x d < 4096 := by
 unfold stepX
 split
 · exact or_lt hx (by omega)
 · exact hx
theorem and_cast {x y : Nat} (hx : x < 4096) (hy : y < 4096) : bits BinOp.and IntKind.u64 (x : Int) (y : Int) = ((x &&& y : Nat) : Int) := u64_and_nat x y (by omega) (by omega)
theorem addB_no1 {x : Nat} {d : Dep} (hx : x < 4096) (hl : ∀ f ∈ d.src, 0 ≤ f ∧ f < 12) (h : ¬ bits BinOp.and IntKind.u64 (x : Int) (bitsL d.src 0 : Nat) = (bitsL d.src 0 : Nat)) : addB x d = false := by
 rw [and_cast hx (bitsL_lt hl (by omega))] at h
 have : ((x &&& bitsL d.src 0) == bitsL d.src 0) = false := by simp; omega
 simp [addB, this]
theorem addB_no2 {x : Nat} {d : Dep} (h : x.testBit d.dst.toNat = true) : addB x d = false := by simp [addB, h]
theorem addB_yes {x : Nat} {d : Dep} (hx : x < 4096) (hl : ∀ f ∈ d.src, 0 ≤ f ∧ f < 12) (h : bits BinOp.and IntKind.u64 (x : Int) (bitsL d.src 0 : Nat) = (bitsL d.src 0 : Nat)) (h2 : x.testBit d.dst.toNat = false) : addB x d = true := by
 rw [and_cast hx (bitsL_lt hl (by omega))] at h
 have : ((x &&& bitsL d.src 0) == bitsL d.src 0) = true := by simp; omega
 simp [addB, this, h2]
theorem stepX_no {x : Nat} {d : Dep} (h : addB x d = false) : stepX x d = x := by simp [stepX, h]
theorem stepX_yes {x : Nat} {d : Dep} (h : addB x d = true) : stepX x d = x ||| 2 ^ d.dst.toNat := by simp [stepX, h]
def depR (w : World) (cs : List Value) (d : Dep) : Prop :=
 ∃ nA nn nc s A n c, cs = [.slice nA nn nc, .string s, .slice A n c, .int .i64 d.dst] ∧ SlR 1 intR w (.slice A n c) d.src ∧ -9223372036854775808 ≤ d.dst ∧ d.dst ≤ 9223372036854775807
theorem depR_mono : Mono depR := by
 rintro w w' hb cs x ⟨nA, nn, nc, s, A, n, c, h1, h2, h3⟩
 exact ⟨nA, nn, nc, s, A, n, c, h1, h2.mono intR_mono hb, h3⟩
theorem dep_at {w : World} {A : Option Addr} {n cap : Nat} {l : List Dep} (h : SlR 4 depR w (.slice A n cap) l) {k : Nat} (hk : k < n) :
 ∃ b off d nA nn nc s fA fn fc, A = some ⟨b, off, none⟩ ∧ b < w.heap.size ∧ l[k]? = some d ∧
  w.cell? ⟨b, off + k * 4, none⟩ = some (.slice nA nn nc) ∧ w.cell? ⟨b, off + k * 4 + 1, none⟩ = some (.string s) ∧ w.cell? ⟨b, off + k * 4 + 2, none⟩ = some (.slice fA fn fc) ∧ w.cell? ⟨b, off + k * 4 + 3, none⟩ = some (.int .i64 d.dst) ∧
  SlR 1 intR w (.slice fA fn fc) d.src ∧ -9223372036854775808 ≤ d.dst ∧ d.dst ≤ 9223372036854775807 := by
 obtain ⟨b, off, d, cs, e, hb, hl, hlen, hc, nA, nn, nc, s, fA, fn, fc, rfl, h2, h3⟩ := h.at_ hk
 exact ⟨b, off, d, nA, nn, nc, s, fA, fn, fc, e, hb, hl, by simpa using hc 0 _ rfl, by simpa [Nat.add_assoc] using hc 1 _ rfl, by simpa [Nat.add_assoc] using hc 2 _ rfl, by simpa [Nat.add_assoc] using hc 3 _ rfl, h2, h3⟩
theorem has_any (x : Nat) (f : Int) (w : World) (hx : x < 4096) (h0 : 0 ≤ f) (h1 : f < 64) :
 Calls Tryz.prog 63 #[.int .u64 x, .int .i64 f] w fun e w' => e = .returned (.bool (x.testBit f.toNat)) ∧ w = w' := by
 go_enter Tryz.func63, Tryz.ntmps63
 go_wp2
 go_ret
 refine ⟨?_, rfl⟩
 rw [← bit_eq x _ hx]; rfl
set_option maxHeartbeats 400000 in
theorem valid_any (nA A : Option Addr) (nn nc n c : Nat) (s : ByteArray) (to : Int) (nf : Nat) (l : List Int) (w : World) (hnf : nf ≤ 12) (hs : SlR 1 intR w (.slice A n c) l) :
 Calls Tryz.prog 111 #[.agg #[.slice nA nn nc, .string s, .slice A n c, .int .i64 to], .int .i64 nf] w (Ret (.bool (validB nf ⟨l, to⟩)) w) := by
 have hn2 : n ≤ 9223372036854775807 := by have := hs.le; omega
 have HN := Lib.hid hs.len
 have HS := Lib.hid hs
 clear hs
 go_enter Tryz.func111, Tryz.ntmps111
 go_wp2
 go_loop [5, 11] (fun fr i => ∃ k x : Nat, k ≤ n ∧ i = .int .i64 k ∧ fr = .int .u64 x ∧ x < 4096 ∧ vLoop nf (l.drop k) x = vLoop nf l 0) (fun _ i => n - (intOf i).toNat)
 case atStart => exact ⟨0, 0, Nat.zero_le _, rfl, rfl, by omega, rfl⟩
 case round =>
  obtain ⟨k, x, hk, rfl, rfl, hx, hv⟩ := hrel
  have HV := Lib.hid hv
  clear hv
  by_cases hlt : k < n
  ·
   obtain ⟨b, off, f, rfl, hb, hf, hc, hlo, hhi⟩ := ints_at HS.out hlt
   have HF := Lib.hid hf
   clear hf
   go_wp2_with (go_at_call 63; refine (has_any _ _ _ hx (by omega) (by omega)).mono ?_; rintro e w' ⟨rfl, rfl⟩)
   rotate_left 1
   ·
    have hb2 : x.testBit f.toNat = false := by simp_all
    go_round
    case rel => exact ⟨k + 1, x ||| 2 ^ f.toNat, by omega, by go_num, by rw [set_or hx (by omega)], or_lt hx (by omega), by rw [← HV.out, drop_cons HF.out, vLoop_go (by omega) (by omega) hb2]⟩
    case measure => simp [intOf]; omega
   all_goals
    go_ret
    refine ⟨ret_bool ?_, (Below.refl _ _).alloc (Nat.le_refl _) _⟩
    rw [validB_none]
    rw [← HV.out, drop_cons HF.out, vLoop_bad]
    first | (left; assumption) | (right; left; assumption) | (right; right; rcases ‹_ ∨ _› with (h | h) | h <;> first | exact h | (exfalso; omega))
  ·
   have hv := vLoop_end HV.out (by have := HN.out; omega)
   have HW := Lib.hid (validB_some (to := to) hv)
   clear hv
   go_wp2_with (go_at_call 63; refine (has_any _ _ _ hx (by omega) (by omega)).mono ?_; rintro e w' ⟨rfl, rfl⟩)
   all_goals
    go_ret
    refine ⟨ret_bool ?_, (Below.refl _ _).alloc (Nat.le_refl _) _⟩
    rw [HW.out]
    go_light
    simp [*, castNe]
    try (intros; omega)
set_option maxHeartbeats 400000 in
theorem bitsOf_any (A : Option Addr) (n c : Nat) (l : List Int) (w : World) (hs : SlR 1 intR w (.slice A n c) l) (hl : ∀ x ∈ l, 0 ≤ x ∧ x < 12) :
 Calls Tryz.prog 62 #[.slice A n c] w fun e w' => e = .returned (.int .u64 (bitsL l 0 : Nat)) ∧ w = w' := by
 have hn2 : n ≤ 9223372036854775807 := by have := hs.le; omega
 have HN := Lib.hid hs.len
 have HS := Lib.hid hs
 have HL := Lib.hid hl
 clear hs hl
 go_enter Tryz.func62, Tryz.ntmps62
 go_wp2
 go_loop [2, 7] (fun fr i => ∃ k x : Nat, k ≤ n ∧ i = .int .i64 k ∧ fr = .int .u64 x ∧ x < 4096 ∧ bitsL (l.drop k) x = bitsL l 0) (fun _ i => n - (intOf i).toNat)
 case atStart => exact ⟨0, 0, Nat.zero_le _, rfl, rfl, by omega, rfl⟩
 case round =>
  obtain ⟨k, x, hk, rfl, rfl, hx, hv⟩ := hrel
  have HV := Lib.hid hv
  clear hv
  by_cases hlt : k < n
  ·
   obtain ⟨b, off, f, rfl, hb, hf, hc, hlo, hhi⟩ := ints_at HS.out hlt
   obtain ⟨hf0, hf1⟩ := HL.out f (List.mem_of_getElem? hf)
   have HF := Lib.hid hf
   clear hf
   go_wp2
   go_round
   case rel => exact ⟨k + 1, x ||| 2 ^ f.toNat, by omega, by go_num, by rw [set_or hx (by omega)], or_lt hx (by omega), by rw [← HV.out, drop_cons HF.out]; rfl⟩
   case measure => simp [intOf]; omega
  ·
   have hv : (x : Int) = (bitsL l 0 : Nat) := by
    have h1 := HV.out
    rw [List.drop_of_length_le (by have := HN.out; omega)] at h1
    rw [← h1]; rfl
   have HW := Lib.hid hv
   clear hv
   go_wp2
   go_ret
   exact ⟨ret_int HW.out, rfl⟩
set_option maxHeartbeats 400000 in
theorem check_any (s1 s2 : ByteArray) (i1 i2 : Int) (fA dA : Option Addr) (nf fc nd dc : Nat) (ds : List Dep) (w : World) (hnf : nf ≤ 9223372036854775807) (hs : SlR 4 depR w (.slice dA nd dc) ds) :
 Calls Tryz.prog 60 #[.agg #[.string s1, .string s2, .int .i64 i1, .int .i64 i2, .slice fA nf fc, .slice dA nd dc]] w (Ret (.int .i64 (eno (checkB nf ds))) w) := by
 have hn2 : nd ≤ 9223372036854775807 := by have := hs.le; omega
 have HN := Lib.hid hs.len
 have HS := Lib.hid hs
 clear hs
 by_cases h1 : nf < 1 ∨ 12 < nf ∨ 12 < nd
 ·
  have HC : Hid (checkB nf ds = false) := by
   have := HN.out
   show _ = _
   unfold checkB
   rcases h1 with h | h | h
   · simp [show ¬ 1 ≤ nf by omega]
   · simp [show ¬ nf ≤ 12 by omega]
   · simp [show ¬ ds.length ≤ 12 by omega]
  go_enter Tryz.func60, Tryz.ntmps60
  go_wp2
  all_goals first
   | (go_ret; exact ⟨by rw [HC.out]; rfl, (Below.refl _ _).alloc (Nat.le_refl _) _⟩)
   | (exfalso; omega)
 ·
  have a1 : 1 ≤ nf := by omega
  have a2 : nf ≤ 12 := by omega
  have a3 : nd ≤ 12 := by omega
  clear h1
  have d1 : decide ((nf : Int) < 1) = false := by simp; omega
  have d2 : decide ((12 : Int) < nf) = false := by simp; omega
  have d3 : decide ((12 : Int) < nd) = false := by simp; omega
  go_enter Tryz.func60, Tryz.ntmps60
  go_wp2
  go_loopw [24] (fun i wr => ∃ k : Nat, k ≤ nd ∧ i = .int .i64 k ∧ Below (w.heap.size + 1) (w.alloc (.cells #[.string s1, .string s2, .int .i64 i1, .int .i64 i2, .slice fA nf fc, .slice dA nd dc] 52)) wr ∧ (ds.take k).all (validB nf) = true) (fun i _ => nd - (intOf i).toNat)
  case atStart => exact ⟨0, Nat.zero_le _, rfl, Below.refl _ _, rfl⟩
  case round =>
   obtain ⟨k, hk, rfl, hb, hv⟩ := hrel
   have HV := Lib.hid hv
   clear hv
   have hb0 : Below w.heap.size w wr := ((Below.refl _ _).alloc (Nat.le_refl _) _).trans (hb.mono (by omega))
   have hbx4 : wr.cell? ⟨w.heap.size, 4, none⟩ = some (.slice fA nf fc) := (hb.cell (p := ⟨w.heap.size, 4, none⟩) (by simp)).trans (by simp)
   have hsz : w.heap.size < wr.heap.size := by have := hb.size; simp at this; omega
   by_cases hlt : k < nd
   ·
    obtain ⟨b, off, d, nA, nn, nc, s, gA, gn, gc, rfl, hbl, hd, c0, c1, c2, c3, hsrc, hlo, hhi⟩ := dep_at (HS.out.mono depR_mono hb0) hlt
    have HD := Lib.hid hd
    have HSRC := Lib.hid hsrc
    have HB := Lib.hid hb
    have HB0 := Lib.hid hb0
    clear hd hsrc hb hb0
    obtain ⟨vb, hvb⟩ : ∃ vb, validB nf d = vb := ⟨_, rfl⟩
    have HVB := Lib.hid hvb
    clear hvb
    rcases vb with _ | _
    all_goals
     go_wp2_with (go_at_call 111; refine (valid_any _ _ _ _ _ _ _ _ _ d.src _ a2 (HSRC.out.mono intR_mono ((Below.refl _ _).alloc (Nat.le_refl _) _))).mono ?_; rintro e w1 ⟨rfl, hb1⟩; rw [show validB nf ⟨d.src, d.dst⟩ = _ from HVB.out]; have HB1 := Lib.hid hb1; clear hb1)
    ·
     go_ret
     refine ⟨ret_int ?_, (HB0.out.alloc (by omega) _).trans (HB1.out.mono (by simp; omega))⟩
     rw [checkB_bad HD.out HVB.out]; rfl
    ·
     go_roundw
     case rel => exact ⟨k + 1, by omega, by go_num, (HB.out.alloc (by omega) _).trans (HB1.out.mono (by simp; omega)), by rw [take_snoc HD.out, List.all_append, HV.out]; simp [HVB.out]⟩
     case measure => simp [intOf]; omega
   ·
    have HC : Hid (checkB nf ds = true) := by
     have h1 := HV.out
     have h2 := HN.out
     rw [List.take_of_length_le (by omega)] at h1
     show _ = _
     unfold checkB
     simp [h1, a1, a2]; omega
    go_wp2
    go_ret
    exact ⟨by rw [HC.out]; rfl, hb0⟩
end Go.Proofs.YtkgmonplcdnnbaaGreat
