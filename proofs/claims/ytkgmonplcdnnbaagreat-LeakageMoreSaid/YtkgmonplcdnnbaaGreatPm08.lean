/- What a valid dependency is. Plain (the part of DepW3 that names no function). -/
import Derived.Test.YtkgmonplcdnnbaaGreatPm07
import Derived.RegionTactic
import Derived.Deep.RegionHeld3
import Derived.Deep.RegionWith
import Derived.OwnWalk
namespace Go.Proofs.YtkgmonplcdnnbaaGreat
def pass (ds : List Dep) (x : Nat) : Nat := ds.foldl stepX x
def passN (ds : List Dep) : Nat → Nat → Nat
 | 0, x => x
 | n + 1, x => pass ds (passN ds n x)
def clos (ds : List Dep) (x : Nat) : Nat := passN ds 4096 x
theorem stepX_ge (x : Nat) (d : Dep) : x ≤ stepX x d := by
 unfold stepX; split
 · exact Nat.left_le_or
 · exact Nat.le_refl _
theorem stepX_gt {x : Nat} {d : Dep} (h : addB x d = true) : x < stepX x d := by
 have h1 : x ≤ stepX x d := stepX_ge x d
 have h2 : x ≠ stepX x d := by
  intro e
  rw [stepX_yes h] at e
  have h3 : x.testBit d.dst.toNat = false := by
   simp only [addB, Bool.and_eq_true, Bool.not_eq_true'] at h
   exact h.2
  rw [e] at h3
  simp [Nat.testBit_two_pow_self] at h3
 omega
theorem foldl_ge (ds : List Dep) : ∀ x : Nat, x ≤ ds.foldl stepX x := by
 induction ds with
 | nil => exact fun x => Nat.le_refl x
 | cons d r ih => exact fun x => Nat.le_trans (stepX_ge x d) (ih _)
theorem foldl_lt {ds : List Dep} (hd : ∀ d ∈ ds, okDep 12 d) : ∀ {x : Nat}, x < 4096 → ds.foldl stepX x < 4096 := by
 induction ds with
 | nil => exact fun h => h
 | cons d r ih => exact fun hx => ih (fun e he => hd e (by simp [he])) (stepX_lt hx (hd d (by simp)).2.2)
theorem passN_lt {ds : List Dep} (hd : ∀ d ∈ ds, okDep 12 d) {x : Nat} (hx : x < 4096) (n : Nat) : passN ds n x < 4096 := by
 induction n with
 | zero => exact hx
 | succ n ih => exact foldl_lt hd ih
theorem passN_grow (ds : List Dep) (x : Nat) : ∀ n, pass ds (passN ds n x) = passN ds n x ∨ n + 1 ≤ passN ds (n + 1) x := by
 intro n
 induction n with
 |
  zero =>
  have := foldl_ge ds x
  by_cases e : pass ds x = x
  · exact .inl e
  ·
   right; show 1 ≤ pass ds x
   have h1 : x ≤ pass ds x := this
   omega
 |
  succ n ih =>
  by_cases e : pass ds (passN ds (n + 1) x) = passN ds (n + 1) x
  · exact .inl e
  ·
   right
   have h1 : passN ds (n + 1) x ≤ pass ds (passN ds (n + 1) x) := foldl_ge ds _
   have h2 : n + 1 ≤ passN ds (n + 1) x := by
    rcases ih with h | h
    ·
     exfalso; apply e
     have h3 : passN ds (n + 1) x = passN ds n x := h
     rw [h3]; exact h
    · exact h
   show n + 1 + 1 ≤ pass ds (passN ds (n + 1) x)
   omega
theorem clos_fix {ds : List Dep} (hd : ∀ d ∈ ds, okDep 12 d) {x : Nat} (hx : x < 4096) : pass ds (clos ds x) = clos ds x := by
 rcases passN_grow ds x 4096 with h | h
 · exact h
 · have := passN_lt hd hx (4096 + 1); omega
theorem passN_stay {ds : List Dep} {x n : Nat} (h : pass ds (passN ds n x) = passN ds n x) (m : Nat) : passN ds (n + m) x = passN ds n x := by
 induction m with
 | zero => rfl
 | succ m ih => show pass ds (passN ds (n + m) x) = _; rw [ih, h]
theorem clos_of_fix {ds : List Dep} (hd : ∀ d ∈ ds, okDep 12 d) {x : Nat} (hx : x < 4096) {n : Nat} (h : pass ds (passN ds n x) = passN ds n x) : passN ds n x = clos ds x := by
 rcases Nat.le_total n 4096 with hn | hn
 ·
  have := passN_stay h (4096 - n)
  rw [show n + (4096 - n) = 4096 by omega] at this
  exact this.symm
 ·
  have := passN_stay (n := 4096) (clos_fix hd hx) (n - 4096)
  rw [show 4096 + (n - 4096) = n by omega] at this
  exact this
open Go.RowKit
set_option maxHeartbeats 400000 in
theorem add_any (nA A : Option Addr) (nn nc n c px : Nat) (s : ByteArray) (d : Dep) (x : Nat) (w : World) (hs : SlR 1 intR w (.slice A n c) d.src) (hd : okDep 12 d) (hx : x < 4096) (hp : Blk w px 105 #[.int .u64 x]) :
 Calls Tryz.prog 112 #[.agg #[.slice nA nn nc, .string s, .slice A n c, .int .i64 d.dst], .pointer (some ⟨px, 0, none⟩)] w
  fun e w' => e = .returned (.bool (addB x d)) ∧ w.grownBy w' (some px) ∧ Blk w' px 105 #[.int .u64 (stepX x d)] := by
 have hc := hp.cell 0
 have hf := hp.frozen 0
 have hlt := hp.lt
 have h0 := hd.2.1
 have h1 := hd.2.2
 have HS := Lib.hid hs
 have HP := Lib.hid hp
 have HD := Lib.hid hd
 clear hs hp hd
 go_enter Tryz.func112, Tryz.ntmps112
 go_wp2_with (first
  | (go_at_call 62; refine (bitsOf_any _ _ _ d.src _ (HS.out.mono intR_mono ((Below.refl _ _).alloc (Nat.le_refl _) _)) HD.out.1).mono ?_; rintro e w' ⟨rfl, rfl⟩)
  | (go_at_call 63; refine (has_any _ _ _ hx (by omega) (by omega)).mono ?_; rintro e w' ⟨rfl, rfl⟩))
 ·
  have hno := addB_no2 (d := d) ‹x.testBit d.dst.toNat = true›
  go_ret
  refine ⟨by rw [hno]; rfl, grown_alloc (World.grownBy.refl w _) _, ?_⟩
  rw [stepX_no hno]
  exact HP.out.alloc _
 ·
  have hyes := addB_yes hx HD.out.1 ‹_› ‹x.testBit d.dst.toNat = false›
  have hor := set_or hx h1
  have HY := Lib.hid hyes
  have HO := Lib.hid hor
  clear hyes hor
  go_region
  go_wp2
  go_ret
  refine ⟨by rw [HY.out]; rfl, ?_, ?_⟩
  · exact grown_drew (grown_alloc (grown_put (World.grownBy.refl w _) 0 _) _)
  ·
   rw [stepX_yes HY.out, ← HO.out]
   exact ((HP.out.put 0 _).alloc _).drew
 ·
  have hno := addB_no1 hx HD.out.1 ‹_›
  go_ret
  refine ⟨by rw [hno]; rfl, grown_alloc (World.grownBy.refl w _) _, ?_⟩
  rw [stepX_no hno]
  exact HP.out.alloc _
set_option maxHeartbeats 800000 in
theorem closure_any (s1 s2 : ByteArray) (i1 i2 : Int) (fA dA : Option Addr) (nf fc nd dc : Nat) (ds : List Dep) (x : Nat) (w : World) (hs : SlR 4 depR w (.slice dA nd dc) ds) (hd : ∀ d ∈ ds, okDep 12 d) (hx : x < 4096) :
 Calls Tryz.prog 61 #[.agg #[.string s1, .string s2, .int .i64 i1, .int .i64 i2, .slice fA nf fc, .slice dA nd dc], .int .u64 x] w (Ret (.int .u64 (clos ds x : Nat)) w) := by
 have hn2 : nd ≤ 9223372036854775807 := by have := hs.le; omega
 have HN := Lib.hid hs.len
 have HS := Lib.hid hs
 have HD := Lib.hid hd
 clear hs hd
 have hmf : ∀ (fn : Fn) (first cap : Array Value) (w : World), (Instr.makeFunc fn first cap).run Tryz.prog w = .ok (.func fn first cap) w := fun _ _ _ _ => rfl
 go_enter Tryz.func61, Tryz.ntmps61
 go_wp2
 go_loopg [6] (2 * (4096 - x) + 1) (fun k m wr => ∃ (y j : Nat) (mb : Bool), m = .bool mb ∧ k = 2 * (4096 - y) + mb.toNat ∧ y < 4096 ∧ y = passN ds j x ∧ (mb = false → pass ds y = y) ∧
  Below (w.heap.size + 1) (w.alloc (.cells #[.string s1, .string s2, .int .i64 i1, .int .i64 i2, .slice fA nf fc, .slice dA nd dc] 52)) wr ∧ Blk wr (w.heap.size + 1) 105 #[.int .u64 y])
 case atStart => exact ⟨x, 0, true, rfl, rfl, hx, rfl, by simp, (Below.refl _ _).alloc (by simp) _, by simpa using Blk.new (w.alloc _) 105 #[.int .u64 x]⟩
 case round =>
  obtain ⟨y, j, mb, rfl, hk, hy, hj, hm, hb, hbx⟩ := hrel
  have hc5 : wr.cell? ⟨w.heap.size, 5, none⟩ = some (.slice dA nd dc) := (hb.cell (p := ⟨w.heap.size, 5, none⟩) (by simp)).trans (by simp)
  have hcx : wr.cell? ⟨w.heap.size + 1, 0, none⟩ = some (.int .u64 y) := hbx.cell 0
  have HK := Lib.hid hk
  have HJ := Lib.hid hj
  have HM := Lib.hid hm
  have HB := Lib.hid hb
  have HBX := Lib.hid hbx
  clear hk hj hm hb hbx
  rcases mb with _ | _
  ·
   have HF := Lib.hid (HM.out rfl)
   clear HM
   go_wp2
   go_ret
   refine ⟨ret_int ?_, ((Below.refl _ _).alloc (Nat.le_refl _) _).trans (HB.out.mono (by omega))⟩
   have h1 := HF.out
   have h2 := HJ.out
   rw [h2] at h1
   rw [h2, clos_of_fix HD.out hx h1]
  ·
   go_wp2
   go_loopg [6, 14] nd (fun k m i wr => ∃ (q : Nat) (mb : Bool), q ≤ nd ∧ k = nd - q ∧ i = .int .i64 q ∧ m = .bool mb ∧ mb = decide (y < (ds.take q).foldl stepX y) ∧
    Below (w.heap.size + 1) (w.alloc (.cells #[.string s1, .string s2, .int .i64 i1, .int .i64 i2, .slice fA nf fc, .slice dA nd dc] 52)) wr ∧ Blk wr (w.heap.size + 1) 105 #[.int .u64 ((ds.take q).foldl stepX y : Nat)])
   case atStart => exact ⟨0, false, Nat.zero_le _, rfl, rfl, rfl, by simp, HB.out, HBX.out⟩
   case round =>
    obtain ⟨q, mb, hq, hgk, rfl, rfl, hmb, hb, hbx⟩ := hrel
    have hyl : (ds.take q).foldl stepX y < 4096 := foldl_lt (fun d hd => HD.out d (List.mem_of_mem_take hd)) hy
    have hyg := foldl_ge (ds.take q) y
    obtain ⟨z, hz⟩ : ∃ z, (ds.take q).foldl stepX y = z := ⟨_, rfl⟩
    rw [hz] at hyl hyg hmb hbx
    have hcz : wr.cell? ⟨w.heap.size + 1, 0, none⟩ = some (.int .u64 z) := hbx.cell 0
    have hb0 : Below w.heap.size w wr := ((Below.refl _ _).alloc (Nat.le_refl _) _).trans (hb.mono (by omega))
    have hsz : w.heap.size + 1 < wr.heap.size := hbx.lt
    have HZ := Lib.hid hz
    have HGK := Lib.hid hgk
    have HMB := Lib.hid hmb
    have HB1 := Lib.hid hb
    have HBX1 := Lib.hid hbx
    clear hz hgk hmb hb hbx hcx hc5
    by_cases hlt : q < nd
    ·
     obtain ⟨b, off, d, nA, nn, nc, s, gA, gn, gc, rfl, hbl, hd, c0, c1, c2, c3, hsrc, hlo, hhi⟩ := dep_at (HS.out.mono depR_mono hb0) hlt
     have hok := HD.out d (List.mem_of_getElem? hd)
     have HOK := Lib.hid hok
     have HDD := Lib.hid hd
     have HSRC := Lib.hid hsrc
     have HB0 := Lib.hid hb0
     clear hd hsrc hb0 hok
     obtain ⟨ab, hab⟩ : ∃ ab, addB z d = ab := ⟨_, rfl⟩
     have HAB := Lib.hid hab
     clear hab
     have HNX : Hid ((ds.take (q + 1)).foldl stepX y = stepX z d) := by
      show _ = _
      rw [take_snoc HDD.out, List.foldl_append, HZ.out]; rfl
     rcases ab with _ | _
     all_goals
      go_wp2_with (go_at_call 112; refine (add_any _ _ _ _ _ _ _ _ d z _ (HSRC.out.mono intR_mono ((Below.refl _ _).alloc (Nat.le_refl _) _)) HOK.out hyl (HBX1.out.alloc _)).mono ?_; rintro e w1 ⟨rfl, hg1, hbx1⟩; rw [HAB.out]; have HG1 := Lib.hid hg1; have HX1 := Lib.hid hbx1; clear hg1 hbx1)
     ·
      go_roundg (nd - (q + 1))
      case measure => have := HGK.out; omega
      case rel =>
       refine ⟨q + 1, mb, by omega, rfl, by go_num, rfl, ?_, (HB1.out.alloc (by omega) _).grown HG1.out (by simp; omega) (by intro k hk; cases hk; omega), ?_⟩
       · rw [HNX.out, stepX_no HAB.out]; exact HMB.out
       · rw [HNX.out]; exact HX1.out
     ·
      go_roundg (nd - (q + 1))
      case measure => have := HGK.out; omega
      case rel =>
       refine ⟨q + 1, true, by omega, rfl, by go_num, rfl, ?_, (HB1.out.alloc (by omega) _).grown HG1.out (by simp; omega) (by intro k hk; cases hk; omega), ?_⟩
       · rw [HNX.out]; have := stepX_gt HAB.out; simp; omega
       · rw [HNX.out]; exact HX1.out
    ·
     have hp : pass ds y = z := by
      have h1 := HZ.out
      rw [List.take_of_length_le (by have := HN.out; omega)] at h1
      exact h1
     have HP := Lib.hid hp
     clear hp
     go_wp2
     go_roundg (2 * (4096 - z) + mb.toNat)
     case measure =>
      have h1 := HK.out
      have h2 := HMB.out
      rw [h1]
      rcases Nat.lt_or_ge y z with h | h
      ·
       have : mb.toNat ≤ 1 := by cases mb <;> simp
       simp; omega
      ·
       have : mb = false := by rw [h2]; simp; omega
       rw [this]; simp; omega
     case rel =>
      refine ⟨z, j + 1, mb, rfl, rfl, hyl, ?_, ?_, HB1.out, HBX1.out⟩
      · rw [← HP.out, HJ.out]; rfl
      ·
       intro e
       have h2 := HMB.out
       rw [e] at h2
       have h3 : z = y := by have := of_decide_eq_false h2.symm; omega
       have h4 := HP.out
       rw [← h3] at h4
       exact h4
theorem vLoop_ok {nf : Nat} : ∀ {l : List Int} {x y : Nat}, vLoop nf l x = some y → ∀ f ∈ l, 0 ≤ f ∧ f < (nf : Int) := by
 intro l
 induction l with
 | nil => intro x y _ f hf; simp at hf
 |
  cons a r ih =>
  intro x y h f hf
  unfold vLoop at h
  split at h
  · cases h
  ·
   rename_i hn
   rcases List.mem_cons.1 hf with rfl | hr
   · omega
   · exact ih h f hr
theorem validB_ok {nf : Nat} {d : Dep} (h : validB nf d = true) : okDep nf d := by
 unfold validB at h
 split at h
 · cases h
 ·
  rename_i x hx
  simp only [Bool.and_eq_true, decide_eq_true_eq] at h
  exact ⟨vLoop_ok hx, h.1.1.2, h.1.2⟩
theorem checkB_ok {nf : Nat} {ds : List Dep} (h : checkB nf ds = true) : 1 ≤ nf ∧ nf ≤ 12 ∧ ds.length ≤ 12 ∧ ∀ d ∈ ds, okDep nf d := by
 simp only [checkB, Bool.and_eq_true, decide_eq_true_eq, List.all_eq_true] at h
 exact ⟨h.1.1.1, h.1.1.2, h.1.2, fun d hd => validB_ok (h.2 d hd)⟩
theorem okDep_12 {nf : Nat} (hn : nf ≤ 12) {d : Dep} (h : okDep nf d) : okDep 12 d :=
 ⟨fun f hf => by have := h.1 f hf; omega, h.2.1, by have := h.2.2; omega⟩
end Go.Proofs.YtkgmonplcdnnbaaGreat
