/- The law DependsSpec returns true. -/
import Derived.Test.YtejjggchjoifoaaDepSane
namespace Go.Proofs.Ytejjggchjoifoaa
open Go.RowKit

/-- The law's world: the schema's box stands. -/
structure SpW (w : World) (p : Nat) (sc : Array Value) (W : World) : Prop where
  old : Below w.heap.size w W
  bs : Blk W p 25 sc
theorem SpW.below {w : World} {p : Nat} {sc : Array Value} {W W' : World} (h : SpW w p sc W) (hb : Below W.heap.size W W') : SpW w p sc W' :=
  ⟨h.old.trans (hb.mono h.old.size), h.bs.below hb h.bs.lt⟩
theorem SpW.six {w : World} {p : Nat} {v0 v1 v2 v3 v4 v5 : Value} {W : World} (h : SpW w p #[v0, v1, v2, v3, v4, v5] W) :
    W.cell? ⟨p, 0, none⟩ = some v0 ∧ W.cell? ⟨p, 1, none⟩ = some v1 ∧ W.cell? ⟨p, 2, none⟩ = some v2 ∧ W.cell? ⟨p, 3, none⟩ = some v3 ∧ W.cell? ⟨p, 4, none⟩ = some v4 ∧ W.cell? ⟨p, 5, none⟩ = some v5 :=
  ⟨h.bs.cell 0, h.bs.cell 1, h.bs.cell 2, h.bs.cell 3, h.bs.cell 4, h.bs.cell 5⟩
def SixB (p : Nat) (v0 v1 v2 v3 v4 v5 : Value) (w8 : World) (W : World) : Prop :=
  W.cell? ⟨p, 0, none⟩ = some v0 ∧ W.cell? ⟨p, 1, none⟩ = some v1 ∧ W.cell? ⟨p, 2, none⟩ = some v2 ∧ W.cell? ⟨p, 3, none⟩ = some v3 ∧ W.cell? ⟨p, 4, none⟩ = some v4 ∧ W.cell? ⟨p, 5, none⟩ = some v5 ∧ Below w8.heap.size w8 W
theorem SpW.sixB {w : World} {p : Nat} {v0 v1 v2 v3 v4 v5 : Value} {w8 W W' : World} (h : SpW w p #[v0, v1, v2, v3, v4, v5] w8) (h1 : Below w8.heap.size w8 W) (h2 : Below W.heap.size W W') : SixB p v0 v1 v2 v3 v4 v5 w8 W' := by
  have hb : Below w8.heap.size w8 W' := h1.trans (h2.mono h1.size)
  obtain ⟨a, b, c, d, e, f⟩ := (h.below hb).six
  exact ⟨a, b, c, d, e, f, hb⟩
theorem Blk.four {t : TypeId} {q : Nat} {v0 v1 v2 v3 : Value} {W : World} (h : Blk W q t #[v0, v1, v2, v3]) :
    W.cell? ⟨q, 0, none⟩ = some v0 ∧ W.cell? ⟨q, 1, none⟩ = some v1 ∧ W.cell? ⟨q, 2, none⟩ = some v2 ∧ W.cell? ⟨q, 3, none⟩ = some v3 :=
  ⟨h.cell 0, h.cell 1, h.cell 2, h.cell 3⟩

theorem same_ret (A B : Option Addr) (n c m d : Nat) (l r : List Int) (w : World) (hs : SlR 1 intR w (.slice A n c) l) (hr : SlR 1 intR w (.slice B m d) r) :
    Calls Try.prog 18 #[.slice A n c, .slice B m d] w (Ret (.bool (decide (l = r))) w) := by
  refine (same_any A B n c m d l r w hs hr).mono ?_
  rintro e w' ⟨rfl, k, rfl⟩
  exact ⟨rfl, below_drewN (Below.refl _ _) k⟩


set_option maxHeartbeats 2000000 in
theorem spec_any (s1 s2 : ByteArray) (i1 i2 : Int) (fA dA : Option Addr) (nf fc nd dc : Nat) (ds : List Dep) (A : Option Addr) (n c : Nat) (l : List Int) (nA B : Option Addr) (nn nc m k : Nat) (s : ByteArray) (d : Dep) (w : World)
    (hnf : nf ≤ 9223372036854775807) (hs : SlR 4 depR w (.slice dA nd dc) ds) (hl : SlR 1 intR w (.slice A n c) l) (hd : SlR 1 intR w (.slice B m k) d.src) :
    Calls Try.prog 3 #[.agg #[.string s1, .string s2, .int .i64 i1, .int .i64 i2, .slice fA nf fc, .slice dA nd dc], .slice A n c, .agg #[.slice nA nn nc, .string s, .slice B m k, .int .i64 d.dst]] w (Ret (.bool true) w) := by
  have hn2 : n ≤ 9223372036854775807 := by have := hl.le; omega
  have hm2 : m ≤ 9223372036854775807 := by have := hd.le; omega
  have HS := Lib.hid hs
  have HL := Lib.hid hl
  have HD := Lib.hid hd
  clear hs hl hd
  go_enter Try.func3, Try.ntmps3
  go_wp2_with fail
  refine (sane_any _).mono ?_
  rintro e w3 ⟨rfl, hb3⟩
  have hsp : SpW w w.heap.size #[.string s1, .string s2, .int .i64 i1, .int .i64 i2, .slice fA nf fc, .slice dA nd dc] w3 :=
    (SpW.mk (((Below.refl _ _).alloc (Nat.le_refl _) _).alloc (by simp) _) ((Blk.new _ _ _).alloc _)).below hb3
  have hq : Blk w3 (w.heap.size + 1) 29 #[.slice nA nn nc, .string s, .slice B m k, .int .i64 d.dst] := (Blk.new1 _ _ _ _).below hb3 (Blk.new1 _ _ _ _).lt
  clear hb3
  obtain ⟨p, hp⟩ : ∃ p, p = w.heap.size := ⟨_, rfl⟩
  obtain ⟨q, hq'⟩ : ∃ q, q = w.heap.size + 1 := ⟨_, rfl⟩
  rw [← hq'] at hq ⊢
  rw [← hp] at hsp ⊢
  clear hp hq'
  obtain ⟨q0, q1, q2, q3, q4, q5⟩ := hsp.six
  obtain ⟨c0, c1, c2, c3⟩ := hq.four
  have lp := hsp.bs.lt
  have lq := hq.lt
  have H3 := Lib.hid hsp
  have Q3 := Lib.hid hq
  clear hsp hq
  go_wp2_with fail
  refine (few_any s1 s2 i1 i2 fA dA nf fc nd dc ds _ hnf (HS.out.mono depR_mono H3.out.old)).mono ?_
  rintro e w4 ⟨rfl, hb4⟩
  have hsp := H3.out.below hb4
  have hq := Q3.out.below hb4 Q3.out.lt
  clear q0 q1 q2 q3 q4 q5 c0 c1 c2 c3 lp lq H3 Q3
  obtain ⟨q0, q1, q2, q3, q4, q5⟩ := hsp.six
  obtain ⟨c0, c1, c2, c3⟩ := hq.four
  have lp := hsp.bs.lt
  have lq := hq.lt
  have H4 := Lib.hid hsp
  have Q4 := Lib.hid hq
  clear hsp hq hb4
  obtain ⟨fb, hfb⟩ : ∃ fb, fewB nf ds = fb := ⟨_, rfl⟩
  rw [hfb]
  have HF := Lib.hid hfb
  clear hfb
  cases fb
  · go_wp2
    go_ret
    exact ⟨rfl, H4.out.old⟩
  by_cases h1 : 30 < n
  · go_wp2
    go_ret
    exact ⟨rfl, H4.out.old⟩
  by_cases h2 : 30 < m
  · go_wp2
    go_ret
    exact ⟨rfl, H4.out.old⟩
  go_wp2_with fail
  refine (Closure_any s1 s2 i1 i2 fA dA nf fc nd dc ds A n c l _ hnf (HS.out.mono depR_mono H4.out.old) (HL.out.mono intR_mono H4.out.old)).mono ?_
  rintro e w5 ⟨x, rfl, hx, hb5⟩
  have hsp := H4.out.below hb5
  have hq := Q4.out.below hb5 Q4.out.lt
  clear q0 q1 q2 q3 q4 q5 c0 c1 c2 c3 lp lq H4 Q4
  obtain ⟨q0, q1, q2, q3, q4, q5⟩ := hsp.six
  obtain ⟨c0, c1, c2, c3⟩ := hq.four
  have lp := hsp.bs.lt
  have lq := hq.lt
  have H5 := Lib.hid hsp
  have Q5 := Lib.hid hq
  have HX := Lib.hid hx
  clear hsp hq hb5 hx
  go_wp2_with fail
  refine (refClosure_any s1 s2 i1 i2 fA dA nf fc nd dc ds A n c l _ hnf (HS.out.mono depR_mono H5.out.old) (HL.out.mono intR_mono H5.out.old)).mono ?_
  rintro e w6 ⟨y, rfl, hy, hb6⟩
  have hsp := H5.out.below hb6
  have hq := Q5.out.below hb6 Q5.out.lt
  clear q0 q1 q2 q3 q4 q5 c0 c1 c2 c3 lp lq H5 Q5
  obtain ⟨q0, q1, q2, q3, q4, q5⟩ := hsp.six
  obtain ⟨c0, c1, c2, c3⟩ := hq.four
  have lp := hsp.bs.lt
  have lq := hq.lt
  have H6 := Lib.hid hsp
  have Q6 := Lib.hid hq
  replace HX := Lib.hid (HX.out.mono intR_mono hb6)
  have HY := Lib.hid hy
  clear hsp hq hb6 hy
  go_wp2_with fail
  refine (implied_any s1 s2 i1 i2 fA dA nf fc nd dc ds nA B nn nc m k s d _ hnf (HS.out.mono depR_mono H6.out.old) (HD.out.mono intR_mono H6.out.old)).mono ?_
  rintro e w7 ⟨rfl, hb7⟩
  have hsp := H6.out.below hb7
  have hq := Q6.out.below hb7 Q6.out.lt
  clear q0 q1 q2 q3 q4 q5 c0 c1 c2 c3 lp lq H6 Q6
  obtain ⟨q0, q1, q2, q3, q4, q5⟩ := hsp.six
  obtain ⟨c0, c1, c2, c3⟩ := hq.four
  have lp := hsp.bs.lt
  have lq := hq.lt
  have H7 := Lib.hid hsp
  have Q7 := Lib.hid hq
  replace HX := Lib.hid (HX.out.mono intR_mono hb7)
  replace HY := Lib.hid (HY.out.mono intR_mono hb7)
  clear hsp hq hb7
  go_wp2_with fail
  refine (refImplied_any s1 s2 i1 i2 fA dA nf fc nd dc ds nA B nn nc m k s d _ hnf (HS.out.mono depR_mono H7.out.old) (HD.out.mono intR_mono H7.out.old)).mono ?_
  rintro e w8 ⟨rfl, hb8⟩
  have hsp := H7.out.below hb8
  have hq := Q7.out.below hb8 Q7.out.lt
  clear q0 q1 q2 q3 q4 q5 c0 c1 c2 c3 lp lq H7 Q7
  obtain ⟨q0, q1, q2, q3, q4, q5⟩ := hsp.six
  obtain ⟨c0, c1, c2, c3⟩ := hq.four
  have lp := hsp.bs.lt
  have lq := hq.lt
  have H8 := Lib.hid hsp
  have Q8 := Lib.hid hq
  replace HX := Lib.hid (HX.out.mono intR_mono hb8)
  replace HY := Lib.hid (HY.out.mono intR_mono hb8)
  clear hsp hq hb8
  generalize hA1 : (checkB nf ds && validB nf d && impB ds d) = a1
  generalize hA2 : eno (checkB nf ds && validB nf d) = a2
  generalize hA3 : eno (closOk nf ds l) = a3
  generalize hA4 : eno (checkB nf ds) = a4
  obtain ⟨X, cx, rfl, -⟩ := HX.out
  obtain ⟨Y, cy, rfl, -⟩ := HY.out
  clear hA1 hA2 hA3 hA4 HD HL
  go_wp2_with fail
  go_region_held3 (fun w' => w'.cell? ⟨p, 0, none⟩ = some (.string s1) ∧ w'.cell? ⟨p, 1, none⟩ = some (.string s2) ∧ w'.cell? ⟨p, 2, none⟩ = some (.int .i64 i1) ∧ w'.cell? ⟨p, 3, none⟩ = some (.int .i64 i2) ∧ w'.cell? ⟨p, 4, none⟩ = some (.slice fA nf fc) ∧ w'.cell? ⟨p, 5, none⟩ = some (.slice dA nd dc) ∧ Below w8.heap.size w8 w')
    (first | exact H8.out.sixB (by first | assumption | (go_split_ands; assumption)) hbx | exact H8.out.sixB (Below.refl _ _) (Below.refl _ _).drew | exact H8.out.sixB (Below.refl _ _) (Below.refl _ _))
    (first
      | (go_at_call 16; refine (check_any s1 s2 i1 i2 fA dA nf fc nd dc ds _ hnf (HS.out.mono depR_mono (H8.out.below (by first | assumption | (go_split_ands; assumption))).old)).mono ?_; rintro e wx ⟨rfl, hbx⟩)
      | (go_at_call 17; refine (refCheck_any s1 s2 i1 i2 fA dA nf fc nd dc ds _ hnf (HS.out.mono depR_mono (H8.out.below (by first | assumption | (go_split_ands; assumption))).old)).mono ?_; rintro e wx ⟨rfl, hbx⟩)
      | (go_at_call 18; refine (same_ret X Y _ cx _ cy _ _ _ (HX.out.mono intR_mono (by first | assumption | (go_split_ands; assumption))) (HY.out.mono intR_mono (by first | assumption | (go_split_ands; assumption)))).mono ?_; rintro e wx ⟨rfl, hbx⟩; rw [decide_eq_true (show closL nf ds l = closL nf ds l from rfl)]))
  all_goals
    have hbf : Below w8.heap.size w8 wx := by first | assumption | (go_split_ands; assumption)
    have HBF := Lib.hid (H8.out.below hbf).old
    clear hbf
    go_wp2
    go_ret
    exact ⟨rfl, HBF.out⟩

end Go.Proofs.Ytejjggchjoifoaa
