/- The law DependsBrokenSpec returns true. -/
import Derived.Test.YtejjggchjoifoaaDepR6
namespace Go.Proofs.Ytejjggchjoifoaa
open Go.RowKit

set_option maxHeartbeats 2000000 in
theorem brokenSpec_law (s1 s2 : ByteArray) (i1 i2 : Int) (fA dA : Option Addr) (nf fc nd dc : Nat) (ds : List Dep) (A : Option Addr) (ln c : Nat) (l : List Inst) (w : World)
    (hnf : nf ≤ 9223372036854775807) (hs : SlR 4 depR w (.slice dA nd dc) ds) (hl : SlR 4 instR w (.slice A ln c) l) :
    Calls Try.prog 4 #[.agg #[.string s1, .string s2, .int .i64 i1, .int .i64 i2, .slice fA nf fc, .slice dA nd dc], .slice A ln c] w (Ret (.bool true) w) := by
  have HS := Lib.hid hs
  have HL := Lib.hid hl
  clear hs hl
  go_enter Try.func4, Try.ntmps4
  go_wp2_with fail
  refine (sane_any _).mono ?_
  rintro e w3 ⟨rfl, hb3⟩
  have hsp : SpW w w.heap.size #[.string s1, .string s2, .int .i64 i1, .int .i64 i2, .slice fA nf fc, .slice dA nd dc] w3 :=
    (SpW.mk ((Below.refl _ _).alloc (Nat.le_refl _) _) (Blk.new _ _ _)).below hb3
  clear hb3
  obtain ⟨p, hp⟩ : ∃ p, p = w.heap.size := ⟨_, rfl⟩
  rw [← hp] at hsp ⊢
  clear hp
  obtain ⟨q0, q1, q2, q3, q4, q5⟩ := hsp.six
  have lp := hsp.bs.lt
  have H3 := Lib.hid hsp
  clear hsp
  go_wp2_with fail
  refine (few_any s1 s2 i1 i2 fA dA nf fc nd dc ds _ hnf (HS.out.mono depR_mono H3.out.old)).mono ?_
  rintro e w4 ⟨rfl, hb4⟩
  have hsp := H3.out.below hb4
  clear q0 q1 q2 q3 q4 q5 lp H3
  obtain ⟨q0, q1, q2, q3, q4, q5⟩ := hsp.six
  have lp := hsp.bs.lt
  have H4 := Lib.hid hsp
  clear hsp hb4
  obtain ⟨fb, hfb⟩ : ∃ fb, fewB nf ds = fb := ⟨_, rfl⟩
  rw [hfb]
  clear hfb
  cases fb
  · go_wp2
    go_ret
    exact ⟨rfl, H4.out.old⟩
  go_wp2_with fail
  refine (fewI_any A ln c l _ (HL.out.mono instR_mono H4.out.old)).mono ?_
  rintro e w' ⟨rfl, rfl⟩
  obtain ⟨fb, hfb⟩ : ∃ fb, fewI l = fb := ⟨_, rfl⟩
  rw [hfb]
  clear hfb
  cases fb
  · go_wp2
    go_ret
    exact ⟨rfl, H4.out.old⟩
  go_wp2_with fail
  refine (Broken_any s1 s2 i1 i2 fA dA nf fc nd dc ds A ln c l _ hnf (HS.out.mono depR_mono H4.out.old) (HL.out.mono instR_mono H4.out.old)).mono ?_
  rintro e w5 ⟨rfl, hb5⟩
  have hsp := H4.out.below hb5
  clear q0 q1 q2 q3 q4 q5 lp H4
  obtain ⟨q0, q1, q2, q3, q4, q5⟩ := hsp.six
  have lp := hsp.bs.lt
  have H5 := Lib.hid hsp
  clear hsp hb5
  go_wp2_with fail
  refine (refBroken_any s1 s2 i1 i2 fA dA nf fc nd dc ds A ln c l _ hnf (HS.out.mono depR_mono H5.out.old) (HL.out.mono instR_mono H5.out.old)).mono ?_
  rintro e w6 ⟨rfl, hb6⟩
  have H6 := Lib.hid (H5.out.below hb6)
  clear q0 q1 q2 q3 q4 q5 lp H5 hb6
  generalize eno (brokenOk nf ds l) = ee
  obtain ⟨a, b, k, ok⟩ := brokenS nf ds l
  go_wp2
  go_ret
  exact ⟨rfl, H6.out.old⟩

end Go.Proofs.Ytejjggchjoifoaa
