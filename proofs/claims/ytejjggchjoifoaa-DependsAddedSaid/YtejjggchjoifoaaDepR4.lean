/- Contracts of the reference's Breaks and of the law's breaks. -/
import Derived.Test.YtejjggchjoifoaaDepBrk
import Derived.Test.YtejjggchjoifoaaDepR1
namespace Go.Proofs.Ytejjggchjoifoaa
open Go.RowKit

theorem getD_at {x : Inst} {i : Nat} {y : Int} (h : x[i]? = some y) : x.getD i 0 = y := by rw [List.getD_eq_getElem?_getD, h]; rfl

/-- Three boxes: two instances and a dependency. -/
structure ThreeB (w : World) (a b d : Array Value) (W : World) : Prop where
  old : Below w.heap.size w W
  ba : Blk W w.heap.size 49 a
  bb : Blk W (w.heap.size + 1) 49 b
  bd : Blk W (w.heap.size + 1 + 1) 29 d
theorem threeB (w : World) (a b d : Array Value) : ThreeB w a b d (((w.alloc (.cells a 49)).alloc (.cells b 49)).alloc (.cells d 29)) where
  old := (((Below.refl _ _).alloc (Nat.le_refl _) _).alloc (by simp) _).alloc (by simp; omega) _
  ba := ((Blk.new _ _ _).alloc _).alloc _
  bb := by simpa using (Blk.new (w.alloc (.cells a 49)) 49 b).alloc _
  bd := by simpa using Blk.new ((w.alloc (.cells a 49)).alloc (.cells b 49)) 29 d

set_option maxHeartbeats 800000 in
theorem refBreaks_any (i1 i2 i3 j1 j2 j3 : Int) (xA yA nA sA : Option Addr) (xn xc yn yc nn nc sn sc : Nat) (s : ByteArray) (x y : Inst) (d : Dep) (nf : Nat) (w : World) (hx : SlR 1 intR w (.slice xA xn xc) x) (hy : SlR 1 intR w (.slice yA yn yc) y)
    (hs : SlR 1 intR w (.slice sA sn sc) d.src) (hok : okDep nf d) (hxl : x.length = nf) (hyl : y.length = nf) :
    Calls Try.prog 34 #[.agg #[.int .i64 i1, .int .i64 i2, .int .i64 i3, .slice xA xn xc], .agg #[.int .i64 j1, .int .i64 j2, .int .i64 j3, .slice yA yn yc], .agg #[.slice nA nn nc, .string s, .slice sA sn sc, .int .i64 d.dst]] w (Ret (.bool (breaksB x y d)) w) := by
  have hn2 : sn ≤ 9223372036854775807 := by have := hs.le; omega
  have HN := Lib.hid hs.len
  have HXN := Lib.hid (hx.len.trans hxl)
  have HYN := Lib.hid (hy.len.trans hyl)
  have HX := Lib.hid hx
  have HY := Lib.hid hy
  have HS := Lib.hid hs
  have HOK := Lib.hid hok
  clear hx hy hs hok hxl hyl
  go_enter Try.func34, Try.ntmps34
  go_wp2_with fail
  have hW := threeB w #[.int .i64 i1, .int .i64 i2, .int .i64 i3, .slice xA xn xc] #[.int .i64 j1, .int .i64 j2, .int .i64 j3, .slice yA yn yc] #[.slice nA nn nc, .string s, .slice sA sn sc, .int .i64 d.dst]
  generalize (((w.alloc (.cells #[.int .i64 i1, .int .i64 i2, .int .i64 i3, .slice xA xn xc] 49)).alloc (.cells #[.int .i64 j1, .int .i64 j2, .int .i64 j3, .slice yA yn yc] 49)).alloc (.cells #[.slice nA nn nc, .string s, .slice sA sn sc, .int .i64 d.dst] 29)) = W at hW ⊢
  have ca := hW.ba.cell 3
  have cb := hW.bb.cell 3
  have cd := hW.bd.cell 2
  have ce := hW.bd.cell 3
  have la := hW.ba.lt
  have lb := hW.bb.lt
  have ld := hW.bd.lt
  simp only [List.getElem?_toArray, List.getElem?_cons_zero, List.getElem?_cons_succ] at ca cb cd ce
  have HO := Lib.hid hW.old
  clear hW
  have hd0 := HOK.out.2.1
  have hd1 := HOK.out.2.2
  go_loopg [7] sn (fun g i wr => ∃ k q : Nat, k ≤ sn ∧ g = sn - k ∧ i = .int .i64 k ∧ W.drewN q = wr ∧ (d.src.take k).all (fun f => x.getD f.toNat 0 == y.getD f.toNat 0) = true)
  case atStart => exact ⟨0, 0, Nat.zero_le _, rfl, rfl, rfl, rfl⟩
  case round =>
    obtain ⟨k, q, hk, hg, rfl, rfl, hv⟩ := hrel
    have HV := Lib.hid hv
    have HG := Lib.hid hg
    clear hv hg
    by_cases hlt : k < sn
    · obtain ⟨b, off, f, rfl, hb, hf, hc, hlo, hhi⟩ := ints_at (HS.out.mono intR_mono HO.out) hlt
      obtain ⟨hf0, hf1⟩ := HOK.out.1 f (List.mem_of_getElem? hf)
      obtain ⟨b1, off1, u, rfl, hb1, hu, hc1, _, _⟩ := ints_at (k := f.toNat) (HX.out.mono intR_mono HO.out) (by have := HXN.out; omega)
      obtain ⟨b2, off2, v, rfl, hb2, hv, hc2, _, _⟩ := ints_at (k := f.toNat) (HY.out.mono intR_mono HO.out) (by have := HYN.out; omega)
      have hfx : f < (xn : Int) := by have := HXN.out; omega
      have hfy : f < (yn : Int) := by have := HYN.out; omega
      have hkn : (k : Int) < (sn : Int) := by omega
      have hk0 : (0 : Int) ≤ (k : Int) := by omega
      have HF := Lib.hid hf
      have HU := Lib.hid hu
      have HVV := Lib.hid hv
      clear hf hu hv
      by_cases he : u = v
      · have t1 : (u != v) = false := by rw [he]; simp
        have HE := Lib.hid he
        clear he
        go_wp2_with fail
        go_quiet (fail)
        go_wp2_with fail
        go_roundg (sn - (k + 1))
        case measure => have := HG.out; omega
        case rel =>
          refine ⟨k + 1, _, by omega, rfl, by go_num, rfl, ?_⟩
          rw [take_snoc HF.out, List.all_append, HV.out]
          simp only [List.all_cons, List.all_nil, getD_at HU.out, getD_at HVV.out, HE.out, BEq.rfl, Bool.and_self]
      · have t1 : (u != v) = true := by rw [bne_iff_ne]; exact he
        have HE := Lib.hid he
        clear he
        go_wp2_with fail
        go_quiet (fail)
        go_wp2_with fail
        go_ret
        refine ⟨ret_bool ?_, below_drewN (below_drewN HO.out _) _⟩
        symm
        cases hbb : breaksB x y d
        · rfl
        · have := (breaksB_iff.1 hbb).1 f (List.mem_of_getElem? HF.out)
          rw [getD_at HU.out, getD_at HVV.out] at this
          exact absurd this HE.out
    · obtain ⟨b1, off1, u, rfl, hb1, hu, hc1, _, _⟩ := ints_at (k := d.dst.toNat) (HX.out.mono intR_mono HO.out) (by have := HXN.out; omega)
      obtain ⟨b2, off2, v, rfl, hb2, hv, hc2, _, _⟩ := ints_at (k := d.dst.toNat) (HY.out.mono intR_mono HO.out) (by have := HYN.out; omega)
      have hfx : d.dst < (xn : Int) := by have := HXN.out; omega
      have hfy : d.dst < (yn : Int) := by have := HYN.out; omega
      have HE : Hid (breaksB x y d = (u != v)) := by
        have h1 := HV.out
        rw [List.take_of_length_le (by have := HN.out; omega)] at h1
        show _ = _
        unfold breaksB
        rw [h1, getD_at hu, getD_at hv]; rfl
      clear hu hv
      go_wp2_with fail
      go_quiet (fail)
      go_wp2_with fail
      go_ret
      exact ⟨ret_bool HE.out.symm, below_drewN (below_drewN HO.out _) _⟩

end Go.Proofs.Ytejjggchjoifoaa
