/- Contract of the law's breaks. -/
import Derived.Test.YtejjggchjoifoaaDepR4
namespace Go.Proofs.Ytejjggchjoifoaa
open Go.RowKit

theorem ThreeB.drewN {w : World} {a b d : Array Value} {W : World} (h : ThreeB w a b d W) (n : Nat) : ThreeB w a b d (W.drewN n) := ⟨below_drewN h.old n, h.ba.drewN n, h.bb.drewN n, h.bd.drewN n⟩

/-- The law's closure 'inside'. -/
theorem inside_any (f : Int) (p q : Nat) (xA yA : Option Addr) (xn xc yn yc : Nat) (w : World) (hp : w.cell? ⟨p, 3, none⟩ = some (.slice xA xn xc)) (hq : w.cell? ⟨q, 3, none⟩ = some (.slice yA yn yc)) (h0 : 0 ≤ f) (h1 : f < (xn : Int)) (h2 : f < (yn : Int)) :
    Calls Try.prog 35 #[.int .i64 f, .pointer (some ⟨p, 0, none⟩), .pointer (some ⟨q, 0, none⟩)] w fun e w' => e = .returned (.bool true) ∧ w' = w := by
  go_enter Try.func35, Try.ntmps35
  go_wp2
  go_ret
  exact ⟨rfl, rfl⟩

set_option maxHeartbeats 800000 in
theorem lawBreaks_any (i1 i2 i3 j1 j2 j3 : Int) (xA yA nA sA : Option Addr) (xn xc yn yc nn nc sn sc : Nat) (s : ByteArray) (x y : Inst) (d : Dep) (nf : Nat) (w : World) (hx : SlR 1 intR w (.slice xA xn xc) x) (hy : SlR 1 intR w (.slice yA yn yc) y)
    (hs : SlR 1 intR w (.slice sA sn sc) d.src) (hok : okDep nf d) (hxl : x.length = nf) (hyl : y.length = nf) :
    Calls Try.prog 24 #[.agg #[.int .i64 i1, .int .i64 i2, .int .i64 i3, .slice xA xn xc], .agg #[.int .i64 j1, .int .i64 j2, .int .i64 j3, .slice yA yn yc], .agg #[.slice nA nn nc, .string s, .slice sA sn sc, .int .i64 d.dst]] w (Ret (.bool (breaksB x y d)) w) := by
  have hn2 : sn ≤ 9223372036854775807 := by have := hs.le; omega
  have HN := Lib.hid hs.len
  have HXN := Lib.hid (hx.len.trans hxl)
  have HYN := Lib.hid (hy.len.trans hyl)
  have HX := Lib.hid hx
  have HY := Lib.hid hy
  have HS := Lib.hid hs
  have HOK := Lib.hid hok
  clear hx hy hs hok hxl hyl
  have hmf : ∀ (fn : Fn) (first cap : Array Value) (w : World), (Instr.makeFunc fn first cap).run Try.prog w = .ok (.func fn first cap) w := fun _ _ _ _ => rfl
  go_enter Try.func24, Try.ntmps24
  go_wp2_with fail
  have hW := threeB w #[.int .i64 i1, .int .i64 i2, .int .i64 i3, .slice xA xn xc] #[.int .i64 j1, .int .i64 j2, .int .i64 j3, .slice yA yn yc] #[.slice nA nn nc, .string s, .slice sA sn sc, .int .i64 d.dst]
  generalize (((w.alloc (.cells #[.int .i64 i1, .int .i64 i2, .int .i64 i3, .slice xA xn xc] 49)).alloc (.cells #[.int .i64 j1, .int .i64 j2, .int .i64 j3, .slice yA yn yc] 49)).alloc (.cells #[.slice nA nn nc, .string s, .slice sA sn sc, .int .i64 d.dst] 29)) = W at hW ⊢
  have ca := hW.ba.cell 3
  have cb := hW.bb.cell 3
  have cd := hW.bd.cell 2
  have ce := hW.bd.cell 3
  have la := hW.ba.lt
  have lb := hW.bb.lt
  have ld := hW.bd.lt
  simp only [List.getElem?_toArray, List.getElem?_cons_zero, List.getElem?_cons_succ] at ca cb cd ce
  have HW := Lib.hid hW
  clear hW
  have hd0 := HOK.out.2.1
  have hd1 := HOK.out.2.2
  clear hmf
  go_loopg [14] sn (fun g i wr => ∃ k : Nat, k ≤ sn ∧ g = sn - k ∧ i = .int .i64 k ∧ ThreeB w #[.int .i64 i1, .int .i64 i2, .int .i64 i3, .slice xA xn xc] #[.int .i64 j1, .int .i64 j2, .int .i64 j3, .slice yA yn yc] #[.slice nA nn nc, .string s, .slice sA sn sc, .int .i64 d.dst] wr ∧ (d.src.take k).all (fun f => x.getD f.toNat 0 == y.getD f.toNat 0) = true)
  case atStart => exact ⟨0, Nat.zero_le _, rfl, rfl, HW.out, rfl⟩
  case round =>
    clear ca cb cd ce la lb ld HW
    obtain ⟨k, hk, hg, rfl, hW, hv⟩ := hrel
    have ca := hW.ba.cell 3
    have cb := hW.bb.cell 3
    have cd := hW.bd.cell 2
    have ce := hW.bd.cell 3
    have la := hW.ba.lt
    have lb := hW.bb.lt
    have ld := hW.bd.lt
    simp only [List.getElem?_toArray, List.getElem?_cons_zero, List.getElem?_cons_succ] at ca cb cd ce
    have HO := Lib.hid hW.old
    have HW := Lib.hid hW
    clear hW
    have HV := Lib.hid hv
    have HG := Lib.hid hg
    clear hv hg
    by_cases hlt : k < sn
    · obtain ⟨b, off, f, rfl, hb, hf, hc, hlo, hhi⟩ := ints_at (HS.out.mono intR_mono HO.out) hlt
      obtain ⟨hf0, hf1⟩ := HOK.out.1 f (List.mem_of_getElem? hf)
      obtain ⟨b1, off1, u, rfl, hb1, hu, hc1, _, _⟩ := ints_at (k := f.toNat) (HX.out.mono intR_mono HO.out) (by have := HXN.out; omega)
      obtain ⟨b2, off2, v, rfl, hb2, hv, hc2, _, _⟩ := ints_at (k := f.toNat) (HY.out.mono intR_mono HO.out) (by have := HYN.out; omega)
      have hfx : f < (xn : Int) := by have := HXN.out; omega
      have hfy : f < (yn : Int) := by have := HYN.out; omega
      have HIN : Hid (∀ q : Nat, Calls Try.prog 35 #[.int .i64 f, .pointer (some ⟨w.heap.size, 0, none⟩), .pointer (some ⟨w.heap.size + 1, 0, none⟩)] (wr.drewN q) fun e w' => e = .returned (.bool true) ∧ w' = wr.drewN q) := fun q => inside_any _ _ _ _ _ _ _ _ _ _ ca cb (by omega) hfx hfy
      have hkn : (k : Int) < (sn : Int) := by omega
      have hk0 : (0 : Int) ≤ (k : Int) := by omega
      have HF := Lib.hid hf
      have HU := Lib.hid hu
      have HVV := Lib.hid hv
      clear hf hu hv
      by_cases he : u = v
      · have t1 : (u != v) = false := by rw [he]; simp
        have HE := Lib.hid he
        clear he
        go_wp2_with fail
        go_quiet ((go_at_call 35; exact Calls.quiet_of_same (HIN.out _)))
        go_wp2_with fail
        go_roundg (sn - (k + 1))
        case measure => have := HG.out; omega
        case rel =>
          refine ⟨k + 1, by omega, rfl, by go_num, HW.out.drewN _, ?_⟩
          rw [take_snoc HF.out, List.all_append, HV.out]
          simp only [List.all_cons, List.all_nil, getD_at HU.out, getD_at HVV.out, HE.out, BEq.rfl, Bool.and_self]
      · have t1 : (u != v) = true := by rw [bne_iff_ne]; exact he
        have HE := Lib.hid he
        clear he
        go_wp2_with fail
        go_quiet ((go_at_call 35; exact Calls.quiet_of_same (HIN.out _)))
        go_wp2_with fail
        go_ret
        refine ⟨ret_bool ?_, below_drewN HO.out _⟩
        symm
        cases hbb : breaksB x y d
        · rfl
        · have := (breaksB_iff.1 hbb).1 f (List.mem_of_getElem? HF.out)
          rw [getD_at HU.out, getD_at HVV.out] at this
          exact absurd this HE.out
    · obtain ⟨b1, off1, u, rfl, hb1, hu, hc1, _, _⟩ := ints_at (k := d.dst.toNat) (HX.out.mono intR_mono HO.out) (by have := HXN.out; omega)
      obtain ⟨b2, off2, v, rfl, hb2, hv, hc2, _, _⟩ := ints_at (k := d.dst.toNat) (HY.out.mono intR_mono HO.out) (by have := HYN.out; omega)
      have hfx : d.dst < (xn : Int) := by have := HXN.out; omega
      have hfy : d.dst < (yn : Int) := by have := HYN.out; omega
      have HIN : Hid (∀ q : Nat, Calls Try.prog 35 #[.int .i64 d.dst, .pointer (some ⟨w.heap.size, 0, none⟩), .pointer (some ⟨w.heap.size + 1, 0, none⟩)] (wr.drewN q) fun e w' => e = .returned (.bool true) ∧ w' = wr.drewN q) := fun q => inside_any _ _ _ _ _ _ _ _ _ _ ca cb (by omega) hfx hfy
      have HE : Hid (breaksB x y d = (u != v)) := by
        have h1 := HV.out
        rw [List.take_of_length_le (by have := HN.out; omega)] at h1
        show _ = _
        unfold breaksB
        rw [h1, getD_at hu, getD_at hv]; rfl
      clear hu hv
      go_wp2_with fail
      go_quiet ((go_at_call 35; exact Calls.quiet_of_same (HIN.out _)))
      go_wp2_with fail
      go_ret
      exact ⟨ret_bool HE.out.symm, below_drewN HO.out _⟩

end Go.Proofs.Ytejjggchjoifoaa
