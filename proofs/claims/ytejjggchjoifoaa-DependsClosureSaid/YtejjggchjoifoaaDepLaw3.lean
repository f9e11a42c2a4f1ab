/- The law DependsClosure returns true. -/
import Derived.Test.YtejjggchjoifoaaDepLaw1
import Derived.Test.YtejjggchjoifoaaDepLawC
import Derived.Test.YtejjggchjoifoaaDepApp
namespace Go.Proofs.Ytejjggchjoifoaa
open Go.RowKit

theorem bit16 (x n : Nat) (hx : x < 65536) : (bits BinOp.and IntKind.u16 (↑x / 2 ^ n) 1 == 1) = x.testBit n := by
  have h1 : ((x : Int) / 2 ^ n) = ((x / 2 ^ n : Nat) : Int) := by simp
  have hlt : x / 2 ^ n < 65536 := Nat.lt_of_le_of_lt (Nat.div_le_self _ _) (by omega)
  rw [h1]
  have h2 := u16_and_nat (x / 2 ^ n) 1 hlt (by omega)
  simp only [Int.natCast_one] at h2
  rw [h2, Nat.and_one_is_mod, Nat.testBit_eq_decide_div_mod_eq]
  rcases Nat.mod_two_eq_zero_or_one (x / 2 ^ n) with h | h <;> simp [h]

theorem Closure_v (s1 s2 : ByteArray) (i1 i2 : Int) (fA dA : Option Addr) (nf fc nd dc : Nat) (ds : List Dep) (v : Value) (l : List Int) (w : World)
    (hnf : nf ≤ 9223372036854775807) (hs : SlR 4 depR w (.slice dA nd dc) ds) (hl : SlR 1 intR w v l) :
    Calls Try.prog 12 #[.agg #[.string s1, .string s2, .int .i64 i1, .int .i64 i2, .slice fA nf fc, .slice dA nd dc], v] w (RetInts (closL nf ds l) (closOk nf ds l) w) := by
  obtain ⟨A, c, rfl⟩ := hl.form
  exact Closure_any s1 s2 i1 i2 fA dA nf fc nd dc ds A _ c l w hnf hs hl

set_option maxHeartbeats 2000000 in
set_option maxRecDepth 100000 in
theorem closure_law (s1 s2 : ByteArray) (i1 i2 : Int) (fA dA : Option Addr) (nf fc nd dc : Nat) (ds : List Dep) (A : Option Addr) (n c : Nat) (l : List Int) (B : Option Addr) (m k : Nat) (r : List Int) (C : Nat) (hC : C < 65536) (w : World)
    (hnf : nf ≤ 9223372036854775807) (hs : SlR 4 depR w (.slice dA nd dc) ds) (hl : SlR 1 intR w (.slice A n c) l) (hr : SlR 1 intR w (.slice B m k) r) :
    Calls Try.prog 5 #[.agg #[.string s1, .string s2, .int .i64 i1, .int .i64 i2, .slice fA nf fc, .slice dA nd dc], .slice A n c, .slice B m k, .int .u16 C] w (Ret (.bool true) w) := by
  have hn2 : n ≤ 9223372036854775807 := by have := hl.le; omega
  have hm2 : m ≤ 9223372036854775807 := by have := hr.le; omega
  have HS := Lib.hid hs
  have HL := Lib.hid hl
  have HR := Lib.hid hr
  clear hs hl hr
  go_enter Try.func5, Try.ntmps5
  go_wp2_with fail
  refine (sane_any _).mono ?_
  rintro e w3 ⟨rfl, hb3⟩
  have hsp : SpW w w.heap.size #[.string s1, .string s2, .int .i64 i1, .int .i64 i2, .slice fA nf fc, .slice dA nd dc] w3 :=
    (SpW.mk ((Below.refl _ _).alloc (Nat.le_refl _) _) (Blk.new _ _ _)).below hb3
  clear hb3
  obtain ⟨p, hp⟩ : ∃ p, p = w.heap.size := ⟨_, rfl⟩
  rw [← hp] at hsp ⊢
  clear hp
  obtain ⟨q0, q1, q2, q3, q4, q5⟩ := hsp.six
  have lp := hsp.bs.lt
  have H3 := Lib.hid hsp
  clear hsp
  go_wp2_with fail
  refine (few_any s1 s2 i1 i2 fA dA nf fc nd dc ds _ hnf (HS.out.mono depR_mono H3.out.old)).mono ?_
  rintro e w4 ⟨rfl, hb4⟩
  have hsp := H3.out.below hb4
  clear q0 q1 q2 q3 q4 q5 lp H3
  obtain ⟨q0, q1, q2, q3, q4, q5⟩ := hsp.six
  have lp := hsp.bs.lt
  have H4 := Lib.hid hsp
  clear hsp hb4
  obtain ⟨fb, hfb⟩ : ∃ fb, fewB nf ds = fb := ⟨_, rfl⟩
  rw [hfb]
  have HF := Lib.hid hfb
  clear hfb
  cases fb
  · go_wp2
    go_ret
    exact ⟨rfl, H4.out.old⟩
  by_cases h1 : 30 < n
  · go_wp2
    go_ret
    exact ⟨rfl, H4.out.old⟩
  by_cases h2 : 30 < m
  · go_wp2
    go_ret
    exact ⟨rfl, H4.out.old⟩
  go_wp2_with fail
  refine (Closure_any s1 s2 i1 i2 fA dA nf fc nd dc ds A n c l _ hnf (HS.out.mono depR_mono H4.out.old) (HL.out.mono intR_mono H4.out.old)).mono ?_
  rintro e w5 ⟨x, rfl, hx, hb5⟩
  have hsp := H4.out.below hb5
  clear q0 q1 q2 q3 q4 q5 lp H4
  obtain ⟨q0, q1, q2, q3, q4, q5⟩ := hsp.six
  have lp := hsp.bs.lt
  have H5 := Lib.hid hsp
  have HX := Lib.hid hx
  clear hsp hb5 hx
  go_upto_region 6 with fail
  go_cut [11, 12] (fun x11 x12 wx => x12 = .int .i64 (eno (closOk nf ds (l ++ r))) ∧ SlR 1 intR wx x11 (closL nf ds (l ++ r)) ∧ Below w5.heap.size w5 wx)
  case first =>
    go_region_held3 (fun w' => w'.cell? ⟨p, 0, none⟩ = some (.string s1) ∧ w'.cell? ⟨p, 1, none⟩ = some (.string s2) ∧ w'.cell? ⟨p, 2, none⟩ = some (.int .i64 i1) ∧ w'.cell? ⟨p, 3, none⟩ = some (.int .i64 i2) ∧ w'.cell? ⟨p, 4, none⟩ = some (.slice fA nf fc) ∧ w'.cell? ⟨p, 5, none⟩ = some (.slice dA nd dc) ∧ Below w5.heap.size w5 w')
      (first | exact H5.out.sixB (Below.refl _ _) hb8 | exact H5.out.sixB (Below.refl _ _) hb7 | exact H5.out.sixB (Below.refl _ _) hb6 | exact H5.out.sixB (Below.refl _ _) ((Below.refl _ _).drew.alloc (by simp) _) | exact H5.out.sixB (Below.refl _ _) (Below.refl _ _).drew | exact H5.out.sixB (Below.refl _ _) (Below.refl _ _))
      (first
        | (refine step_append_ints _ rfl (.tmp 43) (.tmp 44) rfl w5.heap.size (.slice (some ⟨w5.heap.size, 0, none⟩) 0 0) 0 [] rfl (World.ownsRow_lit w5.drew #[] 0 (Nat.le_refl _) (Nat.zero_le _) rfl) A n c l rfl (HL.out.mono intR_mono ((H5.out.below ((Below.refl _ _).drew.alloc (Nat.le_refl _) _)).old)) (by omega) (by simp) ?_; intro v6 w6 hown6 hg6; have hb6 : Below w5.heap.size w5 w6 := ((Below.refl _ _).drew.alloc (Nat.le_refl _) _).grown hg6 (by simp) (by simp [Value.ownBlock]))
        | (refine step_append_ints _ rfl (.tmp 45) (.tmp 46) rfl w5.heap.size v6 (0 + n) _ rfl hown6 B m k r rfl (HR.out.mono intR_mono ((H5.out.below hb6).old)) (by omega) hb6.size ?_; intro v7 w7 hown7 hg7; have hb7 : Below w5.heap.size w5 w7 := hb6.grown hg7 hb6.size (fun k hk => (hown6.lt k hk).1); have hsl7 : SlR 1 intR w7 v7 (l ++ r) := slR_of_own (by simpa using hown7) (fun z hz => (List.mem_append.1 hz).elim (ints_bd HL.out z) (ints_bd HR.out z)); have HSL7 := Lib.hid hsl7; clear hsl7 hown7 hg7 hown6 hg6)
        | (go_at_call 12; refine (Closure_v s1 s2 i1 i2 fA dA nf fc nd dc ds v7 (l ++ r) w7 hnf (HS.out.mono depR_mono (H5.out.below hb7).old) HSL7.out).mono ?_; rintro e w8 ⟨y, rfl, hy, hb8'⟩; have hb8 : Below w5.heap.size w5 w8 := hb7.trans (hb8'.mono hb7.size)))
    have HY := Lib.hid hy
    have HB8 := Lib.hid hb8
    clear hy hb8' hb8 hb7 HSL7 hb6
    go_wp2_with fail
    go_meet
    exact ⟨rfl, HY.out, HB8.out⟩
  case rest =>
    clear q0 q1 q2 q3 q4 q5 lp
    obtain ⟨rfl, hy, hb6⟩ := hcut
    obtain ⟨w6, rfl⟩ : ∃ w6 : World, w6 = wc := ⟨_, rfl⟩
    have hsp := H5.out.below hb6
    replace HX := Lib.hid (HX.out.mono intR_mono hb6)
    obtain ⟨q0, q1, q2, q3, q4, q5⟩ := hsp.six
    have lp := hsp.bs.lt
    have H6 := Lib.hid hsp
    have HY := Lib.hid hy
    clear hsp hb6 hy H5
    obtain ⟨X, cx, rfl⟩ := HX.out.form
    obtain ⟨ok1, ho1⟩ : ∃ b, closOk nf ds l = b := ⟨_, rfl⟩
    obtain ⟨ok2, ho2⟩ : ∃ b, closOk nf ds (l ++ r) = b := ⟨_, rfl⟩
    have HO1 := Lib.hid ho1
    have HO2 := Lib.hid ho2
    rw [ho1, ho2]
    clear ho1 ho2
    by_cases hbad : ok1 = false ∨ ok2 = false
    · have hM : closL nf ds (l ++ r) = [] := clos_bad (hbad.imp (HO1.out.trans ·) (HO2.out.trans ·))
      rw [hM] at HY
      obtain ⟨Y, cy, rfl⟩ := HY.out.form
      cases ok1
      · have hL : closL nf ds l = [] := closL_no HO1.out
        rw [hL]
        simp only [eno, List.length_nil]
        cases ok2
        · go_wp2
          go_ret
          exact ⟨rfl, H6.out.old⟩
        · go_wp2
          go_ret
          exact ⟨rfl, H6.out.old⟩
      · cases ok2
        · simp only [eno, List.length_nil]
          go_wp2
          go_ret
          exact ⟨rfl, H6.out.old⟩
        · simp at hbad
    obtain rfl : ok1 = true := by cases ok1 <;> simp_all
    obtain rfl : ok2 = true := by cases ok2 <;> simp_all
    clear hbad
    obtain ⟨Y, cy, rfl⟩ := HY.out.form
    simp only [eno, if_true]
    have F1 := Lib.hid (clos_okL HO1.out)
    have F2 := Lib.hid (clos_again HO1.out)
    have F3 := Lib.hid (clos_holds HO1.out)
    have F4 := Lib.hid (clos_more HO1.out HO2.out)
    have F5 := Lib.hid (clos_sorted HO1.out)
    have F6 := Lib.hid (fun (d : Dep) (hd : d ∈ ds) => clos_dep HO1.out hd)
    have F7 := Lib.hid (fun (x : Nat) => clos_min HO1.out (x := x))
    have F8 : nf ≤ 12 := (closOk_parts HO1.out).1
    have F9 : (closL nf ds l).length ≤ 12 := by rw [closL_yes HO1.out]; have := listX_len nf (clos ds (bitsL l 0)); omega
    clear HO1 HO2
    generalize closL nf ds l = L at HX F1 F2 F3 F4 F5 F6 F7 F9 ⊢
    generalize closL nf ds (l ++ r) = M at HY F4 ⊢
    go_wp2_with fail
    refine (Closure_v s1 s2 i1 i2 fA dA nf fc nd dc ds _ L w6 hnf (HS.out.mono depR_mono H6.out.old) HX.out).mono ?_
    rintro e w7 ⟨z, rfl, hz, hb7⟩
    rw [F2.out] at hz
    rw [F1.out]
    obtain ⟨Z, cz, rfl⟩ := hz.form
    have hsp := H6.out.below hb7
    replace HX := Lib.hid (HX.out.mono intR_mono hb7)
    replace HY := Lib.hid (HY.out.mono intR_mono hb7)
    clear q0 q1 q2 q3 q4 q5 lp H6 F1 F2
    have HZ := Lib.hid hz
    have H7 := Lib.hid hsp
    clear hb7 hz hsp
    simp only [eno, if_true]
    go_wp2_with fail
    refine (same_ret Z X _ cz _ cx L L w7 HZ.out HX.out).mono ?_
    rintro e w8 ⟨rfl, hb8⟩
    rw [decide_eq_true (show L = L from rfl)]
    have hsp := H7.out.below hb8
    replace HX := Lib.hid (HX.out.mono intR_mono hb8)
    replace HY := Lib.hid (HY.out.mono intR_mono hb8)
    clear HZ H7 hb8
    obtain ⟨q0, q1, q2, q3, q4, q5⟩ := hsp.six
    have lp := hsp.bs.lt
    have H8 := Lib.hid hsp
    clear hsp
    go_wp2_with fail
    refine (subset_any A X n c _ cx l L w8 (HL.out.mono intR_mono H8.out.old) HX.out).mono ?_
    rintro e w' ⟨rfl, rfl⟩
    rw [F3.out]
    go_wp2_with fail
    refine (subset_any X Y _ cx _ cy L M w8 HX.out HY.out).mono ?_
    rintro e w' ⟨rfl, rfl⟩
    rw [F4.out]
    clear F3 F4 HY
    go_wp2_with fail
    go_loopg [97] L.length (fun g i wr => ∃ k : Nat, k ≤ L.length ∧ g = L.length - k ∧ i = .int .i64 k ∧ Below w8.heap.size w8 wr)
    case atStart => exact ⟨0, Nat.zero_le _, rfl, rfl, Below.refl _ _⟩
    case round =>
      obtain ⟨k', hk, hg, rfl, hb⟩ := hrel
      have HG := Lib.hid hg
      have HB := Lib.hid hb
      clear hg hb
      by_cases hlt : k' < L.length
      · rcases k' with _ | j
        · go_wp2_with fail
          go_quiet (fail)
          go_wp2_with fail
          go_roundg (L.length - (0 + 1))
          case measure => have := HG.out; omega
          case rel => exact ⟨0 + 1, by omega, rfl, by go_num, below_drewN HB.out _⟩
        · obtain ⟨b, off, f, rfl, hb, hf, hc, hlo, hhi⟩ := ints_at (HX.out.mono intR_mono HB.out) (k := j) (by omega)
          obtain ⟨b', off', f', e', hb', hf', hc', hlo', hhi'⟩ := ints_at (HX.out.mono intR_mono HB.out) (k := j + 1) hlt
          injection e' with e'
          injection e' with e1 e2 _
          subst e1 e2
          have hff : f < f' := sorted_at F5.out hf hf'
          have hw1 : IntKind.i64.wrap (((j + 1 : Nat) : Int) - 1) = (j : Int) := by rw [IntKind.wrap_i64]; omega
          have hpos : decide ((0 : Int) < ((j + 1 : Nat) : Int)) = true := by simp
          clear hf hf' hb'
          go_wp2_with fail
          go_quiet (fail)
          go_wp2_with fail
          go_roundg (L.length - (j + 1 + 1))
          case measure => have := HG.out; omega
          case rel => exact ⟨j + 1 + 1, by omega, rfl, by go_num, below_drewN HB.out _⟩
      · have hsp := H8.out.below HB.out
        replace HX := Lib.hid (HX.out.mono intR_mono HB.out)
        clear q0 q1 q2 q3 q4 q5 lp HG HB H8 F5
        obtain ⟨w9, rfl⟩ : ∃ w9 : World, w9 = wr := ⟨_, rfl⟩
        obtain ⟨q0, q1, q2, q3, q4, q5⟩ := hsp.six
        have lp := hsp.bs.lt
        have H9 := Lib.hid hsp
        clear hsp
        obtain ⟨i0, hi, hz0, hz1, hz2⟩ := info_parts Try.infoInt
        go_wp2_with fail
        go_loopg [16, 118] nf (fun g x i wr => ∃ q : Nat, q ≤ nf ∧ g = nf - q ∧ i = .int .i64 q ∧ wr.ownsRow w9.heap.size 3 1 x (listX q C).length ((listX q C).map (Value.int .i64)) ∧ Below w9.heap.size w9 wr)
        case atStart => exact ⟨0, Nat.zero_le _, rfl, rfl, World.ownsRow_nil _ _ _ _, Below.refl _ _⟩
        case round =>
          obtain ⟨q, hq, hg, rfl, hown, hb⟩ := hrel
          have HG := Lib.hid hg
          have HB := Lib.hid hb
          have HOWN := Lib.hid hown
          clear hg hb hown q0 q1 q2 q3 q4 q5
          by_cases hlt : q < nf
          · have hrem : ((q : Int)).tmod 16 = q := Int.tmod_eq_of_lt (by omega) (by omega)
            have hll := listX_len q C
            obtain ⟨tb, htb⟩ : ∃ tb, C.testBit q = tb := ⟨_, rfl⟩
            have hbt : (bits BinOp.and IntKind.u16 ((C : Int) / 2 ^ q) 1 == 1) = tb := (bit16 C q hC).trans htb
            have HTB := Lib.hid htb
            clear htb
            have hsz := HB.out.size
            cases tb
            · go_wp2_with fail
              go_roundg (nf - (q + 1))
              case measure => have := HG.out; omega
              case rel =>
                refine ⟨q + 1, by omega, rfl, by go_num, ?_, HB.out⟩
                rw [listX_succ_no HTB.out]; exact HOWN.out
            · go_wp2_with (at_builtin; refine wpList_append_own _ rfl (.tmp 127) (.tmp 129) 26 rfl w9.heap.size 3 i0 (.int .i64 0) 1 8 Try.underlying26 hi hz0 hz1 hz2 rfl (by decide) _ _ _ rfl (HOWN.out.alloc _) ⟨wr.heap.size, 0, none⟩ 1 1 [.int .i64 q] rfl rfl (cell_one_new _ _ _) (by simp [Value.oneCell']) (by unfold maxLen; omega) (by omega) (by simp; omega) ?_; intro v' w5 hown' hgrow hnil)
              go_roundg (nf - (q + 1))
              case measure => have := HG.out; omega
              case rel =>
                refine ⟨q + 1, by omega, rfl, by go_num, ?_, (HB.out.alloc (by omega) _).grown hgrow (by simp; omega) (fun k hk => (HOWN.out.lt k hk).1)⟩
                rw [listX_succ_yes HTB.out, List.map_append, List.length_append]; exact hown'
          · have hqe : q = nf := by omega
            subst hqe
            have hsl := slR_of_own HOWN.out (fun x hx => by have := listX_mem hx; omega)
            have hsp := H9.out.below HB.out
            replace HX := Lib.hid (HX.out.mono intR_mono HB.out)
            obtain ⟨w10, rfl⟩ : ∃ w10 : World, w10 = wr := ⟨_, rfl⟩
            obtain ⟨q0, q1, q2, q3, q4, q5⟩ := hsp.six
            have H10 := Lib.hid hsp
            obtain ⟨S, cs, rfl⟩ := hsl.form
            have HSL := Lib.hid hsl
            clear hsp hsl HB HG HOWN H9 hi hz0 hz1 hz2
            go_wp2_with fail
            go_loopg [135] nd (fun g i wr => ∃ j : Nat, j ≤ nd ∧ g = nd - j ∧ i = .int .i64 j ∧ Below w10.heap.size w10 wr ∧ ∀ d ∈ ds.take j, subB d.src (listX q C) = true → (listX q C).any (· == d.dst) = true)
            case atStart => exact ⟨0, Nat.zero_le _, rfl, rfl, Below.refl _ _, by simp⟩
            case round =>
              obtain ⟨j, hj, hg, rfl, hb, hcl⟩ := hrel
              have HG := Lib.hid hg
              have HB := Lib.hid hb
              have HCL := Lib.hid hcl
              clear hg hb hcl q0 q1 q2 q3 q4 q5
              have hnd : nd ≤ 9223372036854775807 := by have := HS.out.le; omega
              by_cases hlt : j < nd
              · have hdd := dep_at (HS.out.mono depR_mono (H10.out.below HB.out).old) hlt
                obtain ⟨b, off, d, nA, nn, nc, sv, gA, gn, gc, rfl, hb, hd, c0, c1, c2, c3, hsrc, hlo, hhi⟩ := hdd
                have HDM := Lib.hid (List.mem_of_getElem? hd)
                have HD := Lib.hid hd
                have HSRC := Lib.hid hsrc
                clear hd hsrc
                have HLL : Hid (subB d.src L = false ∨ subB d.src L = true ∧ L.any (· == d.dst) = true) := by
                  cases hc : subB d.src L
                  · exact .inl rfl
                  · exact .inr ⟨rfl, F6.out d HDM.out hc⟩
                go_wp2_with fail
                refine (subset_any gA X gn gc _ cx d.src L _ (HSRC.out.mono intR_mono ((Below.refl _ _).alloc (Nat.le_refl _) _)) (HX.out.mono intR_mono (HB.out.alloc HB.out.size _))).mono ?_
                rintro e w' ⟨rfl, rfl⟩
                rcases HLL.out with hL | ⟨hL, hA⟩
                · rw [hL]
                  clear hL HLL
                  go_wp2_with fail
                  refine (subset_any gA S gn gc _ cs d.src (listX q C) _ (HSRC.out.mono intR_mono ((Below.refl _ _).alloc (Nat.le_refl _) _)) (HSL.out.mono intR_mono (HB.out.alloc HB.out.size _))).mono ?_
                  rintro e w' ⟨rfl, rfl⟩
                  obtain ⟨sb, hsb⟩ : ∃ sb, subB d.src (listX q C) = sb := ⟨_, rfl⟩
                  obtain ⟨ab, hab⟩ : ∃ ab, (listX q C).any (· == d.dst) = ab := ⟨_, rfl⟩
                  rw [hsb]
                  have HSB := Lib.hid hsb
                  have HAB := Lib.hid hab
                  clear hsb hab
                  cases sb
                  · go_wp2_with fail
                    go_roundg (nd - (j + 1))
                    case measure => have := HG.out; omega
                    case rel =>
                      refine ⟨j + 1, by omega, rfl, by go_num, HB.out.alloc HB.out.size _, ?_⟩
                      rw [take_snoc HD.out]
                      intro d' hd' hs'
                      rcases List.mem_append.1 hd' with h | h
                      · exact HCL.out d' h hs'
                      · rw [List.mem_singleton.1 h, HSB.out] at hs'
                        cases hs'
                  · cases ab
                    · go_wp2_with (go_at_call 23; refine (lawHas_any S _ cs (listX q C) d.dst _ (HSL.out.mono intR_mono (HB.out.alloc HB.out.size _))).mono ?_; rintro e w' ⟨rfl, rfl⟩; rw [HAB.out])
                      go_ret
                      exact ⟨rfl, (H10.out.below (HB.out.alloc HB.out.size _)).old⟩
                    · go_wp2_with (go_at_call 23; refine (lawHas_any S _ cs (listX q C) d.dst _ (HSL.out.mono intR_mono (HB.out.alloc HB.out.size _))).mono ?_; rintro e w' ⟨rfl, rfl⟩; rw [HAB.out])
                      go_roundg (nd - (j + 1))
                      case measure => have := HG.out; omega
                      case rel =>
                        refine ⟨j + 1, by omega, rfl, by go_num, HB.out.alloc HB.out.size _, ?_⟩
                        rw [take_snoc HD.out]
                        intro d' hd' hs'
                        rcases List.mem_append.1 hd' with h | h
                        · exact HCL.out d' h hs'
                        · rw [List.mem_singleton.1 h]
                          exact HAB.out
                · rw [hL]
                  have HA := Lib.hid hA
                  clear hL hA HLL
                  go_wp2_with (go_at_call 23; refine (lawHas_any X _ cx L d.dst _ (HX.out.mono intR_mono (HB.out.alloc HB.out.size _))).mono ?_; rintro e w' ⟨rfl, rfl⟩; rw [HA.out])
                  refine (subset_any gA S gn gc _ cs d.src (listX q C) _ (HSRC.out.mono intR_mono ((Below.refl _ _).alloc (Nat.le_refl _) _)) (HSL.out.mono intR_mono (HB.out.alloc HB.out.size _))).mono ?_
                  rintro e w' ⟨rfl, rfl⟩
                  obtain ⟨sb, hsb⟩ : ∃ sb, subB d.src (listX q C) = sb := ⟨_, rfl⟩
                  obtain ⟨ab, hab⟩ : ∃ ab, (listX q C).any (· == d.dst) = ab := ⟨_, rfl⟩
                  rw [hsb]
                  have HSB := Lib.hid hsb
                  have HAB := Lib.hid hab
                  clear hsb hab
                  cases sb
                  · go_wp2_with fail
                    go_roundg (nd - (j + 1))
                    case measure => have := HG.out; omega
                    case rel =>
                      refine ⟨j + 1, by omega, rfl, by go_num, HB.out.alloc HB.out.size _, ?_⟩
                      rw [take_snoc HD.out]
                      intro d' hd' hs'
                      rcases List.mem_append.1 hd' with h | h
                      · exact HCL.out d' h hs'
                      · rw [List.mem_singleton.1 h, HSB.out] at hs'
                        cases hs'
                  · cases ab
                    · go_wp2_with (go_at_call 23; refine (lawHas_any S _ cs (listX q C) d.dst _ (HSL.out.mono intR_mono (HB.out.alloc HB.out.size _))).mono ?_; rintro e w' ⟨rfl, rfl⟩; rw [HAB.out])
                      go_ret
                      exact ⟨rfl, (H10.out.below (HB.out.alloc HB.out.size _)).old⟩
                    · go_wp2_with (go_at_call 23; refine (lawHas_any S _ cs (listX q C) d.dst _ (HSL.out.mono intR_mono (HB.out.alloc HB.out.size _))).mono ?_; rintro e w' ⟨rfl, rfl⟩; rw [HAB.out])
                      go_roundg (nd - (j + 1))
                      case measure => have := HG.out; omega
                      case rel =>
                        refine ⟨j + 1, by omega, rfl, by go_num, HB.out.alloc HB.out.size _, ?_⟩
                        rw [take_snoc HD.out]
                        intro d' hd' hs'
                        rcases List.mem_append.1 hd' with h | h
                        · exact HCL.out d' h hs'
                        · rw [List.mem_singleton.1 h]
                          exact HAB.out
              · have HE : Hid (subB l (listX q C) = true → subB L (listX q C) = true) := by
                  have h1 := HCL.out
                  rw [List.take_of_length_le (by have := HS.out.len; omega)] at h1
                  exact F7.out C h1
                go_wp2_with fail
                refine (subset_any A S n c _ cs l (listX q C) wr (HL.out.mono intR_mono (H10.out.below HB.out).old) (HSL.out.mono intR_mono HB.out)).mono ?_
                rintro e w' ⟨rfl, rfl⟩
                obtain ⟨sb, hsb⟩ : ∃ sb, subB l (listX q C) = sb := ⟨_, rfl⟩
                rw [hsb]
                have HSB := Lib.hid hsb
                clear hsb
                cases sb
                · go_wp2
                  go_ret
                  exact ⟨rfl, (H10.out.below HB.out).old⟩
                · go_wp2_with fail
                  refine (subset_any X S _ cx _ cs L (listX q C) wr (HX.out.mono intR_mono HB.out) (HSL.out.mono intR_mono HB.out)).mono ?_
                  rintro e w' ⟨rfl, rfl⟩
                  rw [HE.out HSB.out]
                  go_wp2
                  go_ret
                  exact ⟨rfl, (H10.out.below HB.out).old⟩

end Go.Proofs.Ytejjggchjoifoaa
