/- Contracts of the reference's all, Closure and Implied. -/
import Derived.Test.YtejjggchjoifoaaDepR2
import Derived.Test.YtejjggchjoifoaaDepClosB
import Derived.Laws.MakeOwn
namespace Go.Proofs.Ytejjggchjoifoaa
open Go.RowKit

/-- A set of fields as a list of bools. -/
def boolsX (nf x : Nat) : Array Value := ((List.range nf).map (fun i => Value.bool (x.testBit i))).toArray

theorem boolsX_at {nf x i : Nat} (h : i < nf) : (boolsX nf x)[i]? = some (.bool (x.testBit i)) := by
  simp [boolsX, h]
theorem boolsX_set {nf x f : Nat} : (boolsX nf x).setIfInBounds f (.bool true) = boolsX nf (x ||| 2 ^ f) := by
  unfold boolsX
  rw [List.setIfInBounds_toArray]
  congr 1
  apply List.ext_getElem?
  intro i
  simp only [List.getElem?_set, List.length_map, List.length_range, List.getElem?_map]
  by_cases h : f = i
  · subst h
    by_cases hf : f < nf
    · simp [hf]
    · simp [hf]
  · rw [if_neg h]
    by_cases hi : i < nf
    · simp only [List.getElem?_range hi, Option.map_some, testBit_or_pow, h, decide_false, Bool.or_false]
    · rw [List.getElem?_eq_none (by simp; omega)]
      rfl
theorem boolsX_zero (nf : Nat) : boolsX nf 0 = (List.replicate nf (Value.bool false)).toArray := by
  unfold boolsX
  congr 1
  apply List.ext_getElem
  · simp
  · intro i h1 h2; simp

set_option maxHeartbeats 400000 in
theorem all_any (g nf : Nat) (x : Nat) (A : Option Addr) (n c : Nat) (l : List Int) (w : World) (hb : Blk w g 4 (boolsX nf x)) (hs : SlR 1 intR w (.slice A n c) l) (hl : ∀ f ∈ l, 0 ≤ f ∧ f < nf) :
    Calls Try.prog 29 #[.slice (some ⟨g, 0, none⟩) nf nf, .slice A n c] w fun e w' => e = .returned (.bool (l.all (inX x))) ∧ w = w' := by
  have hn2 : n ≤ 9223372036854775807 := by have := hs.le; omega
  have HN := Lib.hid hs.len
  have HS := Lib.hid hs
  have HB := Lib.hid hb
  have HL := Lib.hid hl
  clear hs hb hl
  go_enter Try.func29, Try.ntmps29
  go_wp2
  go_loopg [5] n (fun g i wr => ∃ k : Nat, k ≤ n ∧ g = n - k ∧ i = .int .i64 k ∧ w = wr ∧ (l.take k).all (inX x) = true)
  case atStart => exact ⟨0, Nat.zero_le _, rfl, rfl, rfl, rfl⟩
  case round =>
    obtain ⟨k, hk, hg, rfl, rfl, hv⟩ := hrel
    have HV := Lib.hid hv
    have HG := Lib.hid hg
    clear hv hg
    by_cases hlt : k < n
    · obtain ⟨b, off, f, rfl, hb, hf, hc, hlo, hhi⟩ := ints_at HS.out hlt
      obtain ⟨f0, f1⟩ := HL.out f (List.mem_of_getElem? hf)
      have HF := Lib.hid hf
      clear hf
      obtain ⟨tb, htb⟩ : ∃ tb, x.testBit f.toNat = tb := ⟨_, rfl⟩
      have hcb : w.cell? ⟨g, f.toNat, none⟩ = some (.bool tb) := by
        rw [HB.out.cell, boolsX_at (by omega), htb]
      have HTB := Lib.hid htb
      clear htb
      rcases tb with _ | _
      · go_wp2
        go_ret
        refine ⟨ret_bool ?_, rfl⟩
        symm
        rw [List.all_eq_false]
        exact ⟨f, List.mem_of_getElem? HF.out, by unfold inX; rw [HTB.out]; simp⟩
      · go_wp2
        go_roundg (n - (k + 1))
        case measure => have := HG.out; omega
        case rel => exact ⟨k + 1, by omega, rfl, by go_num, rfl, by rw [take_snoc HF.out, List.all_append, HV.out]; simp only [List.all_cons, List.all_nil, inX, HTB.out, Bool.and_self]⟩
    · have HE : Hid (l.all (inX x) = true) := by
        have h1 := HV.out
        rw [List.take_of_length_le (by have := HN.out; omega)] at h1
        exact h1
      go_wp2
      go_ret
      exact ⟨ret_bool HE.out.symm, rfl⟩

theorem Try.infoBool : (Try.prog.info? 4).map (fun i => (i.zero, i.size, i.bytes)) = some (some (.bool false), 1, 1) := by kernel_rfl

theorem made_bools (nf : Nat) : madeCells (Value.bool false).cells (nf * 1) = boolsX nf 0 := by
  rw [boolsX_zero]
  apply Array.ext
  · simp [madeCells]
  · intro i h1 h2
    have : i % 1 = 0 := by omega
    simp [madeCells, Value.cells, this]
theorem run_makeSlice_bool (nf : Nat) (h : nf ≤ 12) (W : World) : (Instr.makeSlice 60 (.int .i64 nf) (.int .i64 nf)).run Try.prog W = .ok (.slice (some ⟨W.heap.size, 0, none⟩) nf nf) (W.alloc (.cells (boolsX nf 0) 4)) := by
  obtain ⟨j0, hj, hjz0, hjz1, hjz2⟩ := info_parts Try.infoBool
  have := run_make (P := Try.prog) W 60 4 j0 (.bool false) Try.underlying60 hj hjz0 .i64 .i64 nf nf (by omega) (by omega) (by rw [hjz2]; omega) (by omega)
  rw [hjz1] at this
  simp only [Int.toNat_natCast] at this
  rw [made_bools] at this
  exact this

/-- The memory of the reference's Closure: the schema's box and the set. -/
structure RcW (w : World) (cs : Array Value) (nf g : Nat) (W : World) (x : Nat) : Prop where
  old : Below w.heap.size w W
  bs : Blk W w.heap.size 25 cs
  bg : Blk W g 4 (boolsX nf x)
  lt : w.heap.size < g
theorem RcW.put {w : World} {cs : Array Value} {nf g : Nat} {W : World} {x : Nat} (h : RcW w cs nf g W x) (f : Nat) : RcW w cs nf g (W.setCell ⟨g, f, none⟩ (.bool true)) (x ||| 2 ^ f) :=
  ⟨h.old.setCell (by have := h.lt; simp; omega) _, h.bs.far (by have := h.lt; simp; omega) _, by have := h.bg.put f (.bool true); rwa [boolsX_set] at this, h.lt⟩
theorem RcW.grown {w : World} {cs : Array Value} {nf g : Nat} {W W' : World} {x : Nat} (h : RcW w cs nf g W x) {row : Option Nat} (hg : W.grownBy W' row) (hr : ∀ r, row = some r → g < r) : RcW w cs nf g W' x :=
  ⟨h.old.grown hg h.old.size (fun k e => by have := hr k e; have := h.lt; omega), h.bs.grown hg (fun e => by have := hr _ e.symm; have := h.lt; omega), h.bg.grown hg (fun e => by have := hr _ e.symm; omega), h.lt⟩

theorem bitsL_snoc (l : List Int) (f : Int) (x : Nat) : bitsL (l ++ [f]) x = bitsL l x ||| 2 ^ f.toNat := by
  simp [bitsL, List.foldl_append]

set_option maxHeartbeats 3200000 in
theorem refClosure_any (s1 s2 : ByteArray) (i1 i2 : Int) (fA dA : Option Addr) (nf fc nd dc : Nat) (ds : List Dep) (A : Option Addr) (n c : Nat) (l : List Int) (w : World)
    (hnf : nf ≤ 9223372036854775807) (hs : SlR 4 depR w (.slice dA nd dc) ds) (hl : SlR 1 intR w (.slice A n c) l) :
    Calls Try.prog 13 #[.agg #[.string s1, .string s2, .int .i64 i1, .int .i64 i2, .slice fA nf fc, .slice dA nd dc], .slice A n c] w (RetInts (closL nf ds l) (closOk nf ds l) w) := by
  have hn2 : n ≤ 9223372036854775807 := by have := hl.le; omega
  have hnd2 : nd ≤ 9223372036854775807 := by have := hs.le; omega
  have HN := Lib.hid hl.len
  have HND := Lib.hid hs.len
  have HS := Lib.hid hs
  have HL := Lib.hid hl
  clear hs hl
  obtain ⟨i0, hi, hz0, hz1, hz2⟩ := info_parts Try.infoInt
  obtain ⟨j0, hj, hjz0, hjz1, hjz2⟩ := info_parts Try.infoBool
  have hbx : Below w.heap.size w (w.alloc (.cells #[.string s1, .string s2, .int .i64 i1, .int .i64 i2, .slice fA nf fc, .slice dA nd dc] 25)) := (Below.refl _ _).alloc (Nat.le_refl _) _
  have HBX := Lib.hid hbx
  clear hbx
  obtain ⟨cb, hcb⟩ : ∃ cb, checkB nf ds = cb := ⟨_, rfl⟩
  have HCB := Lib.hid hcb
  clear hcb
  rcases cb with _ | _
  · have HOK : Hid (closOk nf ds l = false) := by show _ = _; simp [closOk, HCB.out]
    go_enter Try.func13, Try.ntmps13
    go_wp2_with fail
    refine (refCheck_any s1 s2 i1 i2 fA dA nf fc nd dc ds _ hnf (HS.out.mono depR_mono HBX.out)).mono ?_
    rintro e w1 ⟨rfl, hb1⟩
    rw [HCB.out, show eno false = 130 from rfl]
    have HB1 := Lib.hid hb1
    clear hb1
    go_wp2
    go_ret2
    exact ⟨.slice none 0 0, by rw [HOK.out]; rfl, by rw [closL_no HOK.out]; exact SlR.nil _ _ (Nat.zero_le _), HBX.out.trans (HB1.out.mono (by simp))⟩
  · obtain ⟨k1, k2, k3, k4⟩ := checkB_ok HCB.out
    have HK := Lib.hid k4
    clear k4
    have hmk := fun W => run_makeSlice_bool nf k2 W
    go_enter Try.func13, Try.ntmps13
    go_wp2_with fail
    refine (refCheck_any s1 s2 i1 i2 fA dA nf fc nd dc ds _ hnf (HS.out.mono depR_mono HBX.out)).mono ?_
    rintro e w1 ⟨rfl, hb1⟩
    rw [HCB.out, show eno true = 0 from rfl]
    have hbb := HBX.out.trans (hb1.mono (by simp))
    have hz : w.heap.size < w1.heap.size := by have := hb1.size; simp at this; omega
    have q4 : w1.cell? ⟨w.heap.size, 4, none⟩ = some (.slice fA nf fc) := (hb1.cell (p := ⟨w.heap.size, 4, none⟩) (by simp)).trans (by simp)
    have HB1 := Lib.hid hb1
    have HBB := Lib.hid hbb
    clear hb1 hbb
    obtain ⟨cs, hcs⟩ : ∃ cs : Array Value, #[.string s1, .string s2, .int .i64 i1, .int .i64 i2, .slice fA nf fc, .slice dA nd dc] = cs := ⟨_, rfl⟩
    have hrc0 : RcW w cs nf w1.heap.size (w1.alloc (.cells (boolsX nf 0) 4)) 0 := by
      refine ⟨HBB.out.alloc HBB.out.size _, ?_, Blk.new _ _ _, hz⟩
      rw [← hcs]
      exact ((Blk.new w _ _).below HB1.out (by simp)).alloc _
    have HRC := Lib.hid hrc0
    have HCS := Lib.hid hcs
    clear hrc0 hcs
    go_wp2_with fail
    clear hmk q4
    obtain ⟨g, hgd⟩ : ∃ g, w1.heap.size = g := ⟨_, rfl⟩
    rw [hgd] at HRC ⊢
    go_loopg [8] n (fun gg i wr => ∃ k : Nat, k ≤ n ∧ gg = n - k ∧ i = .int .i64 k ∧ RcW w cs nf g wr (bitsL (l.take k) 0) ∧ (l.take k).all (inB nf) = true)
    case atStart => exact ⟨0, Nat.zero_le _, rfl, rfl, HRC.out, rfl⟩
    case round =>
      clear hgd HRC
      obtain ⟨k, hk, hg, rfl, hrc, hv⟩ := hrel
      have HV := Lib.hid hv
      have HG := Lib.hid hg
      have HRC := Lib.hid hrc
      clear hv hg hrc
      by_cases hlt : k < n
      · obtain ⟨b, off, f, rfl, hb, hf, hc, hlo, hhi⟩ := ints_at (HL.out.mono intR_mono HRC.out.old) hlt
        have HF := Lib.hid hf
        clear hf
        by_cases hin : 0 ≤ f ∧ f < nf
        · have hf0 := hin.1
          have hf1 := hin.2
          clear hin
          have cg : wr.cell? ⟨g, f.toNat, none⟩ = some (.bool ((bitsL (l.take k) 0).testBit f.toNat)) := by rw [HRC.out.bg.cell, boolsX_at (by omega)]
          have fg : wr.frozen? ⟨g, f.toNat, none⟩ = false := HRC.out.bg.frozen _
          go_wp2_with fail
          go_roundg (n - (k + 1))
          case measure => have := HG.out; omega
          case rel => exact ⟨k + 1, by omega, rfl, by go_num, by rw [take_snoc HF.out, bitsL_snoc]; exact HRC.out.put _, by rw [take_snoc HF.out, List.all_append, HV.out]; simp [inB, hf0, hf1]⟩
        · have HOK : Hid (closOk nf ds l = false) := by
            show _ = _
            have : l.all (inB nf) = false := by
              rw [List.all_eq_false]
              refine ⟨f, List.mem_of_getElem? HF.out, ?_⟩
              simp only [inB, Bool.and_eq_true, decide_eq_true_eq]
              exact hin
            simp [closOk, this]
          go_wp2_with fail
          all_goals first
            | (go_ret2; exact ⟨.slice none 0 0, by rw [HOK.out]; rfl, by rw [closL_no HOK.out]; exact SlR.nil _ _ (Nat.zero_le _), HRC.out.old⟩)
            | (exfalso; omega)
      · have htk : l.take k = l := List.take_of_length_le (by have := HN.out; omega)
        have HIN : Hid (l.all (inB nf) = true) := by
          have h1 := HV.out
          rw [htk] at h1
          exact h1
        have hrc := HRC.out
        rw [htk] at hrc
        clear HRC htk
        have HRC := Lib.hid hrc
        clear hrc
        have HOK : Hid (closOk nf ds l = true) := by show _ = _; simp [closOk, HCB.out, HIN.out]
        have hin : ∀ f ∈ l, 0 ≤ f ∧ f < 12 := by
          intro f hf
          have := List.all_eq_true.1 HIN.out f hf
          simp only [inB, Bool.and_eq_true, decide_eq_true_eq] at this
          omega
        have hbl : bitsL l 0 < 4096 := bitsL_lt hin (by omega)
        clear hin
        obtain ⟨x0, hx0⟩ : ∃ x0, bitsL l 0 = x0 := ⟨_, rfl⟩
        have HX0 := Lib.hid hx0
        rw [hx0] at hbl HRC
        clear hx0
        go_wp2_with fail
        go_loopg [9] nf (fun gg i wr => ∃ q : Nat, q ≤ nf ∧ gg = nf - q ∧ i = .int .i64 q ∧ RcW w cs nf g wr (passN ds q x0))
        case atStart => exact ⟨0, Nat.zero_le _, rfl, rfl, HRC.out⟩
        case round =>
          clear HRC HG
          obtain ⟨q, hq, hg, rfl, hrc⟩ := hrel
          have HG := Lib.hid hg
          have HRC := Lib.hid hrc
          clear hg hrc
          by_cases hql : q < nf
          · go_wp2_with fail
            obtain ⟨y, hy⟩ : ∃ y, passN ds q x0 = y := ⟨_, rfl⟩
            have HY := Lib.hid hy
            rw [hy] at HRC
            clear hy
            go_loopg [10] nd (fun gg i wr => ∃ p : Nat, p ≤ nd ∧ gg = nd - p ∧ i = .int .i64 p ∧ RcW w cs nf g wr ((ds.take p).foldl stepX y))
            case atStart => exact ⟨0, Nat.zero_le _, rfl, rfl, HRC.out⟩
            case round =>
              clear HRC
              obtain ⟨p, hp, hg2, rfl, hrc⟩ := hrel
              have HG2 := Lib.hid hg2
              have q5 := hrc.bs.cell 5
              rw [← HCS.out] at q5
              simp only [List.getElem?_toArray, List.getElem?_cons_zero, List.getElem?_cons_succ] at q5
              have hgs := hrc.bg.lt
              have HRC := Lib.hid hrc
              clear hg2 hrc
              by_cases hpl : p < nd
              · obtain ⟨b, off, d, nA, nn, nc, s, gA, gn, gc, rfl, hbl2, hd, c0, c1, c2, c3, hsrc, hlo, hhi⟩ := dep_at (HS.out.mono depR_mono HRC.out.old) hpl
                have hok := HK.out d (List.mem_of_getElem? hd)
                obtain ⟨hd0, hd1⟩ := hok.2
                obtain ⟨z, hz⟩ : ∃ z, (ds.take p).foldl stepX y = z := ⟨_, rfl⟩
                rw [hz] at HRC
                have HNX : Hid ((ds.take (p + 1)).foldl stepX y = stepX z d) := by
                  show _ = _
                  rw [take_snoc hd, List.foldl_append, hz]; rfl
                have HD := Lib.hid hd
                have HSRC := Lib.hid hsrc
                have HOKD := Lib.hid hok
                clear hd hsrc hok hz
                obtain ⟨tb, htb⟩ : ∃ tb, d.src.all (inX z) = tb := ⟨_, rfl⟩
                have HTB := Lib.hid htb
                clear htb
                have cg : wr.cell? ⟨g, d.dst.toNat, none⟩ = some (.bool (z.testBit d.dst.toNat)) := by rw [HRC.out.bg.cell, boolsX_at (by omega)]
                have fg : wr.frozen? ⟨g, d.dst.toNat, none⟩ = false := HRC.out.bg.frozen _
                rcases tb with _ | _
                · go_wp2_with (go_at_call 29; refine (all_any g nf z _ _ _ d.src _ HRC.out.bg HSRC.out HOKD.out.1).mono ?_; rintro e w' ⟨rfl, rfl⟩; rw [HTB.out])
                  go_roundg (nd - (p + 1))
                  case measure => have := HG2.out; omega
                  case rel => exact ⟨p + 1, by omega, rfl, by go_num, by rw [HNX.out, stepX_eq, HTB.out]; exact HRC.out⟩
                · go_wp2_with (go_at_call 29; refine (all_any g nf z _ _ _ d.src _ HRC.out.bg HSRC.out HOKD.out.1).mono ?_; rintro e w' ⟨rfl, rfl⟩; rw [HTB.out])
                  go_roundg (nd - (p + 1))
                  case measure => have := HG2.out; omega
                  case rel => exact ⟨p + 1, by omega, rfl, by go_num, by rw [HNX.out, stepX_eq, HTB.out]; exact HRC.out.put _⟩
              · go_wp2_with fail
                go_roundg (nf - (q + 1))
                case measure => have := HG.out; omega
                case rel =>
                  refine ⟨q + 1, by omega, rfl, by go_num, ?_⟩
                  have h1 := HRC.out
                  rw [List.take_of_length_le (by have := HND.out; omega)] at h1
                  show RcW w cs nf g wr (pass ds (passN ds q x0))
                  rw [HY.out]; exact h1
          · have hqe : passN ds q x0 = clos ds x0 := by rw [show q = nf by omega]; exact clos_nf k2 HK.out hbl
            rw [hqe] at HRC
            clear hqe
            obtain ⟨C, hC⟩ : ∃ C, clos ds x0 = C := ⟨_, rfl⟩
            have HC := Lib.hid hC
            rw [hC] at HRC
            clear hC
            obtain ⟨wo, rfl⟩ : ∃ wo : World, wo = wr := ⟨_, rfl⟩
            have hgwo := HRC.out.bg.lt
            go_wp2_with fail
            go_loopg [11, 12] nf (fun gg x i wr => ∃ p : Nat, p ≤ nf ∧ gg = nf - p ∧ i = .int .i64 p ∧ wr.ownsRow (g + 1) 3 1 x (listX p C).length ((listX p C).map (Value.int .i64)) ∧ RcW w cs nf g wr C)
            case atStart => exact ⟨0, Nat.zero_le _, rfl, rfl, World.ownsRow_lit wo #[] 0 (by omega) (Nat.zero_le _) rfl, HRC.out.grown (World.grownBy_alloc _ _ none) (fun r e => by cases e)⟩
            case round =>
              clear HRC hgwo
              obtain ⟨p, hp, hg2, rfl, hown, hrc⟩ := hrel
              have hll := listX_len p C
              have HG2 := Lib.hid hg2
              have hgs := hrc.bg.lt
              have HOWN := Lib.hid hown
              have HRC := Lib.hid hrc
              clear hg2 hown hrc
              by_cases hpl : p < nf
              · obtain ⟨tb, htb⟩ : ∃ tb, C.testBit p = tb := ⟨_, rfl⟩
                have cg : wr.cell? ⟨g, p, none⟩ = some (.bool tb) := by rw [HRC.out.bg.cell, boolsX_at hpl, htb]
                have HTB := Lib.hid htb
                clear htb
                rcases tb with _ | _
                · go_wp2_with fail
                  go_roundg (nf - (p + 1))
                  case measure => have := HG2.out; omega
                  case rel =>
                    refine ⟨p + 1, by omega, rfl, by go_num, ?_, HRC.out⟩
                    rw [listX_succ_no HTB.out]; exact HOWN.out
                · go_wp2_with (at_builtin; refine wpList_append_own _ rfl (.tmp 88) (.tmp 90) 26 rfl (g + 1) 3 i0 (.int .i64 0) 1 8 Try.underlying26 hi hz0 hz1 hz2 rfl (by decide) _ _ _ rfl (HOWN.out.alloc _) ⟨wr.heap.size, 0, none⟩ 1 1 [.int .i64 p] rfl rfl (cell_one_new _ _ _) (by simp [Value.oneCell']) (by unfold maxLen; omega) (by omega) (by simp; omega) ?_; intro v' w5 hown' hgrow hnil)
                  go_roundg (nf - (p + 1))
                  case measure => have := HG2.out; omega
                  case rel =>
                    refine ⟨p + 1, by omega, rfl, by go_num, ?_, (HRC.out.grown (World.grownBy_alloc _ _ none) (fun r e => by cases e)).grown hgrow (fun r e => by have := (HOWN.out.lt r e).1; omega)⟩
                    rw [listX_succ_yes HTB.out, List.map_append, List.length_append]; exact hown'
              · go_wp2_with fail
                go_ret2
                have hpe : p = nf := by omega
                refine ⟨_, by rw [HOK.out]; rfl, ?_, HRC.out.old⟩
                rw [closL_yes HOK.out, HX0.out, HC.out, ← hpe]
                exact slR_of_own HOWN.out (fun x hx => by have := listX_mem hx; omega)

theorem listX_any {nf x : Nat} {f : Int} (h0 : 0 ≤ f) (h1 : f < nf) : (listX nf x).any (· == f) = x.testBit f.toNat := by
  rw [Bool.eq_iff_iff, List.any_eq_true]
  simp only [listX, List.mem_map, List.mem_filter, List.mem_range, beq_iff_eq]
  constructor
  · rintro ⟨g, ⟨i, ⟨_, hb⟩, rfl⟩, rfl⟩
    simpa using hb
  · intro h
    exact ⟨f, ⟨f.toNat, ⟨by omega, h⟩, by omega⟩, rfl⟩
theorem closOk_src {nf : Nat} {ds : List Dep} {d : Dep} (hc : checkB nf ds = true) (hv : okDep nf d) : closOk nf ds d.src = true := by
  simp only [closOk, hc, Bool.true_and, List.all_eq_true]
  intro f hf
  have := hv.1 f hf
  simp [inB, this]

set_option maxHeartbeats 1600000 in
theorem refImplied_any (s1 s2 : ByteArray) (i1 i2 : Int) (fA dA : Option Addr) (nf fc nd dc : Nat) (ds : List Dep) (nA A : Option Addr) (nn nc n c : Nat) (s : ByteArray) (d : Dep) (w : World)
    (hnf : nf ≤ 9223372036854775807) (hs : SlR 4 depR w (.slice dA nd dc) ds) (hsrc : SlR 1 intR w (.slice A n c) d.src) :
    Calls Try.prog 15 #[.agg #[.string s1, .string s2, .int .i64 i1, .int .i64 i2, .slice fA nf fc, .slice dA nd dc], .agg #[.slice nA nn nc, .string s, .slice A n c, .int .i64 d.dst]] w
      (Ret (.tuple #[.bool (checkB nf ds && validB nf d && impB ds d), .int .i64 (eno (checkB nf ds && validB nf d))]) w) := by
  have HS := Lib.hid hs
  have HR := Lib.hid hsrc
  clear hs hsrc
  obtain ⟨cb, hcb⟩ : ∃ cb, checkB nf ds = cb := ⟨_, rfl⟩
  have HCB := Lib.hid hcb
  rw [hcb]
  clear hcb
  have hbx : Below w.heap.size w ((w.alloc (.cells #[.string s1, .string s2, .int .i64 i1, .int .i64 i2, .slice fA nf fc, .slice dA nd dc] 25)).alloc (.cells #[.slice nA nn nc, .string s, .slice A n c, .int .i64 d.dst] 29)) := ((Below.refl _ _).alloc (Nat.le_refl _) _).alloc (by simp) _
  have HBX := Lib.hid hbx
  clear hbx
  rcases cb with _ | _
  · go_enter Try.func15, Try.ntmps15
    go_wp2_with fail
    refine (refCheck_any s1 s2 i1 i2 fA dA nf fc nd dc ds _ hnf (HS.out.mono depR_mono HBX.out)).mono ?_
    rintro e w1 ⟨rfl, hb1⟩
    rw [HCB.out, show eno false = 130 from rfl]
    have HB1 := Lib.hid hb1
    clear hb1
    go_wp2
    go_ret2
    exact ⟨rfl, HBX.out.trans (HB1.out.mono (by simp; omega))⟩
  · obtain ⟨k1, k2, k3, k4⟩ := checkB_ok HCB.out
    have HK := Lib.hid k4
    clear k4
    obtain ⟨vb, hvb⟩ : ∃ vb, validB nf d = vb := ⟨_, rfl⟩
    have HVB := Lib.hid hvb
    rw [hvb]
    clear hvb
    go_enter Try.func15, Try.ntmps15
    go_wp2_with fail
    refine (refCheck_any s1 s2 i1 i2 fA dA nf fc nd dc ds _ hnf (HS.out.mono depR_mono HBX.out)).mono ?_
    rintro e w1 ⟨rfl, hb1⟩
    rw [HCB.out, show eno true = 0 from rfl]
    have hz1 : w.heap.size + 1 < w1.heap.size := by have := hb1.size; simp at this; omega
    have bs : Blk w1 w.heap.size 25 #[.string s1, .string s2, .int .i64 i1, .int .i64 i2, .slice fA nf fc, .slice dA nd dc] := ((Blk.new w _ _).alloc _).below hb1 (by simp; omega)
    have bd : Blk w1 (w.heap.size + 1) 29 #[.slice nA nn nc, .string s, .slice A n c, .int .i64 d.dst] := by
      have := Blk.new (w.alloc (.cells #[.string s1, .string s2, .int .i64 i1, .int .i64 i2, .slice fA nf fc, .slice dA nd dc] 25)) 29 #[.slice nA nn nc, .string s, .slice A n c, .int .i64 d.dst]
      rw [World.size_alloc] at this
      exact this.below hb1 (by simp)
    have hbb1 : Below w.heap.size w w1 := HBX.out.trans (hb1.mono (by simp; omega))
    have q4 := bs.cell 4
    have r0 := bd.cell 0
    have r1 := bd.cell 1
    have r2 := bd.cell 2
    have r3 := bd.cell 3
    simp only [List.getElem?_toArray, List.getElem?_cons_zero, List.getElem?_cons_succ] at q4 r0 r1 r2 r3
    have HBS := Lib.hid bs
    have HBD := Lib.hid bd
    have HB1 := Lib.hid hbb1
    clear bs bd hbb1 hb1
    go_wp2_with fail
    refine (refValid_any nA A nn nc n c s d.dst nf d.src _ (HR.out.mono intR_mono HB1.out)).mono ?_
    rintro e w2 ⟨rfl, hb2⟩
    rw [show validB nf ⟨d.src, d.dst⟩ = _ from HVB.out]
    have bs := HBS.out.below hb2 (by omega)
    have bd := HBD.out.below hb2 (by omega)
    have hbb2 : Below w.heap.size w w2 := HB1.out.trans (hb2.mono (by omega))
    have hz2 : w.heap.size + 1 < w2.heap.size := by have := hb2.size; omega
    clear q4 r0 r1 r2 r3 HBS HBD
    have q0 := bs.cell 0
    have q1 := bs.cell 1
    have q2 := bs.cell 2
    have q3 := bs.cell 3
    have q4 := bs.cell 4
    have q5 := bs.cell 5
    have r2 := bd.cell 2
    have r3 := bd.cell 3
    simp only [List.getElem?_toArray, List.getElem?_cons_zero, List.getElem?_cons_succ] at q0 q1 q2 q3 q4 q5 r2 r3
    have HBS := Lib.hid bs
    have HBD := Lib.hid bd
    have HB2 := Lib.hid hbb2
    clear bs bd hb2 hbb2
    rcases vb with _ | _
    · go_wp2_with fail
      go_ret2
      exact ⟨rfl, HB2.out⟩
    · go_wp2_with fail
      refine (refClosure_any s1 s2 i1 i2 fA dA nf fc nd dc ds A n c d.src _ hnf (HS.out.mono depR_mono HB2.out) (HR.out.mono intR_mono HB2.out)).mono ?_
      rintro e w3 ⟨v, rfl, hv, hb3⟩
      have hvd := validB_ok HVB.out
      have hres : (closL nf ds d.src).any (· == d.dst) = impB ds d := by
        rw [closL_yes (closOk_src HCB.out hvd), listX_any hvd.2.1 hvd.2.2]; rfl
      obtain ⟨A', cap', rfl⟩ := hv.form
      have s3 := (HBD.out.below hb3 (by omega)).cell 3
      simp only [List.getElem?_toArray, List.getElem?_cons_zero, List.getElem?_cons_succ] at s3
      have HRES := Lib.hid hres
      have HB3 := Lib.hid (HB2.out.trans (hb3.mono (B' := w.heap.size) (by omega)))
      have HV := Lib.hid hv
      clear hres hv hb3 hvd q0 q1 q2 q3 q4 q5 r2 r3
      go_wp2_with (go_at_call 32; refine (refHas_any _ _ _ _ _ _ HV.out).mono ?_; rintro e w' ⟨rfl, rfl⟩; rw [HRES.out])
      go_ret2
      exact ⟨rfl, HB3.out⟩

end Go.Proofs.Ytejjggchjoifoaa
