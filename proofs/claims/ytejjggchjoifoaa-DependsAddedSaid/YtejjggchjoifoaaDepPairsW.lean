/- The iterator of depends.pairs: its contract. -/
import Derived.Test.YtejjggchjoifoaaDepPairs
import Derived.RangeFuncNested
import Derived.RangeFuncBound
import Derived.RangeFuncCalls
import Derived.RangeFuncLeaves
import Derived.Shelf.Abstract
import Derived.Shelf.RegionOpen
import Derived.OwnWalkIn
import Derived.TacticsInMore
import Derived.LoopNIn
import Derived.LoopIn
import Derived.Sort.LoopGhostIn
import Derived.Sort.BigQuietIn
import Derived.Shelf.RegionOpenV
namespace Go.Proofs.Ytejjggchjoifoaa
open Go.RowKit Go.Shelf
attribute [local go_sem] Oper.semAt_some

/-- What a round keeps: whatever lay below B but for four boxes; of what is younger, cells and maps. -/
structure KpB (r0 B : Nat) (W W' : World) : Prop where
  os : W'.os = W.os
  tape : W'.tape = W.tape
  output : W'.output = W.output
  size : W.heap.size ≤ W'.heap.size
  old : ∀ k, k < B → (k < r0 ∨ r0 + 4 ≤ k) → W'.heap[k]? = W.heap[k]?
  new : ∀ k o, B ≤ k → W.heap[k]? = some o → (o.isCells = true ∨ o.isWalk = true) → W'.heap[k]? = some o

def pairV (p : Int × Int) : Array Value := #[.agg #[.int .i64 p.1, .int .i64 p.2]]

/-- The iterator's memory. -/
structure ItW (E : World) (base bl bd : Nat) (vl : Value) (vd : Array Value) (wr : World) (st : PS) : Prop where
  old : Below E.heap.size E wr
  size : base + 2 ≤ wr.heap.size
  lbox : Blk wr bl 40 #[vl]
  dbox : Blk wr bd 29 vd
  first : MapAt ek12 (Value.int .i64) wr base st.first
  done : MapAt (Value.int .i64) Value.bool wr (base + 1) st.done

theorem MapAt.keep {κ ν : Type} {ek : κ → Value} {ev : ν → Value} {w w' : World} {b r0 B : Nat} {m : List (κ × ν)} (h : MapAt ek ev w b m) (hk : KpB r0 B w w') (hB : B ≤ b) : MapAt ek ev w' b m := by
  obtain ⟨es, clock, h1, h2⟩ := h
  exact ⟨es, clock, hk.new b _ hB h1 (.inr rfl), h2⟩

theorem KpB.below {r0 B : Nat} {w w' : World} (h : KpB r0 B w w') {n : Nat} (hn : n ≤ r0) (hB : n ≤ B) : Below n w w' :=
  ⟨h.os, h.tape, h.output, h.size, fun k hk => h.old k (by omega) (.inl (by omega))⟩

theorem KpB.blk {r0 B : Nat} {w w' : World} (h : KpB r0 B w w') {g : Nat} {t : TypeId} {cs : Array Value} (hb : Blk w g t cs) (hg : g < B) (hr : r0 + 4 ≤ g) : Blk w' g t cs :=
  (h.old g hg (.inr hr)).trans hb

theorem key_set (src : List Int) (x : Inst) (q : Nat) (hq : q < 12) :
    ((keyUpto src x q).map (Value.int .i64)).toArray.setIfInBounds q (.int .i64 (x.getD (src.getD q 0).toNat 0)) = ((keyUpto src x (q + 1)).map (Value.int .i64)).toArray := by
  rw [List.setIfInBounds_toArray]
  congr 1
  apply List.ext_getElem?
  intro i
  simp only [List.getElem?_set, keyUpto, List.map_map, List.length_map, List.length_range, List.getElem?_map]
  by_cases h : q = i
  · subst h
    simp [hq]
  · rw [if_neg h]
    by_cases hi : i < 12
    · simp only [List.getElem?_range hi, Option.map_some, Function.comp]
      congr 2
      by_cases h1 : i < q
      · rw [if_pos h1, if_pos (by omega)]
      · rw [if_neg h1, if_neg (by omega)]
    · rw [List.getElem?_eq_none (by simp; omega)]
      rfl

theorem key_parts (l : List Int) (h : l.length = 12) : ∃ x0 x1 x2 x3 x4 x5 x6 x7 x8 x9 x10 x11, l = [x0, x1, x2, x3, x4, x5, x6, x7, x8, x9, x10, x11] := by
  match l, h with
  | [x0, x1, x2, x3, x4, x5, x6, x7, x8, x9, x10, x11], _ => exact ⟨_, _, _, _, _, _, _, _, _, _, _, _, rfl⟩

set_option maxRecDepth 100000 in
set_option maxHeartbeats 4000000 in
theorem pairs1_in (F : Fence) (n : Nat) (hF : F.fn 37) (hro : F.round = none) (hn : 1 ≤ n) (E w : World) (bl bd r0 : Nat) (A nA gA : Option Addr) (ln c nn nc gn gc : Nat) (s : ByteArray) (l : List Inst) (d : Dep) (nf : Nat)
    (hE : Below E.heap.size E w) (hr0 : E.heap.size ≤ r0) (hbl : Blk w bl 40 #[.slice A ln c]) (hbd : Blk w bd 29 #[.slice nA nn nc, .string s, .slice gA gn gc, .int .i64 d.dst]) (hbl0 : r0 + 4 ≤ bl) (hbd0 : r0 + 4 ≤ bd)
    (hl : SlR 4 instR E (.slice A ln c) l) (hsrc : SlR 1 intR E (.slice gA gn gc) d.src) (hok : okDep nf d) (hlen : d.src.length ≤ 12) (hx : ∀ x ∈ l, x.length = nf) :
    SeqStopsK F n Try.prog 37 #[.pointer (some ⟨bl, 0, none⟩), .pointer (some ⟨bd, 0, none⟩)] pairV (KpB r0 w.heap.size) (fun xs => xs = pairsL d l) (fun pre => pre <+: pairsL d l) l.length w := by
  intro lp J Jx W hW hJ hJx hY h0
  have hmm := @run_makeMap Try.prog
  refine callsIn_of_wp Try.func37 rfl hF ?_ hro
  simp only [Try.ntmps37, List.size_toArray, List.length_cons, List.length_nil, Nat.reduceAdd, Nat.reduceSub, Array.replicate_succ, Array.replicate_zero, List.push_toArray, List.append_toArray, List.nil_append, List.cons_append]
  have hcl : W.cell? ⟨bl, 0, none⟩ = some (.slice A ln c) := ((hbl.below hW hbl.lt).cell 0)
  have hbl2 : bl < W.heap.size := Nat.lt_of_lt_of_le hbl.lt hW.size
  have hbd2 : bd < W.heap.size := Nat.lt_of_lt_of_le hbd.lt hW.size
  have hblw := hbl.lt
  have hbdw := hbd.lt
  have hEw := hE.size
  have hwW := hW.size
  have hln : ln ≤ 9223372036854775807 := by have := hl.le; omega
  have hIt : ItW E W.heap.size bl bd (.slice A ln c) #[.slice nA nn nc, .string s, .slice gA gn gc, .int .i64 d.dst] ((W.alloc (.map #[] 0)).alloc (.map #[] 0)) (pst d l 0) :=
    { old := ((hE.trans (hW.mono hE.size)).alloc (Nat.le_trans hE.size hW.size) _).alloc (by have := hE.size; simp; omega) _
      size := by simp
      lbox := ((hbl.below hW hbl.lt).alloc _).alloc _
      dbox := ((hbd.below hW hbd.lt).alloc _).alloc _
      first := (MapAt.new _ _ W).grown (World.grownBy_alloc _ _ none) (by simp)
      done := by simpa [pst] using MapAt.new (Value.int .i64) Value.bool (W.alloc (.map #[] 0)) }
  have hJ1 : J (pst d l 0).out ((W.alloc (.map #[] 0)).alloc (.map #[] 0)) := hJ _ _ _ none (hJ _ _ _ none h0 (World.grownBy_alloc _ _ none) (fun r e => by cases e)) (World.grownBy_alloc _ _ none) (fun r e => by cases e)
  have HLN := Lib.hid hl.len
  have HIT := Lib.hid hIt
  have HJ := Lib.hid hJ
  have HJ1 := Lib.hid hJ1
  have HY := Lib.hid hY
  have HL := Lib.hid hl
  have HSRC := Lib.hid hsrc
  have HX := Lib.hid hx
  have HOK := Lib.hid hok
  clear hIt hJ hJ1 hY hl hsrc hx hok hbl hbd hE hW h0 hJx
  gi_wp2
  clear hmm hcl
  gi_loopg [17] ln (fun k i wr => ∃ b : Nat, b ≤ ln ∧ k = ln - b ∧ i = .int .i64 b ∧ ItW E W.heap.size bl bd (.slice A ln c) #[.slice nA nn nc, .string s, .slice gA gn gc, .int .i64 d.dst] wr (pst d l b) ∧ J (pst d l b).out wr)
  case atStart => exact ⟨0, Nat.zero_le _, rfl, rfl, HIT.out, HJ1.out⟩
  case round =>
    clear HIT HJ1
    obtain ⟨b, hb, hgk, rfl, hit, hj⟩ := hrel
    have HGK := Lib.hid hgk
    have HIT := Lib.hid hit
    have HJN := Lib.hid hj
    clear hgk hit hj
    obtain ⟨wo, rfl⟩ : ∃ wo : World, wo = wr := ⟨_, rfl⟩
    by_cases hlt : b < ln
    · obtain ⟨xb, off, x, i1, i2, i3, vA, vn, vc, hA, hxb, hxx, c0, c1, c2, c3, hxs⟩ := inst_at (HL.out.mono instR_mono HIT.out.old) hlt
      obtain rfl := hA
      have r0' := HIT.out.dbox.cell 2
      have hbdl := HIT.out.dbox.lt
      have hgn : gn ≤ 9223372036854775807 := by have := HSRC.out.le; omega
      have HXX := Lib.hid hxx
      have HXS := Lib.hid hxs
      clear hxx hxs
      have hzw : wo.heap.size < wo.heap.size + 1 := by omega
      simp only [List.getElem?_toArray, List.getElem?_cons_zero, List.getElem?_cons_succ] at r0'
      gi_wp2
      gi_loopg [25] gn (fun k i wr => ∃ q : Nat, q ≤ gn ∧ k = gn - q ∧ i = .int .i64 q ∧ Below (wo.heap.size + 1) (wo.alloc (.cells #[.int .i64 i1, .int .i64 i2, .int .i64 i3, .slice vA vn vc] 49)) wr ∧ wr.heap.size = wo.heap.size + 2 ∧ Blk wr (wo.heap.size + 1) 73 ((keyUpto d.src x q).map (Value.int .i64)).toArray)
      case atStart =>
        refine ⟨0, Nat.zero_le _, rfl, rfl, (Below.refl _ _).alloc (by simp) _, by simp, ?_⟩
        have hk0 : ((keyUpto d.src x 0).map (Value.int .i64)).toArray = #[.int .i64 0, .int .i64 0, .int .i64 0, .int .i64 0, .int .i64 0, .int .i64 0, .int .i64 0, .int .i64 0, .int .i64 0, .int .i64 0, .int .i64 0, .int .i64 0] := rfl
        rw [hk0]
        simpa using Blk.new (wo.alloc (.cells #[.int .i64 i1, .int .i64 i2, .int .i64 i3, .slice vA vn vc] 49)) 73 _
      case round =>
        obtain ⟨q, hq, hgk, rfl, hbq, hsq, hblk⟩ := hrel
        have hEq : Below E.heap.size E wr := (HIT.out.old.alloc HIT.out.old.size _).trans (hbq.mono (by have := HIT.out.old.size; omega))
        have hwq : Below wo.heap.size wo wr := ((Below.refl _ _).alloc (Nat.le_refl _) _).trans (hbq.mono (by omega))
        have hx3 : wr.cell? ⟨wo.heap.size, 3, none⟩ = some (.slice vA vn vc) := (hbq.cell (p := ⟨wo.heap.size, 3, none⟩) (by simp)).trans (by simp)
        have HGK2 := Lib.hid hgk
        have HBQ := Lib.hid hbq
        have HSQ := Lib.hid hsq
        have HBLK := Lib.hid hblk
        have HEQ := Lib.hid hEq
        have HWQ := Lib.hid hwq
        have hzq : wo.heap.size + 1 < wr.heap.size := by omega
        clear hgk hbq hsq hblk hEq hwq c0 c1 c2 c3 r0'
        by_cases hqlt : q < gn
        · obtain ⟨gb, goff, f, hgA, hgb, hf, hcf, hflo, hfhi⟩ := ints_at (HSRC.out.mono intR_mono HEQ.out) hqlt
          obtain rfl := hgA
          have hf0 := (HOK.out.1 f (List.mem_of_getElem? hf)).1
          have hf1 := (HOK.out.1 f (List.mem_of_getElem? hf)).2
          have hxl : x.length = nf := HX.out x (List.mem_of_getElem? HXX.out)
          have hvn : vn = nf := by have := HXS.out.len; omega
          obtain ⟨vb, voff, y, hvA, hvb, hy, hcy, hylo, hyhi⟩ := ints_at (k := f.toNat) (HXS.out.mono intR_mono HWQ.out) (by omega)
          obtain rfl := hvA
          have hq12 : q < 12 := by have := HSRC.out.len; omega
          have hcq : wr.cell? ⟨wo.heap.size + 1, q, none⟩ = some (.int .i64 0) := by
            rw [HBLK.out.cell q]
            simp [keyUpto, hq12]
          have hfq : wr.frozen? ⟨wo.heap.size + 1, q, none⟩ = false := HBLK.out.frozen q
          have hfv : f < (vn : Int) := by omega
          have HF := Lib.hid hf
          have HY2 := Lib.hid hy
          clear hf hy hxl hvn
          gi_wp2
          go_roundg (gn - (q + 1))
          case measure => have := HGK2.out; omega
          case rel =>
            refine ⟨q + 1, by omega, rfl, by go_num, HBQ.out.setCell (by simp) _, by have := HSQ.out; simpa [World.setCell] using this, ?_⟩
            have hk := key_set d.src x q hq12
            have hs1 : d.src.getD q 0 = f := by rw [List.getD_eq_getElem?_getD, HF.out]; rfl
            have hs2 : x.getD f.toNat 0 = y := by rw [List.getD_eq_getElem?_getD, HY2.out]; rfl
            rw [hs1, hs2] at hk
            rw [← hk]
            exact HBLK.out.put q _
        · have hge : q = d.src.length := by have := HSRC.out.len; omega
          have hxbd : ∀ v ∈ x, -9223372036854775808 ≤ v ∧ v ≤ 9223372036854775807 := ints_bd HXS.out
          have hinst : instAt l b = x := by unfold instAt; rw [List.getD_eq_getElem?_getD, HXX.out]; rfl
          obtain ⟨x0, x1, x2, x3, x4, x5, x6, x7, x8, x9, x10, x11, hkl⟩ := key_parts _ (keyUpto_len d.src x d.src.length)
          have hkey : ek12 (keyK d.src (instAt l b)) = .agg #[.int .i64 x0, .int .i64 x1, .int .i64 x2, .int .i64 x3, .int .i64 x4, .int .i64 x5, .int .i64 x6, .int .i64 x7, .int .i64 x8, .int .i64 x9, .int .i64 x10, .int .i64 x11] := by
            unfold ek12 keyK
            simp only [hinst, clampI_ok hxbd, hkl, List.map_cons, List.map_nil]
          have hblk := HBLK.out
          rw [hge, hkl] at hblk
          simp only [List.map_cons, List.map_nil] at hblk
          have k0 := hblk.cell 0
          have k1 := hblk.cell 1
          have k2 := hblk.cell 2
          have k3 := hblk.cell 3
          have k4 := hblk.cell 4
          have k5 := hblk.cell 5
          have k6 := hblk.cell 6
          have k7 := hblk.cell 7
          have k8 := hblk.cell 8
          have k9 := hblk.cell 9
          have k10 := hblk.cell 10
          have k11 := hblk.cell 11
          simp only [List.getElem?_toArray, List.getElem?_cons_zero, List.getElem?_cons_succ] at k0 k1 k2 k3 k4 k5 k6 k7 k8 k9 k10 k11
          have hgw : wo.grownBy wr none := ⟨HWQ.out.os, HWQ.out.tape, HWQ.out.output, HWQ.out.size, fun k hk _ => HWQ.out.block k hk⟩
          have hmf : MapAt ek12 (Value.int .i64) wr W.heap.size (pst d l b).first := HIT.out.first.grown hgw (by simp)
          have hmd : MapAt (Value.int .i64) Value.bool wr (W.heap.size + 1) (pst d l b).done := HIT.out.done.grown hgw (by simp)
          have hjq : J (pst d l b).out wr := HJ.out _ _ _ none HJN.out hgw (fun r e => by cases e)
          have hlook := run_lookup_m keyEq12 Try.underlying71 (z := .int .i64 0) (by kernel_rfl) hmf (keyK d.src (instAt l b)) true
          have HST : Hid (pst d l (b + 1) = pstep d l (pst d l b) b) := rfl
          have HKEY := Lib.hid hkey
          have HHG := Lib.hid hge
          have HGW := Lib.hid hgw
          have HMF := Lib.hid hmf
          have HMD := Lib.hid hmd
          have HJQ := Lib.hid hjq
          have HKL := Lib.hid hkl
          have HXB := Lib.hid hxbd
          have HIN := Lib.hid hinst
          rw [hkey] at hlook
          clear hkey hge hgw hmf hmd hjq hkl hxbd hinst hblk
          cases hget : getM (pst d l b).first (keyK d.src (instAt l b)) with
          | none =>
            rw [hget] at hlook
            simp only [if_pos, Option.map_none, Option.getD_none, Option.isSome_none] at hlook
            obtain ⟨w3, hrun3, hm3, hg3⟩ := run_update_m keyEq12 Try.underlying71 HMF.out (keyK d.src (instAt l b)) (b : Int)
            rw [HKEY.out] at hrun3
            have HM3 := Lib.hid hm3
            have HG3 := Lib.hid hg3
            have HGET := Lib.hid hget
            clear hm3 hg3 hget
            gi_wp2
            go_roundg (ln - (b + 1))
            case measure => have := HGK.out; omega
            case rel =>
              have hpst : pst d l (b + 1) = { pst d l b with first := putM (pst d l b).first (keyK d.src (instAt l b)) (b : Int) } := by
                rw [HST.out]
                unfold pstep
                rw [HGET.out]
              have hEW : E.heap.size ≤ W.heap.size := by omega
              refine ⟨b + 1, by omega, rfl, by go_num, ?_, ?_⟩
              · rw [hpst]
                exact
                  { old := HEQ.out.grown HG3.out HEQ.out.size (fun k e => by cases e; exact hEW)
                    size := Nat.le_trans HIT.out.size (Nat.le_trans HGW.out.size HG3.out.size)
                    lbox := (HIT.out.lbox.grown HGW.out (by simp)).grown HG3.out (by simp; omega)
                    dbox := (HIT.out.dbox.grown HGW.out (by simp)).grown HG3.out (by simp; omega)
                    first := HM3.out
                    done := HMD.out.grown HG3.out (by simp) }
              · rw [hpst]
                exact HJ.out _ _ _ (some W.heap.size) HJQ.out HG3.out (fun r e => by
                  cases e
                  obtain ⟨es, clock, he⟩ := HMF.out.isMap
                  exact ⟨Nat.le_refl _, _, he, rfl⟩)
          | some a =>
            rw [hget] at hlook
            simp only [if_pos, Option.map_some, Option.getD_some, Option.isSome_some] at hlook
            obtain ⟨ha0, ha1⟩ := pst_first d l b _ a hget
            obtain ⟨ab, aoff, xa, j1, j2, j3, wA, wn, wc, hAA, hab, hxa, _, _, _, ca3, hxas⟩ := inst_at (k := a.toNat) (HL.out.mono instR_mono HEQ.out) (by omega)
            have hab1 : ab = xb := by injection hAA with e; injection e with e1 e2; exact e1.symm
            have haoff : aoff = off := by injection hAA with e; injection e with e1 e2; exact e2.symm
            subst hab1 haoff
            have hla : xa.length = nf := HX.out xa (List.mem_of_getElem? hxa)
            have hlx : x.length = nf := HX.out x (List.mem_of_getElem? HXX.out)
            have hwn : wn = nf := by have := hxas.len; omega
            have hvn : vn = nf := by have := HXS.out.len; omega
            have hd0 := HOK.out.2.1
            have hd1 := HOK.out.2.2
            obtain ⟨vb, voff, y, hvA, hvb, hy, hcy, hylo, hyhi⟩ := ints_at (k := d.dst.toNat) (HXS.out.mono intR_mono HWQ.out) (by omega)
            obtain rfl := hvA
            obtain ⟨ub, uoff, z, huA, hub, hz, hcz, hzlo, hzhi⟩ := ints_at (k := d.dst.toNat) hxas (by omega)
            obtain rfl := huA
            have hlb := (HIT.out.lbox.grown HGW.out (by simp)).cell 0
            have hdb := (HIT.out.dbox.grown HGW.out (by simp)).cell 3
            have hlbl := (HIT.out.lbox.grown HGW.out (by simp)).lt
            have hdbl := (HIT.out.dbox.grown HGW.out (by simp)).lt
            simp only [List.getElem?_toArray, List.getElem?_cons_zero, List.getElem?_cons_succ] at hlb hdb
            have hdv : d.dst < (vn : Int) := by omega
            have hdw : d.dst < (wn : Int) := by omega
            have hal : a < (ln : Int) := by omega
            have HZ : Hid ((instAt l a.toNat).getD d.dst.toNat 0 = z) := by
              show _ = _
              unfold instAt
              rw [List.getD_eq_getElem?_getD, List.getD_eq_getElem?_getD, hxa, Option.getD_some, hz]; rfl
            have HYY : Hid ((instAt l b).getD d.dst.toNat 0 = y) := by
              show _ = _
              rw [HIN.out, List.getD_eq_getElem?_getD, hy]; rfl
            have hdone := fun k : Nat => run_lookup_m (w := wr.drewN k) (keyEq_int Try.underlying3) Try.underlying72 (z := .bool false) (by kernel_rfl) (HMD.out.same (w' := wr.drewN k) rfl) a false
            obtain ⟨dn, hdn⟩ : ∃ dn, (getM (pst d l b).done a).getD false = dn := ⟨_, rfl⟩
            have hdn' : ((getM (pst d l b).done a).map Value.bool).getD (.bool false) = .bool dn := by
              rw [← hdn]; cases getM (pst d l b).done a <;> rfl
            simp only [hdn', Bool.false_eq_true, if_false] at hdone
            have HGET := Lib.hid hget
            have HDN := Lib.hid hdn
            have HXA := Lib.hid hxa
            clear hget hdn hdn' hxa hy hz hxas hla hlx hwn hvn hAA
            have hpst : pst d l (b + 1) = if dn || z == y then pst d l b else { pst d l b with done := putM (pst d l b).done a true, out := (pst d l b).out ++ [(a, (b : Int))] } := by
              rw [HST.out]
              unfold pstep
              rw [HGET.out]
              simp only [HDN.out, HZ.out, HYY.out]
            have HPST := Lib.hid hpst
            clear hpst
            have hmix : Try.prog.follows .mixedOrders = true := by kernel_rfl
            have hEW : E.heap.size ≤ W.heap.size := by omega
            have HSTAY : Hid (∀ k : Nat, (dn || z == y) = true → (∃ b' : Nat, b' ≤ ln ∧ ln - (b + 1) = ln - b' ∧ Value.int .i64 ((b : Int) + 1) = .int .i64 b' ∧ ItW E W.heap.size bl bd (.slice (some ⟨ab, aoff, none⟩) ln c) #[.slice nA nn nc, .string s, .slice gA gn gc, .int .i64 d.dst] (wr.drewN k) (pst d l b') ∧ J (pst d l b').out (wr.drewN k))) := by
              intro k hdz
              refine ⟨b + 1, by omega, rfl, by go_num, ?_, ?_⟩
              · rw [HPST.out, if_pos hdz]
                exact
                  { old := below_drewN HEQ.out k
                    size := Nat.le_trans HIT.out.size HGW.out.size
                    lbox := (HIT.out.lbox.grown HGW.out (by simp)).drewN k
                    dbox := (HIT.out.dbox.grown HGW.out (by simp)).drewN k
                    first := HMF.out
                    done := HMD.out }
              · rw [HPST.out, if_pos hdz]
                exact HJ.out _ _ _ none HJQ.out (grown_drewN (World.grownBy.refl _ _) k) (fun r e => by cases e)
            gi_wp2
            rcases dn with _ | _
            · obtain ⟨zy, hzy⟩ : ∃ zy, (z == y) = zy := ⟨_, rfl⟩
              gi_big_quiet_th_v (fail)
              rw [hzy] at HPST HSTAY
              clear hzy
              rcases zy with _ | _
              · obtain ⟨w3, hrun3, hm3, hg3⟩ := run_update_m (w := wr.drewN nq) (keyEq_int Try.underlying3) Try.underlying72 (HMD.out.same (w' := wr.drewN nq) rfl) a true
                have hjq3 : J (pst d l b).out w3 := HJ.out _ _ _ (some (W.heap.size + 1)) (HJ.out _ _ _ none HJQ.out (grown_drewN (World.grownBy.refl wr none) nq) (fun r e => by cases e)) hg3 (fun r e => by
                  cases e
                  obtain ⟨es, clock, he⟩ := HMD.out.isMap
                  exact ⟨by omega, _, he, rfl⟩)
                obtain ⟨fn, tmps, assign, body, hy, hR⟩ := HY.out (pst d l b).out (a, (b : Int)) w3 hjq3 (by have := pst_len d l b; have := HLN.out; omega)
                simp only [pairV] at hy
                have HM3 := Lib.hid hm3
                have HG3 := Lib.hid hg3
                have HR := Lib.hid hR
                clear hm3 hg3 hR hjq3
                gi_wp2
                refine HR.out.mono ?_
                rintro e W3 (⟨rfl, hJ3, hk3⟩ | ⟨rfl, hJx3⟩)
                · gi_wp2
                  go_roundg (ln - (b + 1))
                  case measure => have := HGK.out; omega
                  case rel =>
                    have hpst : pst d l (b + 1) = { pst d l b with done := putM (pst d l b).done a true, out := (pst d l b).out ++ [(a, (b : Int))] } := by
                      rw [HPST.out]; rfl
                    refine ⟨b + 1, by omega, rfl, by go_num, ?_, ?_⟩
                    · rw [hpst]
                      have hz3 : (wr.drewN nq).heap.size = wr.heap.size := rfl
                      exact
                        { old := ((below_drewN HEQ.out nq).grown HG3.out HEQ.out.size (fun k e => by cases e; omega)).trans (hk3.below hr0 hEw)
                          size := Nat.le_trans HIT.out.size (Nat.le_trans HGW.out.size (Nat.le_trans HG3.out.size hk3.size))
                          lbox := hk3.blk (((HIT.out.lbox.grown HGW.out (by simp)).drewN nq).grown HG3.out (by simp; omega)) hblw hbl0
                          dbox := hk3.blk (((HIT.out.dbox.grown HGW.out (by simp)).drewN nq).grown HG3.out (by simp; omega)) hbdw hbd0
                          first := (HMF.out.grown (w' := w3) (row := some (W.heap.size + 1)) ⟨HG3.out.os, HG3.out.tape, HG3.out.output, HG3.out.size, HG3.out.block⟩ (by simp)).keep hk3 hwW
                          done := HM3.out.keep hk3 (by omega) }
                    · rw [hpst]; exact hJ3
                · gi_wp2
                  refine bodyPost_ret (results_none rfl _ _ _) rfl ?_
                  refine ⟨⟨_, rfl⟩, .inr ⟨_, ?_, hJx3⟩⟩
                  have hpst : pst d l (b + 1) = { pst d l b with done := putM (pst d l b).done a true, out := (pst d l b).out ++ [(a, (b : Int))] } := by
                    rw [HPST.out]; rfl
                  have := pst_pre d l (b + 1) l.length (by have := HLN.out; omega)
                  rw [hpst] at this
                  exact this
              · gi_wp2
                go_roundg (ln - (b + 1))
                case measure => have := HGK.out; omega
                case rel => exact HSTAY.out _ rfl
            · gi_big_quiet_th_v (fail)
              gi_wp2
              go_roundg (ln - (b + 1))
              case measure => have := HGK.out; omega
              case rel => exact HSTAY.out _ rfl
    · gi_wp2
      go_end0
      have hbe : b = l.length := by have := HLN.out; omega
      exact ⟨⟨_, rfl⟩, .inl ⟨_, by rw [hbe]; rfl, HJN.out⟩⟩

end Go.Proofs.Ytejjggchjoifoaa
