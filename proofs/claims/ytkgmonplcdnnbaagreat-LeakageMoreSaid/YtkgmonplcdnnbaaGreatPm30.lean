/- Package leakage: the iterator of determined. -/
import Derived.Test.YtkgmonplcdnnbaaGreatPm29
import Derived.RangeFuncNested
import Derived.RangeFuncBound
import Derived.RangeFuncCalls
import Derived.RangeFuncLeaves
import Derived.Shelf.Abstract
import Derived.Shelf.RegionOpen
import Derived.OwnWalkIn
import Derived.TacticsInMore
import Derived.LoopNIn
import Derived.LoopIn
import Derived.Sort.LoopGhostIn
import Derived.Sort.BigQuietIn
import Derived.Shelf.RegionOpenV
namespace Go.Proofs.YtkgmonplcdnnbaaGreat
open Go.RowKit Go.Shelf
attribute [local go_sem] Oper.semAt_some
structure KpE (r0 : Nat) (W W' : World) : Prop where
 size : W.heap.size ≤ W'.heap.size
 block : ∀ (b : Nat) (cs : Array Value) (t : TypeId) (fz : Nat × Nat), W.heap[b]? = some (Obj.cells cs t fz) → b ≠ r0 → some b ≠ ptOf r0 W → W'.heap[b]? = W.heap[b]?
 pt : ptOf r0 W' = ptOf r0 W ∨ ∃ b, ptOf r0 W' = some b ∧ W.heap.size ≤ b
theorem KpE.refl (r0 : Nat) (W : World) : KpE r0 W W := ⟨Nat.le_refl _, fun _ _ _ _ _ _ _ => rfl, .inl rfl⟩
theorem KpE.trans {r0 : Nat} {A B C : World} (h : KpE r0 A B) (k : KpE r0 B C) : KpE r0 A C :=
 ⟨Nat.le_trans h.size k.size, fun b cs t fz hb hne hp => by
  have h1 := h.block b cs t fz hb hne hp
  refine (k.block b cs t fz (h1.trans hb) hne (fun e => ?_)).trans h1
  rcases h.pt with e2 | ⟨y, e2, hy⟩
  · rw [e2] at e; exact hp e
  ·
   rw [e2] at e
   injection e with e
   have := (Array.getElem?_eq_some_iff.1 hb).1
   omega, by
  rcases k.pt with e | ⟨y, e, hy⟩
  ·
   rcases h.pt with e2 | ⟨y, e2, hy⟩
   · exact .inl (e.trans e2)
   · exact .inr ⟨y, e.trans e2, hy⟩
  · exact .inr ⟨y, e, Nat.le_trans h.size hy⟩⟩
theorem KpE.book {r0 : Nat} (W : World) (l : Nat) (o o' : Obj) (hl : l ≠ r0) (h : W.heap[l]? = some o) (hc : o.isCells = false) : KpE r0 W (W.putObj l o') :=
 ⟨by simp [World.putObj], fun b cs t fz hb _ _ => World.putObj_heap_other (fun e => by
  subst e
  rw [h] at hb
  injection hb with hb
  subst hb
  cases hc), .inl (ptOf_put hl)⟩
theorem KpE.alloc {r0 : Nat} (W : World) (o : Obj) (hr : r0 < W.heap.size) : KpE r0 W (W.alloc o) :=
 ⟨by simp, fun b cs t fz hb _ _ => Below.heap_alloc W o b (Array.getElem?_eq_some_iff.1 hb).1, .inl (ptOf_same (Below.heap_alloc W o r0 hr))⟩
theorem cells_of {w : World} {b o : Nat} {v : Value} (h : w.cell? ⟨b, o, none⟩ = some v) : ∃ cs t fz, w.heap[b]? = some (Obj.cells cs t fz) := by
 unfold World.cell? at h
 revert h
 cases hb : w.heap[b]? with
 | none => simp
 | some x => cases x <;> simp
theorem closL_range {nf : Nat} {ds : List Dep} {l : List Int} {f : Int} (h : f ∈ closL nf ds l) : 0 ≤ f ∧ f < nf := by
 unfold closL at h
 split at h
 · have := listX_mem h; omega
 · simp at h
def fieldV (v : Value) (x : QField) : Value := .agg #[.string x.name, .int .i64 x.type.kind, .int .i64 x.type.lo, .int .i64 x.type.hi, .string x.type.of_, .int .i64 x.type.unit, v, .int .i64 x.w0, .int .i64 x.w1, .int .i64 x.w2, .int .i64 x.w3]
structure Sel (fs : List QField) where
 f : Int
 vA : Option Addr
 vn : Nat
 vc : Nat
 x : QField
 hx : fs[f.toNat]? = some x
def detV {fs : List QField} (p : Sel fs) : Array Value := #[.int .i64 p.f, fieldV (.slice p.vA p.vn p.vc) p.x]
theorem determined_any' (s1 s2 : ByteArray) (i1 i2 : Int) (fA dA A : Option Addr) (nf fc nd dc n c : Nat) (w : World) :
 Calls Tryz.prog 30 #[.agg #[.string s1, .string s2, .int .i64 i1, .int .i64 i2, .slice fA nf fc, .slice dA nd dc], .slice A n c] w fun e w' =>
  e = .returned (.func (.func 39) #[] #[.pointer (some ⟨w.heap.size, 0, none⟩), .pointer (some ⟨w.heap.size + 1, 0, none⟩)]) ∧ w' = (w.alloc (.cells #[.string s1, .string s2, .int .i64 i1, .int .i64 i2, .slice fA nf fc, .slice dA nd dc] 52)).alloc (.cells #[.slice A n c] 30) := by
 have hmf : ∀ (fn : Fn) (first cap : Array Value) (w : World), (Instr.makeFunc fn first cap).run Tryz.prog w = .ok (.func fn first cap) w := fun _ _ _ _ => rfl
 go_enter Tryz.func30, Tryz.ntmps30
 go_wp2_with fail
 go_ret
 exact ⟨rfl, rfl⟩
set_option maxHeartbeats 8000000 in
set_option maxRecDepth 100000 in
theorem det1_in (m r0 bs bf : Nat) (E w : World) (s1 s2 : ByteArray) (i1 i2 : Int) (fA dA A : Option Addr) (nf fc nd dc n c : Nat) (fs : List QField) (ds : List Dep) (l : List Int)
 (hE : Below E.heap.size E w) (hbs : Blk w bs 52 #[.string s1, .string s2, .int .i64 i1, .int .i64 i2, .slice fA nf fc, .slice dA nd dc]) (hbf : Blk w bf 30 #[.slice A n c]) (hrE : E.heap.size ≤ r0) (hrw : r0 < w.heap.size) (hrs : bs ≠ r0) (hp0 : ptOf r0 w = none)
 (hfd : SlR 11 qFieldR E (.slice fA nf fc) fs) (hs : SlR 4 depR E (.slice dA nd dc) ds) (hl : SlR 1 intR E (.slice A n c) l) :
 SeqStopsK Fence.wide m Tryz.prog 39 #[.pointer (some ⟨bs, 0, none⟩), .pointer (some ⟨bf, 0, none⟩)] (detV (fs := fs)) (KpE r0) (fun xs => xs.map (·.f) = closL nf ds l) (fun _ => True) (closL nf ds l).length w := by
 intro lp J Jx W hW hJ hJx hY h0
 have hnf : nf ≤ 9223372036854775807 := by have := hfd.le; omega
 have HLF := Lib.hid hfd.len
 have hEW : Below E.heap.size E W := hE.trans (hW.mono hE.size)
 have kS := hbs.below hW hbs.lt
 have kF := hbf.below hW hbf.lt
 have hpW : ptOf r0 W = none := (ptOf_same (hW.block r0 hrw)).trans hp0
 have hrW : r0 < W.heap.size := Nat.lt_of_lt_of_le hrw hW.size
 have HCL : Hid (Calls Tryz.prog 40 #[.agg #[.string s1, .string s2, .int .i64 i1, .int .i64 i2, .slice fA nf fc, .slice dA nd dc], .slice A n c] W (RetInts (closL nf ds l) (closOk nf ds l) W)) := Lib.hid (Closure_any s1 s2 i1 i2 fA dA nf fc nd dc ds A n c l W hnf (hs.mono depR_mono hEW) (hl.mono intR_mono hEW))
 have q0 := kS.cell 0
 have q1 := kS.cell 1
 have q2 := kS.cell 2
 have q3 := kS.cell 3
 have q4 := kS.cell 4
 have q5 := kS.cell 5
 have g0 := kF.cell 0
 have ls := kS.lt
 have lf := kF.lt
 simp only [List.getElem?_toArray, List.getElem?_cons_zero, List.getElem?_cons_succ] at q0 q1 q2 q3 q4 q5 g0
 have HKS := Lib.hid kS
 have HEW := Lib.hid hEW
 have HFD := Lib.hid hfd
 have HJ := Lib.hid hJ
 have HY := Lib.hid hY
 have HJ0 := Lib.hid h0
 have HPW := Lib.hid hpW
 have hEs : E.heap.size ≤ W.heap.size := hEW.size
 clear hbs hbf hE hW hJ hJx hY h0 kS kF hEW hfd hs hl hpW hp0
 refine callsIn_wide.2 ?_
 go_enter Tryz.func39, Tryz.ntmps39
 go_wp2_with (go_at_call 40; refine HCL.out.mono ?_)
 rintro e Z ⟨v, rfl, hown, hbZ⟩
 obtain ⟨L, hL⟩ : ∃ L, closL nf ds l = L := ⟨_, rfl⟩
 have HL := Lib.hid hL
 rw [hL] at hown
 have hrng : ∀ f ∈ L, 0 ≤ f ∧ f < nf := fun f hf => closL_range (nf := nf) (ds := ds) (l := l) (by rw [hL]; exact hf)
 have HRNG := Lib.hid hrng
 have hvf : ∃ Av c', v = .slice Av L.length c' := by
  rcases hown.2 with ⟨rfl, h0⟩ | ⟨g, cap, cur, rfl, _⟩
  · exact ⟨_, _, by rw [h0]⟩
  · exact ⟨_, _, rfl⟩
 obtain ⟨Av, c', rfl⟩ := hvf
 have HOWN := Lib.hid hown
 have HJZ : Hid (J [] Z) := Lib.hid (HJ.out _ _ _ none HJ0.out ⟨hbZ.os, hbZ.tape, hbZ.output, hbZ.size, fun b hb _ => hbZ.block b hb⟩ (fun r e => by cases e))
 have HKZ := Lib.hid (HKS.out.below hbZ ls)
 have HPZ : Hid (ptOf r0 Z = none) := Lib.hid ((ptOf_same (hbZ.block r0 hrW)).trans HPW.out)
 have HEZ : Hid (Below E.heap.size E Z) := Lib.hid (HEW.out.trans (hbZ.mono hEs))
 have hln : L.length ≤ 9223372036854775807 := by
  rcases hown.2 with ⟨_, h0⟩ | ⟨g, cap, cur, _, _, _, h1, h2, _⟩
  · omega
  · unfold maxLen at h2; omega
 have hZs : W.heap.size ≤ Z.heap.size := hbZ.size
 have HW2 := Lib.hid hL
 clear hown hbZ hrng q0 q1 q2 q3 q4 q5 g0 HCL HW2
 rw [hL] at HY
 go_wp2_with fail
 go_loopg [16] L.length (fun q i wr => ∃ (k : Nat) (pre : List (Sel fs)), k ≤ L.length ∧ q = L.length - k ∧ i = .int .i64 k ∧ pre.map (·.f) = L.take k ∧ J pre wr ∧ Z.heap.size ≤ wr.heap.size ∧ (∀ (b : Nat) (cs : Array Value) (t : TypeId) (fz : Nat × Nat), Z.heap[b]? = some (Obj.cells cs t fz) → b ≠ r0 → wr.heap[b]? = Z.heap[b]?) ∧ (∀ b, ptOf r0 wr = some b → Z.heap.size ≤ b))
 case atStart => exact ⟨0, [], Nat.zero_le _, rfl, rfl, rfl, HJZ.out, Nat.le_refl _, fun _ _ _ _ _ _ => rfl, fun b hb => by rw [HPZ.out] at hb; cases hb⟩
 case round =>
  clear HJZ HPZ
  obtain ⟨k, pre, hk, hq, rfl, hpre, hj, hZw, hsame, hpt⟩ := hrel
  have HQ := Lib.hid hq
  have HPRE := Lib.hid hpre
  have HJW := Lib.hid hj
  have HSAME := Lib.hid hsame
  have HPT := Lib.hid hpt
  clear hq hpre hj hsame hpt
  by_cases hlt : k < L.length
  case neg =>
   have HALL : Hid (pre.map (·.f) = closL nf ds l) := Lib.hid (by rw [HL.out, HPRE.out, List.take_of_length_le (by omega)])
   clear hL
   go_wp2_with fail
   go_end0
   exact ⟨⟨_, rfl⟩, .inl ⟨pre, HALL.out, HJW.out⟩⟩
  obtain ⟨f, hf⟩ : ∃ f, L[k]? = some f := ⟨_, List.getElem?_eq_getElem hlt⟩
  have hfr := HRNG.out f (List.mem_of_getElem? hf)
  obtain ⟨fn0, rfl⟩ : ∃ fn0 : Nat, f = fn0 := ⟨f.toNat, by omega⟩
  obtain ⟨g, cap, hve⟩ := Joins.ownsRow_form HOWN.out (by omega)
  injection hve with hAv _ hc'
  subst hAv
  subst hc'
  have hgr := HOWN.out.lt g rfl
  have hck := HOWN.out.cellAt k (by omega)
  rw [List.getElem?_map, hf] at hck
  have hck : Z.cell? ⟨g, k, none⟩ = some (.int .i64 fn0) := hck
  have hcw : wr.cell? ⟨g, k, none⟩ = some (.int .i64 fn0) := by
   obtain ⟨cs, t, fz, hcs⟩ := cells_of hck
   unfold World.cell? at hck ⊢
   rw [HSAME.out g cs t fz hcs (by omega)]
   exact hck
  have kS : Blk wr bs 52 #[.string s1, .string s2, .int .i64 i1, .int .i64 i2, .slice fA nf fc, .slice dA nd dc] := (HSAME.out bs _ _ _ HKZ.out hrs).trans HKZ.out
  have q4 := kS.cell 4
  have lsw := kS.lt
  simp only [List.getElem?_toArray, List.getElem?_cons_zero, List.getElem?_cons_succ] at q4
  have hfn : fn0 < nf := by omega
  obtain ⟨b, off, x, B1, m1, d1, rfl, hbl, hx, e0, e1, e2, e3, e4, e5, e6, e7, e8, e9, e10, gg1⟩ := qField_at HFD.out hfn
  have hbZ2 : wr.heap[b]? = E.heap[b]? := by
   obtain ⟨cs, t, fz, hcs⟩ := cells_of e0
   have h1 := HEZ.out.block b hbl
   rw [HSAME.out b cs t fz (h1.trans hcs) (by omega), h1]
  have hcell : ∀ o : Nat, wr.cell? ⟨b, o, none⟩ = E.cell? ⟨b, o, none⟩ := fun o => by
   unfold World.cell?
   rw [hbZ2]
  rw [← hcell] at e0 e1 e2 e3 e4 e5 e6 e7 e8 e9 e10
  have hbw : b < wr.heap.size := by have := HEZ.out.size; omega
  have hgw : g < wr.heap.size := by omega
  have hk0 : (0 : Int) ≤ (k : Int) := by omega
  have hk1 : (k : Int) < (L.length : Int) := by omega
  have hf0 : (0 : Int) ≤ (fn0 : Int) := by omega
  have hf1 : (fn0 : Int) < (nf : Int) := by omega
  have hpl : pre.length = k := by
   have := congrArg List.length HPRE.out
   simp at this
   omega
  have HX : Hid (fs[((fn0 : Int)).toNat]? = some x) := Lib.hid (by simpa using hx)
  obtain ⟨fn, tmps, assign, body, hy, hR⟩ := HY.out pre ⟨(fn0 : Int), B1, m1, d1, x, HX.out⟩ wr HJW.out (by omega)
  dsimp only [detV, fieldV] at hy
  have HR := Lib.hid hR
  have HF := Lib.hid hf
  clear kS hcell hbZ2 gg1 hx hR hf hck hgr hfr hL
  go_upto_region 4 with fail
  refine (wpIn_wide (n := m)).1 ?_
  gi_wp2
  refine ⟨(fun h => by cases h), HR.out.mono ?_⟩
  rintro e W' (⟨rfl, hJ', hk'⟩ | ⟨rfl, hJx'⟩)
  ·
   have HJ2 := Lib.hid hJ'
   have HSAME2 : Hid (∀ (b : Nat) (cs : Array Value) (t : TypeId) (fz : Nat × Nat), Z.heap[b]? = some (Obj.cells cs t fz) → b ≠ r0 → W'.heap[b]? = Z.heap[b]?) := Lib.hid (fun b cs t fz hb hne => by
    have h1 := HSAME.out b cs t fz hb hne
    refine (hk'.block b cs t fz (h1.trans hb) hne (fun e => ?_)).trans h1
    have := HPT.out b e.symm
    have := (Array.getElem?_eq_some_iff.1 hb).1
    omega)
   have HPT2 : Hid (∀ b, ptOf r0 W' = some b → Z.heap.size ≤ b) := Lib.hid (fun b hb => by
    rcases hk'.pt with e | ⟨y, e, hy2⟩
    · rw [e] at hb; exact HPT.out b hb
    ·
     rw [e] at hb
     injection hb with hb
     omega)
   have HZW2 : Hid (Z.heap.size ≤ W'.heap.size) := Lib.hid (Nat.le_trans hZw hk'.size)
   have HPRE2 : Hid ((pre ++ [(⟨(fn0 : Int), B1, m1, d1, x, HX.out⟩ : Sel fs)]).map (·.f) = L.take (k + 1)) := Lib.hid (by rw [List.map_append, HPRE.out, take_snoc HF.out]; rfl)
   clear hJ' hk' hy q4 e0 e1 e2 e3 e4 e5 e6 e7 e8 e9 e10 hcw
   gi_wp2
   go_wp2_with fail
   go_roundg (L.length - (k + 1))
   case measure => have := HQ.out; omega
   case rel => exact ⟨k + 1, _, by omega, rfl, by go_num, HPRE2.out, HJ2.out, HZW2.out, HSAME2.out, HPT2.out⟩
  ·
   have HJX := Lib.hid hJx'
   clear hJx' hy q4 e0 e1 e2 e3 e4 e5 e6 e7 e8 e9 e10 hcw
   gi_wp2
   go_wp2_with fail
   refine bodyPost_ret (results_none rfl _ _ _) rfl ?_
   exact ⟨⟨_, rfl⟩, .inr ⟨_, trivial, HJX.out⟩⟩
end Go.Proofs.YtkgmonplcdnnbaaGreat
