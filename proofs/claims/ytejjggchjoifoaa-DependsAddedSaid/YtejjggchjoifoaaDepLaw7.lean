/- The law DependsAdded returns true: the walk. -/
import Derived.Test.YtejjggchjoifoaaDepLaw5
import Derived.Test.YtejjggchjoifoaaDepApp
import Derived.Test.YtejjggchjoifoaaCells
import Derived.Test.YtejjggchjoifoaaRegion
namespace Go.Proofs.Ytejjggchjoifoaa
open Go.RowKit

theorem Try.infoDep : (Try.prog.info? 29).map (fun i => (i.zero, i.size, i.bytes)) = some (some (.agg #[.slice none 0 0, .string ⟨#[]⟩, .slice none 0 0, .int .i64 0]), 4, 72) := by kernel_rfl

/-- What holds while the region that adds the dependency runs: which operations are done, what they left. -/
structure AdI (wb W0 : World) (p r : Nat) (dA : Option Addr) (nd dc : Nat) (ds : List Dep) (d : Dep) (dv : Array Value) (b0 b1 b2 b3 b4 b5 b6 b7 b8 : Bool) (x47 x48 x49 x50 x51 x52 x53 x54 : Value) (W : World) : Prop where
  old : b8 = false → Below W0.heap.size W0 W
  a0 : b3 = false → b0 = true → W.ownsRow W0.heap.size 29 4 x47 0 [] ∧ ∃ g, x47 = .slice (some ⟨g, 0, none⟩) 0 0
  a1 : b1 = true → x48 = .pointer (some ⟨p, 5, none⟩)
  a2 : b2 = true → x49 = .slice dA nd dc
  a3 : b6 = false → b3 = true → ∃ cs, W.ownsRow W0.heap.size 29 4 x50 nd cs ∧ CellsR 4 depR wb cs ds
  a4 : b4 = true → x51 = .agg dv
  a5 : b6 = false → b5 = true → ∃ g, x52 = .slice (some ⟨g, 0, none⟩) 1 1 ∧ Blk W g 29 dv ∧ (b3 = false → b0 = true → x47.ownBlock ≠ some g)
  a6 : b8 = false → b6 = true → ∃ cs, W.ownsRow W0.heap.size 29 4 x53 (nd + 1) cs ∧ CellsR 4 depR wb cs (ds ++ [d])
  a7 : b7 = true → x54 = .pointer (some ⟨r, 5, none⟩)
  a8 : b8 = true → ∃ W1 cs, Below W0.heap.size W0 W1 ∧ W1.ownsRow W0.heap.size 29 4 x53 (nd + 1) cs ∧ CellsR 4 depR wb cs (ds ++ [d]) ∧ W = W1.setCell ⟨r, 5, none⟩ x53
  o3 : b3 = true → b0 = true ∧ b2 = true
  o6 : b6 = true → b3 = true ∧ b5 = true
  o7 : b7 = true → b0 = true ∧ b1 = true ∧ b2 = true ∧ b3 = true ∧ b4 = true ∧ b5 = true ∧ b6 = true
  o8 : b8 = true → b7 = true

theorem own_below {w w' : World} {base : Nat} {e : TypeId} {size : Nat} {v : Value} {n : Nat} {xs : List Value} (h : w.ownsRow base e size v n xs) (hb : Below w.heap.size w w') : w'.ownsRow base e size v n xs :=
  h.kept (row := none) ⟨hb.os, hb.tape, hb.output, hb.size, fun k hk _ => hb.block k hk⟩ (by cases v.ownBlock <;> simp)

section
variable {wb W0 : World} {p r : Nat} {dA : Option Addr} {nd dc : Nat} {ds : List Dep} {d : Dep} {dv : Array Value} {b0 b1 b2 b3 b4 b5 b6 b7 b8 : Bool} {x47 x48 x49 x50 x51 x52 x53 x54 : Value} {W : World}

theorem AdI.grow (h : AdI wb W0 p r dA nd dc ds d dv b0 b1 b2 b3 b4 b5 b6 b7 b8 x47 x48 x49 x50 x51 x52 x53 x54 W) (h8 : b8 = false) {W' : World} (hb : Below W.heap.size W W') : AdI wb W0 p r dA nd dc ds d dv b0 b1 b2 b3 b4 b5 b6 b7 b8 x47 x48 x49 x50 x51 x52 x53 x54 W' where
  old := fun _ => (h.old h8).trans (hb.mono (h.old h8).size)
  a0 := fun e1 e2 => ⟨own_below (h.a0 e1 e2).1 hb, (h.a0 e1 e2).2⟩
  a1 := h.a1
  a2 := h.a2
  a3 := fun e1 e2 => by obtain ⟨cs, k1, k2⟩ := h.a3 e1 e2; exact ⟨cs, own_below k1 hb, k2⟩
  a4 := h.a4
  a5 := fun e1 e2 => by obtain ⟨g, k1, k2, k3⟩ := h.a5 e1 e2; exact ⟨g, k1, k2.below hb k2.lt, k3⟩
  a6 := fun e1 e2 => by obtain ⟨cs, k1, k2⟩ := h.a6 e1 e2; exact ⟨cs, own_below k1 hb, k2⟩
  a7 := h.a7
  a8 := fun e => absurd (e.symm.trans h8) (by simp)
  o3 := h.o3
  o6 := h.o6
  o7 := h.o7
  o8 := h.o8

theorem AdI.no8 (h : AdI wb W0 p r dA nd dc ds d dv b0 b1 b2 b3 b4 b5 b6 b7 b8 x47 x48 x49 x50 x51 x52 x53 x54 W) (hn : b0 = false ∨ b1 = false ∨ b2 = false ∨ b3 = false ∨ b4 = false ∨ b5 = false ∨ b6 = false) : b7 = false ∧ b8 = false := by
  have h7 : b7 = false := by
    cases e : b7
    · rfl
    · have := h.o7 e
      simp_all
  refine ⟨h7, ?_⟩
  cases e : b8
  · rfl
  · have := h.o8 e
    simp_all
theorem AdI.no3 (h : AdI wb W0 p r dA nd dc ds d dv b0 b1 b2 b3 b4 b5 b6 b7 b8 x47 x48 x49 x50 x51 x52 x53 x54 W) (hn : b0 = false ∨ b2 = false) : b3 = false ∧ b6 = false := by
  have h3 : b3 = false := by
    cases e : b3
    · rfl
    · have := h.o3 e
      simp_all
  refine ⟨h3, ?_⟩
  cases e : b6
  · rfl
  · have := h.o6 e
    simp_all
theorem AdI.no6 (h : AdI wb W0 p r dA nd dc ds d dv b0 b1 b2 b3 b4 b5 b6 b7 b8 x47 x48 x49 x50 x51 x52 x53 x54 W) (hn : b3 = false ∨ b5 = false) : b6 = false := by
  cases e : b6
  · rfl
  · have := h.o6 e
    simp_all
end

theorem run_build0 (W : World) : (Instr.buildSlice 23 0 #[]).run Try.prog W = .ok (.slice (some ⟨W.heap.size, 0, none⟩) 0 0) (W.alloc (.cells #[] 29)) := by
  go_simp
theorem run_build1 (W : World) (a : Option Addr) (b c : Nat) (s : ByteArray) (d : Option Addr) (e f : Nat) (k : Int) : (Instr.buildSlice 23 1 #[(0, .agg #[.slice a b c, .string s, .slice d e f, .int .i64 k])]).run Try.prog W = .ok (.slice (some ⟨W.heap.size, 0, none⟩) 1 1) (W.alloc (.cells #[.slice a b c, .string s, .slice d e f, .int .i64 k] 29)) := by
  go_simp
theorem run_load5 (W : World) (p : Nat) (a : Option Addr) (b c : Nat) (h : W.cell? ⟨p, 5, none⟩ = some (.slice a b c)) : (Instr.loadAt 23 (.pointer (some ⟨p, 5, none⟩))).run Try.prog W = .ok (.slice a b c) W := by
  go_simp
theorem run_load4 (W : World) (p : Nat) (a : Option Addr) (b c : Nat) (s : ByteArray) (d : Option Addr) (e f : Nat) (k : Int) (h0 : W.cell? ⟨p, 0, none⟩ = some (.slice a b c)) (h1 : W.cell? ⟨p, 1, none⟩ = some (.string s)) (h2 : W.cell? ⟨p, 2, none⟩ = some (.slice d e f)) (h3 : W.cell? ⟨p, 3, none⟩ = some (.int .i64 k)) :
    (Instr.loadAt 29 (.pointer (some ⟨p, 0, none⟩))).run Try.prog W = .ok (.agg #[.slice a b c, .string s, .slice d e f, .int .i64 k]) W := by
  go_simp
theorem run_field5 (W : World) (p : Nat) : (Instr.fieldAt 25 (.pointer (some ⟨p, 0, none⟩)) 5).run Try.prog W = .ok (.pointer (some ⟨p, 5, none⟩)) W := by
  go_simp
theorem run_store5 (W : World) (p : Nat) (v : Value) (a : Option Addr) (b c : Nat) (h : W.cell? ⟨p, 5, none⟩ = some v) (hf : W.frozen? ⟨p, 5, none⟩ = false) : (Instr.storeAt 23 (.pointer (some ⟨p, 5, none⟩)) (.slice a b c)).run Try.prog W = .ok () (W.setCell ⟨p, 5, none⟩ (.slice a b c)) := by
  go_simp

theorem wp_build {P : Program} {o : Oper} {a : Act} {w w' : World} {K : Act → World → Prop} {Q : Exit → Act → World → Prop} {v : Value} (t : TypeId) (n : Nat) (parts : Array (Nat × Operand)) (vs : Array (Nat × Value)) (ho : o.op = .buildSlice t n parts) (hp : parts.map (fun (i, x) => (i, a.eval x)) = vs) (h : (Instr.buildSlice t n vs).run P w = .ok v w') (hk : K (a.put o.dst v) w') : o.wp P a w K Q := by
  unfold Oper.wp execOp
  simp only [ho, hp, Sem.run_bind, Sem.run_pure, h, Result.andThen_ok]
  exact hk

theorem depR_one : One depR := by
  rintro w cs x ⟨nA, nn, nc, s, A, n, c, rfl, _⟩ u hu
  simp only [List.mem_cons, List.not_mem_nil, or_false] at hu
  rcases hu with rfl | rfl | rfl | rfl <;> rfl

theorem dep1_fix {W W0 : World} {g : Nat} {nA B : Option Addr} {nn nc m k : Nat} {s : ByteArray} {d : Dep} (h : Blk W g 29 #[.slice nA nn nc, .string s, .slice B m k, .int .i64 d.dst]) (hd : SlR 1 intR W0 (.slice B m k) d.src) (h1 : -9223372036854775808 ≤ d.dst) (h2 : d.dst ≤ 9223372036854775807) : SlR 4 (fun _ => depR W0) W (.slice (some ⟨g, 0, none⟩) 1 1) [d] := by
  refine ⟨some ⟨g, 0, none⟩, 1, rfl, Nat.le_refl _, by decide, fun i x hi => ?_⟩
  rcases i with _ | i
  · simp only [List.getElem?_cons_zero, Option.some.injEq] at hi
    subst hi
    refine ⟨g, 0, _, rfl, h.lt, ?_, ?_, ⟨nA, nn, nc, s, B, m, k, rfl, hd, h1, h2⟩⟩
    · rfl
    · intro j u hu
      rw [h.cell]
      rcases j with _ | _ | _ | _ | j <;> simp at hu ⊢ <;> exact hu
  · simp at hi

set_option maxHeartbeats 4000000 in
set_option maxRecDepth 100000 in
theorem added_law (s1 s2 : ByteArray) (i1 i2 : Int) (fA dA : Option Addr) (nf fc nd dc : Nat) (ds : List Dep) (nA B : Option Addr) (nn nc m k : Nat) (s : ByteArray) (d : Dep) (A : Option Addr) (n c : Nat) (l : List Int) (w : World)
    (hnf : nf ≤ 9223372036854775807) (hs : SlR 4 depR w (.slice dA nd dc) ds) (hd : SlR 1 intR w (.slice B m k) d.src) (hl : SlR 1 intR w (.slice A n c) l) (hd1 : -9223372036854775808 ≤ d.dst) (hd2 : d.dst ≤ 9223372036854775807) :
    Calls Try.prog 9 #[.agg #[.string s1, .string s2, .int .i64 i1, .int .i64 i2, .slice fA nf fc, .slice dA nd dc], .agg #[.slice nA nn nc, .string s, .slice B m k, .int .i64 d.dst], .slice A n c] w (Ret (.bool true) w) := by
  have hm2 : m ≤ 9223372036854775807 := by have := hd.le; omega
  have hn2 : n ≤ 9223372036854775807 := by have := hl.le; omega
  have hnd : nd ≤ 9223372036854775807 := by have := hs.le; omega
  have HS := Lib.hid hs
  have HL := Lib.hid hl
  have HNN := Lib.hid hs.len
  have HD := Lib.hid hd
  clear hs hd hl
  go_enter Try.func9, Try.ntmps9
  go_wp2_with fail
  refine (sane_any _).mono ?_
  rintro e w3 ⟨rfl, hb3⟩
  have hsp : SqW w w.heap.size (w.heap.size + 1) #[.string s1, .string s2, .int .i64 i1, .int .i64 i2, .slice fA nf fc, .slice dA nd dc] #[.slice nA nn nc, .string s, .slice B m k, .int .i64 d.dst] w3 :=
    (SqW.mk (((Below.refl _ _).alloc (Nat.le_refl _) _).alloc (by simp) _) ((Blk.new _ _ _).alloc _) (Blk.new1 _ _ _ _)).below hb3
  clear hb3
  obtain ⟨p, hp⟩ : ∃ p, p = w.heap.size := ⟨_, rfl⟩
  obtain ⟨q, hq'⟩ : ∃ q, q = w.heap.size + 1 := ⟨_, rfl⟩
  rw [← hq', ← hp] at hsp ⊢
  clear hp hq'
  obtain ⟨q0, q1, q2, q3, q4, q5, c0, c1, c2, c3, lp, lq⟩ := hsp.ten
  have H3 := Lib.hid hsp
  clear hsp
  go_wp2_with fail
  refine (few_any s1 s2 i1 i2 fA dA nf fc nd dc ds _ hnf (HS.out.mono depR_mono H3.out.old)).mono ?_
  rintro e w4 ⟨rfl, hb4⟩
  have hsp := H3.out.below hb4
  clear q0 q1 q2 q3 q4 q5 c0 c1 c2 c3 lp lq H3
  obtain ⟨q0, q1, q2, q3, q4, q5, c0, c1, c2, c3, lp, lq⟩ := hsp.ten
  have H4 := Lib.hid hsp
  clear hsp hb4
  obtain ⟨fb, hfb⟩ : ∃ fb, fewB nf ds = fb := ⟨_, rfl⟩
  rw [hfb]
  clear hfb
  cases fb
  · go_wp2
    go_ret
    exact ⟨rfl, H4.out.old⟩
  by_cases h2 : 30 < m
  · go_wp2
    go_ret
    exact ⟨rfl, H4.out.old⟩
  by_cases h3 : 30 < n
  · go_wp2
    go_ret
    exact ⟨rfl, H4.out.old⟩
  by_cases h4 : 12 ≤ nd
  · go_wp2
    go_ret
    exact ⟨rfl, H4.out.old⟩
  have t31 : decide ((30 : Int) < (n : Int)) = false := by simp; omega
  have t32 : decide ((12 : Int) ≤ (nd : Int)) = false := by simp; omega
  have t30 : decide ((30 : Int) < (m : Int)) = false := by simp; omega
  go_wp2_with fail
  refine (implied_any s1 s2 i1 i2 fA dA nf fc nd dc ds nA B nn nc m k s d _ hnf (HS.out.mono depR_mono H4.out.old) (HD.out.mono intR_mono H4.out.old)).mono ?_
  rintro e w5 ⟨rfl, hb5⟩
  have hsp := H4.out.below hb5
  clear q0 q1 q2 q3 q4 q5 c0 c1 c2 c3 lp lq H4
  obtain ⟨q0, q1, q2, q3, q4, q5, c0, c1, c2, c3, lp, lq⟩ := hsp.ten
  have H5 := Lib.hid hsp
  clear hsp hb5
  obtain ⟨ok2, ho2⟩ : ∃ b, (checkB nf ds && validB nf d) = b := ⟨_, rfl⟩
  rw [ho2]
  cases ok2
  · clear ho2
    simp only [eno, Bool.false_and, Bool.false_eq_true, if_false]
    go_wp2
    go_ret
    exact ⟨rfl, H5.out.old⟩
  rw [Bool.and_eq_true] at ho2
  have HCK := Lib.hid ho2.1
  have HVA := Lib.hid ho2.2
  clear ho2
  simp only [eno, if_true, Bool.true_and]
  obtain ⟨im, him⟩ : ∃ b, impB ds d = b := ⟨_, rfl⟩
  rw [him]
  have HIM := Lib.hid him
  clear him
  go_upto_region 9 with fail
  clear q0 q1 q2 q3 q4 q5 c0 c1 c2 c3 lp lq
  have hblk : Blk (w5.alloc (.cells #[.string s1, .string s2, .int .i64 i1, .int .i64 i2, .slice fA nf fc, .slice dA nd dc] 25)) w5.heap.size 25 #[.string s1, .string s2, .int .i64 i1, .int .i64 i2, .slice fA nf fc, .slice dA nd dc] := Blk.new _ _ _
  have hbw : Below w5.heap.size w5 (w5.alloc (.cells #[.string s1, .string s2, .int .i64 i1, .int .i64 i2, .slice fA nf fc, .slice dA nd dc] 25)) := (Below.refl _ _).alloc (Nat.le_refl _) _
  generalize (w5.alloc (.cells #[.string s1, .string s2, .int .i64 i1, .int .i64 i2, .slice fA nf fc, .slice dA nd dc] 25)) = W0 at hblk hbw ⊢
  obtain ⟨r, hr⟩ : ∃ r, r = w5.heap.size := ⟨_, rfl⟩
  have H6 := Lib.hid (H5.out.below hbw)
  have hrw : r < W0.heap.size := by rw [hr]; exact hblk.lt
  rw [← hr] at hblk ⊢
  have HR := Lib.hid hblk
  have hwr : w.heap.size ≤ r := by rw [hr]; exact H5.out.old.size
  have hpr : p ≠ r := fun e => by have := H5.out.bs.lt; omega
  have hqr : q ≠ r := fun e => by have := H5.out.bd.lt; omega
  clear hblk hbw hr H5
  obtain ⟨i0, hi, hz0, hz1, hz2⟩ := info_parts Try.infoDep
  have hii := hi
  clear hi
  have HQ := H6
  clear H6
  go_cut [9] (fun x9 wx => x9 = .pointer (some ⟨r, 0, none⟩) ∧ ∃ vA vc, SqW w p q #[.string s1, .string s2, .int .i64 i1, .int .i64 i2, .slice fA nf fc, .slice dA nd dc] #[.slice nA nn nc, .string s, .slice B m k, .int .i64 d.dst] wx ∧ Blk wx r 25 #[.string s1, .string s2, .int .i64 i1, .int .i64 i2, .slice fA nf fc, .slice vA (nd + 1) vc] ∧ SlR 4 depR wx (.slice vA (nd + 1) vc) (ds ++ [d]))
  case first =>
    refine wp_region_inv (by kernel_rfl) (fun L a W => ∃ b0 b1 b2 b3 b4 b5 b6 b7 b8 x47 x48 x49 x50 x51 x52 x53 x54, L = #[b0, b1, b2, b3, b4, b5, b6, b7, b8] ∧ a = { tmps := #[.agg #[.string s1, .string s2, .int .i64 i1, .int .i64 i2, .slice fA nf fc, .slice dA nd dc], .agg #[.slice nA nn nc, .string s, .slice B m k, .int .i64 d.dst], .slice A n c, .pointer (some ⟨p, 0, none⟩), .pointer (some ⟨q, 0, none⟩), undef, .bool false, .bool im, .int .i64 0, .pointer (some ⟨r, 0, none⟩), undef, undef, undef, undef, undef, undef, .bool true, .bool false, .agg #[.string s1, .string s2, .int .i64 i1, .int .i64 i2, .slice fA nf fc, .slice dA nd dc], .bool true, .bool false, .bool false, .pointer (some ⟨q, 2, none⟩), .slice B m k, .int .i64 m, .bool false, .bool false, .bool false, .slice A n c, .int .i64 n, .bool false, .bool false, .bool false, .pointer (some ⟨p, 5, none⟩), .slice dA nd dc, .int .i64 nd, .bool false, .bool false, .tuple #[.bool im, .int .i64 0], .agg #[.string s1, .string s2, .int .i64 i1, .int .i64 i2, .slice fA nf fc, .slice dA nd dc], .agg #[.slice nA nn nc, .string s, .slice B m k, .int .i64 d.dst], .tuple #[.bool im, .int .i64 0], .bool im, .int .i64 0, .int .i64 0, .bool false, .agg #[.string s1, .string s2, .int .i64 i1, .int .i64 i2, .slice fA nf fc, .slice dA nd dc], x47, x48, x49, x50, x51, x52, x53, x54, undef, undef, undef, undef, undef, undef, undef, undef, undef, undef, undef, undef, undef, undef, undef, undef, undef, undef, undef, undef, undef, undef, undef, undef, undef, undef, undef, undef, undef, undef, undef, undef, undef, undef, undef, undef, undef, undef, undef, undef, undef], defers := [] } ∧ AdI w W0 p r dA nd dc ds d #[.slice nA nn nc, .string s, .slice B m k, .int .i64 d.dst] b0 b1 b2 b3 b4 b5 b6 b7 b8 x47 x48 x49 x50 x51 x52 x53 x54 W) ?start ?step ?done
    case start => exact ⟨false, false, false, false, false, false, false, false, false, undef, undef, undef, undef, undef, undef, undef, undef, rfl, rfl, ⟨fun _ => (Below.refl _ _).drew, by simp, by simp, by simp, by simp, by simp, by simp, by simp, by simp, by simp, by simp, by simp, by simp, by simp⟩⟩
    case step =>
      rintro L a W i ⟨b0, b1, b2, b3, b4, b5, b6, b7, b8, x47, x48, x49, x50, x51, x52, x53, x54, rfl, rfl, hI⟩ hi
      unfold Region.ready at hi
      simp only [List.mem_filter, List.mem_range] at hi
      obtain ⟨hlt, hcond⟩ := hi
      have HI := Lib.hid hI
      clear hI
      rcases i with _ | _ | _ | _ | _ | _ | _ | _ | _ | i
      · simp [Region.binds] at hcond
        have H78 := Lib.hid (HI.out.no8 (.inl hcond))
        have H36 := Lib.hid (HI.out.no3 (.inl hcond))
        clear hlt hcond
        refine wpOp_of rfl rfl ?_
        refine wp_build 23 0 #[] #[] rfl (by simp only [List.map_toArray, List.map_nil]) (run_build0 W) ?_
        refine ⟨true, b1, b2, b3, b4, b5, b6, b7, b8, _, x48, x49, x50, x51, x52, x53, x54, rfl, rfl, ?_⟩
        have hb := (HI.out.old H78.out.2)
        exact { HI.out.grow H78.out.2 ((Below.refl _ _).alloc (Nat.le_refl _) _) with
          a0 := fun _ _ => ⟨World.ownsRow_lit W #[] 0 hb.size (Nat.zero_le _) rfl, _, rfl⟩
          a5 := fun e1 e2 => by
            obtain ⟨g, k1, k2, k3⟩ := HI.out.a5 e1 e2
            refine ⟨g, k1, k2.alloc _, fun _ _ e => ?_⟩
            have := k2.lt
            simp [Value.ownBlock] at e
            omega
          o3 := fun e => absurd (e.symm.trans H36.out.1) (by simp)
          o7 := fun e => absurd (e.symm.trans H78.out.1) (by simp) }
      · simp [Region.binds] at hcond
        have H78 := Lib.hid (HI.out.no8 (.inr (.inl hcond)))
        clear hlt hcond
        refine wpOp_of rfl rfl ?_
        refine wp_v (Instr.fieldAt 25 (.pointer (some ⟨p, 0, none⟩)) 5) rfl (run_field5 W p) ?_
        refine ⟨b0, true, b2, b3, b4, b5, b6, b7, b8, x47, _, x49, x50, x51, x52, x53, x54, rfl, rfl, ?_⟩
        exact { HI.out with
          a1 := fun _ => rfl
          o7 := fun e => absurd (e.symm.trans H78.out.1) (by simp) }
      · simp [Region.binds] at hcond
        obtain ⟨c2, c1⟩ := hcond
        have H78 := Lib.hid (HI.out.no8 (.inr (.inr (.inl c2))))
        have H36 := Lib.hid (HI.out.no3 (.inr c2))
        obtain rfl := HI.out.a1 c1
        have hq5 := (HQ.out.below (HI.out.old H78.out.2)).ten.2.2.2.2.2.1
        clear hlt c1 c2
        refine wpOp_of rfl rfl ?_
        refine wp_v (Instr.loadAt 23 (.pointer (some ⟨p, 5, none⟩))) rfl (run_load5 W p _ _ _ hq5) ?_
        refine ⟨b0, b1, true, b3, b4, b5, b6, b7, b8, x47, _, _, x50, x51, x52, x53, x54, rfl, rfl, ?_⟩
        exact { HI.out with
          a2 := fun _ => rfl
          o3 := fun e => absurd (e.symm.trans H36.out.1) (by simp)
          o7 := fun e => absurd (e.symm.trans H78.out.1) (by simp) }
      · simp [Region.binds] at hcond
        obtain ⟨c3, c0, c2⟩ := hcond
        have H78 := Lib.hid (HI.out.no8 (.inr (.inr (.inr (.inl c3)))))
        have H6 := Lib.hid (HI.out.no6 (.inl c3))
        obtain ⟨ho, g, rfl⟩ := HI.out.a0 c3 c0
        obtain rfl := HI.out.a2 c2
        have HC := Lib.hid (And.intro c3 (And.intro c0 c2))
        clear hlt c0 c2 c3
        refine wpOp_of rfl rfl ?_
        refine wp_append_row W (.tmp 47) (.tmp 49) 23 29 rfl i0 _ 72 Try.underlying23 hii hz0 hz1 hz2 rfl (by decide) (R := fun _ => depR w) (fun _ => depR_one w) W0.heap.size _ 0 [] rfl ho dA nd dc ds rfl (HS.out.fix (HQ.out.below (HI.out.old H78.out.2)).old) (by unfold maxLen; omega) (by omega) (HI.out.old H78.out.2).size ?_
        intro v' W' cs hcs hown' hgr hat
        refine ⟨b0, b1, b2, true, b4, b5, b6, b7, b8, _, x48, _, v', x51, x52, x53, x54, rfl, rfl, ?_⟩
        have hgb : ∀ k, (Value.slice (some ⟨g, 0, none⟩) 0 0).ownBlock = some k → W0.heap.size ≤ k := fun k e => (ho.lt k e).1
        have hold := (HI.out.old H78.out.2).grown hgr (HI.out.old H78.out.2).size hgb
        exact { HI.out with
          old := fun _ => hold
          a0 := fun e => absurd e (by simp)
          a3 := fun _ _ => ⟨cs, by simpa using hown', hcs⟩
          a5 := fun e1 e2 => by
            obtain ⟨g', k1, k2, k3⟩ := HI.out.a5 e1 e2
            exact ⟨g', k1, k2.grown hgr (fun e => k3 HC.out.1 HC.out.2.1 e.symm), fun e => absurd e (by simp)⟩
          a6 := fun _ e => absurd (e.symm.trans H6.out) (by simp)
          a8 := fun e => absurd (e.symm.trans H78.out.2) (by simp)
          o3 := fun _ => ⟨HC.out.2.1, HC.out.2.2⟩
          o6 := fun e => absurd (e.symm.trans H6.out) (by simp)
          o7 := fun e => absurd (e.symm.trans H78.out.1) (by simp) }
      · simp [Region.binds] at hcond
        have H78 := Lib.hid (HI.out.no8 (.inr (.inr (.inr (.inr (.inl hcond))))))
        obtain ⟨_, _, _, _, _, _, c0, c1, c2, c3, _, lq⟩ := (HQ.out.below (HI.out.old H78.out.2)).ten
        clear hlt hcond
        refine wpOp_of rfl rfl ?_
        refine wp_v (Instr.loadAt 29 (.pointer (some ⟨q, 0, none⟩))) rfl (run_load4 W q _ _ _ _ _ _ _ _ c0 c1 c2 c3) ?_
        refine ⟨b0, b1, b2, b3, true, b5, b6, b7, b8, x47, x48, x49, x50, _, x52, x53, x54, rfl, rfl, ?_⟩
        exact { HI.out with
          a4 := fun _ => rfl
          o7 := fun e => absurd (e.symm.trans H78.out.1) (by simp) }
      · simp [Region.binds] at hcond
        obtain ⟨c5, c4⟩ := hcond
        have H78 := Lib.hid (HI.out.no8 (.inr (.inr (.inr (.inr (.inr (.inl c5)))))))
        have H6 := Lib.hid (HI.out.no6 (.inr c5))
        obtain rfl := HI.out.a4 c4
        clear hlt c4 c5
        refine wpOp_of rfl rfl ?_
        refine wp_build 23 1 #[(0, .tmp 51)] #[(0, .agg #[.slice nA nn nc, .string s, .slice B m k, .int .i64 d.dst])] rfl (by simp only [List.map_toArray, List.map_cons, List.map_nil]; rfl) (run_build1 W _ _ _ _ _ _ _ _) ?_
        refine ⟨b0, b1, b2, b3, b4, true, b6, b7, b8, x47, x48, x49, x50, _, _, x53, x54, rfl, rfl, ?_⟩
        exact { HI.out.grow H78.out.2 ((Below.refl _ _).alloc (Nat.le_refl _) _) with
          a5 := fun _ _ => ⟨_, rfl, Blk.new _ _ _, fun e1 e2 e => by
            have := (HI.out.a0 e1 e2).1.lt _ e
            omega⟩
          o6 := fun e => absurd (e.symm.trans H6.out) (by simp)
          o7 := fun e => absurd (e.symm.trans H78.out.1) (by simp) }
      · simp [Region.binds] at hcond
        obtain ⟨c6, c3, c5, _⟩ := hcond
        have H78 := Lib.hid (HI.out.no8 (.inr (.inr (.inr (.inr (.inr (.inr c6)))))))
        obtain ⟨cs, ho, hcs⟩ := HI.out.a3 c6 c3
        obtain ⟨g, rfl, hg, _⟩ := HI.out.a5 c6 c5
        have HC := Lib.hid (And.intro c3 c5)
        have hold := HI.out.old H78.out.2
        clear hlt c3 c5 c6
        refine wpOp_of rfl rfl ?_
        refine wp_append_row W (.tmp 50) (.tmp 52) 23 29 rfl i0 _ 72 Try.underlying23 hii hz0 hz1 hz2 rfl (by decide) (R := fun _ => depR w) (fun _ => depR_one w) W0.heap.size _ nd cs rfl ho (some ⟨g, 0, none⟩) 1 1 [d] rfl (dep1_fix hg HD.out hd1 hd2) (by unfold maxLen; omega) (by omega) hold.size ?_
        intro v' W' cs' hcs' hown' hgr hat
        refine ⟨b0, b1, b2, b3, b4, b5, true, b7, b8, x47, x48, x49, x50, x51, _, v', x54, rfl, rfl, ?_⟩
        have hgb : ∀ k, x50.ownBlock = some k → W0.heap.size ≤ k := fun k e => (ho.lt k e).1
        have hold' := hold.grown hgr hold.size hgb
        exact { HI.out with
          old := fun _ => hold'
          a0 := fun e => absurd (e.symm.trans HC.out.1) (by simp)
          a3 := fun e => absurd e (by simp)
          a5 := fun e => absurd e (by simp)
          a6 := fun _ _ => ⟨_, hown', hcs.append hcs'⟩
          a8 := fun e => absurd (e.symm.trans H78.out.2) (by simp)
          o6 := fun _ => HC.out
          o7 := fun e => absurd (e.symm.trans H78.out.1) (by simp) }
      · simp [Region.binds] at hcond
        obtain ⟨c7, k0, k1, k2, k3, k4, k5, k6⟩ := hcond
        have h8 : b8 = false := by
          cases e : b8
          · rfl
          · have := HI.out.o8 e
            rw [c7] at this
            cases this
        have HC := Lib.hid (And.intro k0 (And.intro k1 (And.intro k2 (And.intro k3 (And.intro k4 (And.intro k5 k6))))))
        have H8 := Lib.hid h8
        clear hlt c7 k0 k1 k2 k3 k4 k5 k6 h8
        refine wpOp_of rfl rfl ?_
        refine wp_v (Instr.fieldAt 25 (.pointer (some ⟨r, 0, none⟩)) 5) rfl (run_field5 W r) ?_
        refine ⟨b0, b1, b2, b3, b4, b5, b6, true, b8, x47, x48, x49, x50, x51, x52, x53, _, rfl, rfl, ?_⟩
        exact { HI.out with
          a7 := fun _ => rfl
          o7 := fun _ => HC.out
          o8 := fun e => absurd (e.symm.trans H8.out) (by simp) }
      · simp [Region.binds] at hcond
        have HCC := Lib.hid hcond
        obtain ⟨h8, h7, h6, _⟩ := hcond
        obtain rfl := HI.out.a7 h7
        obtain ⟨cs, ho, hcs⟩ := HI.out.a6 h8 h6
        obtain ⟨vA, vn, vc, rfl⟩ := own_form ho
        have hold := HI.out.old h8
        have hbr := HR.out.below hold HR.out.lt
        have HH7 := Lib.hid h7
        clear hlt HCC h7 h6
        refine wpOp_of rfl rfl ?_
        refine wp_u (Instr.storeAt 23 (.pointer (some ⟨r, 5, none⟩)) (.slice vA vn vc)) rfl (run_store5 W r _ _ _ _ (hbr.cell 5) (hbr.frozen 5)) ?_
        refine ⟨b0, b1, b2, b3, b4, b5, b6, b7, true, x47, x48, x49, x50, x51, x52, _, _, rfl, rfl, ?_⟩
        exact
          { old := fun e => absurd e (by simp)
            a0 := fun e1 => by have := (HI.out.o7 HH7.out).2.2.2.1; rw [this] at e1; cases e1
            a1 := HI.out.a1
            a2 := HI.out.a2
            a3 := fun e1 => by have := (HI.out.o7 HH7.out).2.2.2.2.2.2; rw [this] at e1; cases e1
            a4 := HI.out.a4
            a5 := fun e1 => by have := (HI.out.o7 HH7.out).2.2.2.2.2.2; rw [this] at e1; cases e1
            a6 := fun e => absurd e (by simp)
            a7 := HI.out.a7
            a8 := fun _ => ⟨W, cs, hold, ho, hcs, rfl⟩
            o3 := HI.out.o3
            o6 := HI.out.o6
            o7 := HI.out.o7
            o8 := fun _ => HH7.out }
      · exfalso; simp at hlt; omega
    case done =>
      rintro L a W ⟨b0, b1, b2, b3, b4, b5, b6, b7, b8, x47, x48, x49, x50, x51, x52, x53, x54, rfl, rfl, hI⟩ hr
      rw [Region.ready, List.filter_eq_nil_iff] at hr
      have h0 := hr 0 (by simp)
      have h1 := hr 1 (by simp)
      have h2 := hr 2 (by simp)
      have h3 := hr 3 (by simp)
      have h4 := hr 4 (by simp)
      have h5 := hr 5 (by simp)
      have h6 := hr 6 (by simp)
      have h7 := hr 7 (by simp)
      have h8 := hr 8 (by simp)
      clear hr
      simp [Region.binds] at h0 h1 h2 h3 h4 h5 h6 h7 h8
      have t8 : b8 = true := by
        clear hI
        subst h0 h1 h4
        simp at h2
        subst h2
        simp at h3
        subst h3
        simp at h5
        subst h5
        simp at h6
        subst h6
        simp at h7
        subst h7
        simpa using h8
      clear h0 h1 h2 h3 h4 h5 h6 h7 h8
      obtain ⟨W1, cs, hb1, ho, hcs, rfl⟩ := hI.a8 t8
      obtain ⟨vA, vn, vc, rfl⟩ := own_form ho
      have hq1 := HQ.out.below hb1
      have hr1 := HR.out.below hb1 HR.out.lt
      have hne : (Value.slice vA vn vc).ownBlock ≠ some r := fun e => by have := ho.lt _ e; omega
      have hsq : SqW w p q #[.string s1, .string s2, .int .i64 i1, .int .i64 i2, .slice fA nf fc, .slice dA nd dc] #[.slice nA nn nc, .string s, .slice B m k, .int .i64 d.dst] (W1.setCell ⟨r, 5, none⟩ (.slice vA vn vc)) :=
        ⟨hq1.old.setCell (by simpa using hwr) _, hq1.bs.far (by simpa using hpr) _, hq1.bd.far (by simpa using hqr) _⟩
      have hsl : SlR 4 depR (W1.setCell ⟨r, 5, none⟩ (.slice vA vn vc)) (.slice vA vn vc) (ds ++ [d]) :=
        slR_of_row (ownsRow_setCell_other ho (a := ⟨r, 5, none⟩) hne _) (hcs.mono depR_mono hsq.old) (by have := HNN.out; simp; omega)
      have hvn : vn = nd + 1 := by have := hsl.len; have := HNN.out; simp at *; omega
      subst hvn
      have hblk := hr1.put 5 (.slice vA (nd + 1) vc)
      have HSQ := Lib.hid hsq
      have HSL := Lib.hid hsl
      have HBL := Lib.hid hblk
      clear hI t8 hsq hsl hblk hb1 hcs hq1 hr1 hne
      go_wp2_with fail
      go_meet
      exact ⟨rfl, vA, vc, HSQ.out, HBL.out, HSL.out⟩
  case rest =>
    obtain ⟨rfl, vA, vc, hsq, hblk, hsl⟩ := hcut
    obtain ⟨w6, rfl⟩ : ∃ w6 : World, w6 = wc := ⟨_, rfl⟩
    clear HQ HR hii hz0 hz1 hz2
    have hc2 := added_check HCK.out HVA.out (by have := HNN.out; omega)
    have HC2 := Lib.hid hc2
    have HI2 := Lib.hid (added_imp hc2 HVA.out)
    have HOO := Lib.hid (added_ok (l := l) HCK.out hc2)
    clear hc2
    obtain ⟨q0, q1, q2, q3, q4, q5, c0, c1, c2, c3, lp, lq⟩ := hsq.ten
    have g0 := hblk.cell 0
    have g1 := hblk.cell 1
    have g2 := hblk.cell 2
    have g3 := hblk.cell 3
    have g4 := hblk.cell 4
    have g5 := hblk.cell 5
    have lr := hblk.lt
    simp only [List.getElem?_toArray, List.getElem?_cons_zero, List.getElem?_cons_succ] at g0 g1 g2 g3 g4 g5
    have HSQ := Lib.hid hsq
    have HBL := Lib.hid hblk
    have HSL := Lib.hid hsl
    clear hsq hblk hsl
    go_wp2_with fail
    refine (implied_any s1 s2 i1 i2 fA vA nf fc (nd + 1) vc (ds ++ [d]) nA B nn nc m k s d _ hnf HSL.out (HD.out.mono intR_mono HSQ.out.old)).mono ?_
    rintro e w7 ⟨rfl, hb7⟩
    rw [HC2.out, HVA.out, HI2.out]
    simp only [Bool.and_self, eno, if_true]
    have hsq := HSQ.out.below hb7
    have hblk := HBL.out.below hb7 HBL.out.lt
    replace HSL := Lib.hid (HSL.out.mono depR_mono hb7)
    clear q0 q1 q2 q3 q4 q5 c0 c1 c2 c3 lp lq g0 g1 g2 g3 g4 g5 lr HSQ HBL hb7
    obtain ⟨q0, q1, q2, q3, q4, q5, c0, c1, c2, c3, lp, lq⟩ := hsq.ten
    have HSQ := Lib.hid hsq
    have HBL := Lib.hid hblk
    clear hsq hblk
    go_wp2_with fail
    refine (Closure_any s1 s2 i1 i2 fA dA nf fc nd dc ds A n c l _ hnf (HS.out.mono depR_mono HSQ.out.old) (HL.out.mono intR_mono HSQ.out.old)).mono ?_
    rintro e w8 ⟨x, rfl, hx, hb8⟩
    have hsq := HSQ.out.below hb8
    have hblk := HBL.out.below hb8 HBL.out.lt
    replace HSL := Lib.hid (HSL.out.mono depR_mono hb8)
    have HX := Lib.hid hx
    clear q0 q1 q2 q3 q4 q5 c0 c1 c2 c3 lp lq HSQ HBL hb8 hx
    have g0 := hblk.cell 0
    have g1 := hblk.cell 1
    have g2 := hblk.cell 2
    have g3 := hblk.cell 3
    have g4 := hblk.cell 4
    have g5 := hblk.cell 5
    have lr := hblk.lt
    simp only [List.getElem?_toArray, List.getElem?_cons_zero, List.getElem?_cons_succ] at g0 g1 g2 g3 g4 g5
    have HSQ := Lib.hid hsq
    clear hsq hblk
    go_wp2_with fail
    refine (Closure_any s1 s2 i1 i2 fA vA nf fc (nd + 1) vc (ds ++ [d]) A n c l _ hnf HSL.out (HL.out.mono intR_mono HSQ.out.old)).mono ?_
    rintro e w9 ⟨y, rfl, hy, hb9⟩
    rw [HOO.out]
    replace HX := Lib.hid (HX.out.mono intR_mono hb9)
    have HY := Lib.hid hy
    have H9 := Lib.hid (HSQ.out.below hb9)
    clear hy hb9 HSQ g0 g1 g2 g3 g4 g5 lr HSL
    obtain ⟨X, cx, rfl⟩ := HX.out.form
    obtain ⟨Y, cy, rfl⟩ := HY.out.form
    have HSUB : Hid (subB (closL nf ds l) (closL nf (ds ++ [d]) l) = true) := by
      show _ = _
      cases hk : closOk nf ds l
      · rw [closL_no hk]; rfl
      · exact added_sub hk (HOO.out.trans hk)
    have HSAME : Hid (im = true → closL nf (ds ++ [d]) l = closL nf ds l) := fun e => by
      cases hk : closOk nf ds l
      · exact added_no hk (HOO.out.trans hk)
      · exact added_same hk (HOO.out.trans hk) (HIM.out.trans e)
    generalize eno (closOk nf ds l) = ee
    generalize closL nf ds l = L1 at HX HSUB HSAME ⊢
    generalize closL nf (ds ++ [d]) l = L2 at HY HSUB HSAME ⊢
    go_wp2_with fail
    refine (subset_any X Y _ cx _ cy L1 L2 w9 HX.out HY.out).mono ?_
    rintro e w' ⟨rfl, rfl⟩
    rw [HSUB.out]
    cases im
    · go_wp2
      go_ret
      exact ⟨rfl, H9.out.old⟩
    · go_wp2_with fail
      refine (same_ret X Y _ cx _ cy L1 L2 w9 HX.out HY.out).mono ?_
      rintro e w10 ⟨rfl, hb10⟩
      rw [decide_eq_true (HSAME.out (by trivial)).symm]
      have H10 := Lib.hid (H9.out.below hb10)
      clear hb10
      go_wp2
      go_ret
      exact ⟨rfl, H10.out.old⟩

end Go.Proofs.Ytejjggchjoifoaa
