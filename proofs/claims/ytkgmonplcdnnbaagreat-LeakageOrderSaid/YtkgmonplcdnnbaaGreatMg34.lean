/- testamurlaw23.LeakageOrderSpec: the walk. -/
import Derived.Test.YtkgmonplcdnnbaaGreatMg33
import Derived.BigQuiet
import Derived.Test.YtkgmonplcdnnbaaGreatRows
import Derived.ProofKit
import Derived.Deep.Slices
import Derived.Deep.Fields
import Derived.OpenShut
namespace Go.Proofs.YtkgmonplcdnnbaaGreat
open Go.RowKit Go.Shelf

set_option maxHeartbeats 8000000 in
set_option maxRecDepth 100000 in
theorem orderSpec_any (A B : Option Addr) (n c m d : Nat) (l r : List Int) (w : World) (hl : SlR 1 iR w (.slice A n c) l) (hr : SlR 1 iR w (.slice B m d) r) :
    Calls Tryz.prog 4 #[.slice A n c, .slice B m d] w fun e w' => e = .returned (.bool true) ∧ Below w.heap.size w w' := by
  have HL := Lib.hid hl
  have HR := Lib.hid hr
  clear hl hr
  obtain ⟨b, hb⟩ : ∃ b, belowR l r = b := ⟨_, rfl⟩
  obtain ⟨e0, he⟩ : ∃ e0, lenE l r = e0 := ⟨_, rfl⟩
  obtain ⟨z, hz⟩ : ∃ z, compR l r = z := ⟨_, rfl⟩
  have HC : Hid (∀ W, Below w.heap.size w W → (Calls Tryz.prog 17 #[.slice A n c, .slice B m d] W fun e w' => e = .returned (.tuple #[.bool b, .int .i64 e0]) ∧ Below W.heap.size W w') ∧ (Calls Tryz.prog 18 #[.slice A n c, .slice B m d] W fun e w' => e = .returned (.tuple #[.bool b, .int .i64 e0]) ∧ Below W.heap.size W w') ∧ (Calls Tryz.prog 19 #[.slice A n c, .slice B m d] W fun e w' => e = .returned (.tuple #[.int .i64 z, .int .i64 e0]) ∧ Below W.heap.size W w') ∧ (Calls Tryz.prog 20 #[.slice A n c, .slice B m d] W fun e w' => e = .returned (.tuple #[.int .i64 z, .int .i64 e0]) ∧ Below W.heap.size W w')) := Lib.hid (fun W hW => by
    have h1 := leakBelow_any A B n c m d l r W (HL.out.mono iR_mono hW) (HR.out.mono iR_mono hW)
    have h2 := refBelow_any A B n c m d l r W (HL.out.mono iR_mono hW) (HR.out.mono iR_mono hW)
    have h3 := leakCompare_any A B n c m d l r W (HL.out.mono iR_mono hW) (HR.out.mono iR_mono hW)
    have h4 := refCompare_any A B n c m d l r W (HL.out.mono iR_mono hW) (HR.out.mono iR_mono hW)
    rw [hb, he] at h1 h2
    rw [hz, he] at h3 h4
    exact ⟨h1, h2, h3, h4⟩)
  clear hb he hz
  go_enter Tryz.func4, Tryz.ntmps4
  go_wp2_with (go_at_call 9; refine (sane23_any w).mono ?_)
  first | rintro e w1 rfl hb1 | rintro e w1 ⟨rfl, hb1⟩
  have HB1 := Lib.hid hb1
  clear hb1
  by_cases hn : (20 : Int) < (n : Int)
  · go_wp2_with fail
    go_ret
    exact ⟨rfl, HB1.out⟩
  by_cases hm : (20 : Int) < (m : Int)
  · go_wp2_with fail
    go_ret
    exact ⟨rfl, HB1.out⟩
  go_wp2_with (go_at_call 17; refine (HC.out _ HB1.out).1.mono ?_)
  first | rintro e w2 rfl hb2 | rintro e w2 ⟨rfl, hb2⟩
  have HB2 := Lib.hid (HB1.out.trans (hb2.mono HB1.out.size))
  clear hb2
  go_wp2_with (go_at_call 18; refine (HC.out _ HB2.out).2.1.mono ?_)
  first | rintro e w3 rfl hb3 | rintro e w3 ⟨rfl, hb3⟩
  have HB3 := Lib.hid (HB2.out.trans (hb3.mono HB2.out.size))
  clear hb3
  go_wp2_with (go_at_call 19; refine (HC.out _ HB3.out).2.2.1.mono ?_)
  first | rintro e w4 rfl hb4 | rintro e w4 ⟨rfl, hb4⟩
  have HB4 := Lib.hid (HB3.out.trans (hb4.mono HB3.out.size))
  clear hb4
  go_wp2_with (go_at_call 20; refine (HC.out _ HB4.out).2.2.2.mono ?_)
  first | rintro e w5 rfl hb5 | rintro e w5 ⟨rfl, hb5⟩
  have HB5 := Lib.hid (HB4.out.trans (hb5.mono HB4.out.size))
  clear hb5
  cases b <;> (go_wp2_with fail; go_ret; exact ⟨rfl, HB5.out⟩)

end Go.Proofs.YtkgmonplcdnnbaaGreat

namespace Go.Proofs.YtkgmonplcdnnbaaGreat
open Go.ChangeShapes Go.WideShapes Go.ChangeAt Go.RowKit Go.Deep

section
variable {H : Type} {enc : TypeId × Value → H} {P : Program} {w : World} {base : Nat} {hd : Bool}

theorem addr_plus (b off k : Nat) : (Addr.mk b off none).add k = ⟨b, off + k, none⟩ := by
  unfold Addr.add
  split
  · subst_vars; rfl
  · rfl

/-- A slice whose elements all read, reads as a list. -/
theorem slR_open {α : Type} {sz : Nat} {R : World → List Value → α → Prop} {t e : TypeId} {fuel : Nat} {v : Value} {x : DataW H × List MemPlace} (ht : P.underlying t = some (.slice e)) (hC : P.cellsOf e = sz) (hz : 0 < sz)
    (h : DataW.trod enc P w base (fun _ => true) hd fuel t [v] = some x)
    (hR : ∀ (n : Nat) (cs : List Value) (y : DataW H × List MemPlace), cs.length = sz → DataW.trod enc P w base (fun _ => true) hd n e cs = some y → ∃ a, R w cs a) :
    ∃ A n c l, v = .slice A n c ∧ SlR sz R w (.slice A n c) l := by
  rcases open_slice ht h with ⟨hcs, _⟩ | ⟨a, len, cap, m, n, D, Pl, hcs, hb, hl, hm, hmm, hx, hi⟩
  · injection hcs with hcs
    exact ⟨none, 0, 0, [], hcs, SlR.nil _ _ (Nat.zero_le _)⟩
  · injection hcs with hcs
    have hmc : m = cap := by rw [hmm]; simp
    subst hmc
    rw [hC] at hi
    have hex : ∀ i, i < len → ∃ (x : α) (cs : List Value), w.cells? base (a.add (i * sz)) sz = some cs ∧ R w cs x := by
      intro i hlt
      obtain ⟨cs, h1, h2⟩ := hi i (by omega)
      obtain ⟨y, hy⟩ := hR _ cs _ (World.cells?_some h1).2.1 h2
      exact ⟨y, cs, h1, hy⟩
    refine ⟨some a, len, m, List.ofFn (fun i : Fin len => Classical.choose (hex i.1 i.2)), hcs, some a, m, by simp, by simpa using hl, hm, fun i x hix => ?_⟩
    rw [List.getElem?_ofFn] at hix
    split at hix
    · rename_i hlt
      injection hix with hix
      obtain ⟨cs, h1, h2⟩ := Classical.choose_spec (hex i hlt)
      rw [hix] at h2
      have hsp : a.spot = none := by
        obtain ⟨_, cs0, h3, _⟩ := hex 0 (by omega)
        obtain ⟨_, k1, k2⟩ := World.cells?_some h3
        have k3 := k2 0 hz
        rw [List.getElem?_eq_getElem (by omega)] at k3
        have := World.cell?_spot k3
        simpa [Addr.add] using this
      obtain ⟨b, off, spot⟩ := a
      subst hsp
      obtain ⟨_, k1, k2⟩ := World.cells?_some h1
      have hcell : ∀ j u, cs[j]? = some u → w.cell? ⟨b, off + (i * sz + j), none⟩ = some u := by
        intro j u hu
        have hj : j < sz := by
          have := (List.getElem?_eq_some_iff.1 hu).1
          omega
        have := k2 j hj
        rw [addr_plus, addr_plus, hu] at this
        rw [← this, Nat.add_assoc]
      refine ⟨b, off, cs, rfl, ?_, k1, hcell, h2⟩
      have h0 := hcell 0 cs[0] (List.getElem?_eq_getElem (by omega))
      exact World.block_lt_of_cell? _ _ h0
    · exact absurd hix (by simp)

set_option maxRecDepth 100000 in
theorem ints_open {fuel : Nat} {v : Value} {x : DataW H × List MemPlace} (h : DataW.trod enc Tryz.prog w base (fun _ => true) hd fuel 30 [v] = some x) :
    ∃ A n c l, v = .slice A n c ∧ SlR 1 intR w (.slice A n c) l :=
  slR_open Tryz.underlying30 (by kernel_rfl) (by omega) h fun n cs y hl hy => by
    obtain ⟨k, rfl, _, hk⟩ := DataW.trod_int Tryz.underlying3 hy
    exact ⟨k, rfl, by simpa [Lit.wf, IntKind.min, IntKind.max, IntKind.signed, IntKind.bits] using hk⟩

set_option maxRecDepth 100000 in
/-- An argument that is a list of numbers. -/
theorem arg_ints {b0 : Nat} {v : Value} {d : DataW H} {ps : List MemPlace} (hv : Value.okWide Tryz.prog w .any b0 30 v) (h : DataW.Trod enc Tryz.prog w base (fun _ => true) hd 30 v d ps) :
    ∃ A n c l, v = .slice A n c ∧ SlR 1 intR w (.slice A n c) l := by
  obtain ⟨A, n, c, rfl⟩ := okWide_slice Tryz.underlying30 hv
  obtain ⟨fuel, hf⟩ := h
  exact ints_open hf
/-- What reads, reads the same where nothing old has changed. -/
theorem trodAll_stays (hl : laidOutB P = true) {W W' : World} {sp : Nat → Bool} (hb : Below W.heap.size W W') : ∀ {ts : List TypeId} {vs : List Value} {ds : List (DataW H)} {ps : List MemPlace},
    ts.all (fun t => P.readableRec t && decide (t < P.types.size)) = true → DataW.TrodAll enc P W 0 (fun _ => true) true ts vs ds ps → (∀ x ∈ ps, x.block < W.heap.size) → (∀ x ∈ ps, sp x.block = true) →
    DataW.TrodAll enc P W' 0 sp true ts vs ds ps
  | [], _, _, _, _, h, _, _ => by
    obtain ⟨rfl, rfl, rfl⟩ := trodAll_nil h
    exact trodAll_mk0
  | t :: ts, _, _, _, ht, h, hlt, hsp => by
    obtain ⟨v, vs, d, ds, p, q, rfl, rfl, rfl, h1, h2⟩ := trodAll_cons h
    simp only [List.all_cons, Bool.and_eq_true, decide_eq_true_eq] at ht
    exact trodAll_cons_mk (WideElems.Trod_stays hl ht.1.1 ht.1.2 h1 (fun x hx => hb.same (hlt x (List.mem_append_left _ hx))) (fun x hx => hsp x (List.mem_append_left _ hx)))
      (trodAll_stays hl hb ht.2 h2 (fun x hx => hlt x (List.mem_append_right _ hx)) (fun x hx => hsp x (List.mem_append_right _ hx)))

/-- The row's last step: the law returned true, and nothing old has changed. -/
theorem law_post (hl : laidOutB P = true) {f : Func} {s : ChangeSpec} {tb : TypeId} {apart fresh handsOn : Bool} {W W' : World} {args : Array Value} {ds gs : List (DataW H)} {before : List MemPlace}
    (hW : DataW.Whole enc P f.params.toList s.vars apart W args.toList ds gs before) (hsv : s.vars = []) (hr : f.resultTypes = #[tb]) (htb : P.underlying tb = some .bool)
    (hts : f.params.toList.all (fun t => P.readableRec t && decide (t < P.types.size)) = true)
    (hres : (s.fn H (ds ++ gs)).results = [.lit (.bool true)]) (hargs : (s.fn H (ds ++ gs)).args = ds) (hvars : (s.fn H (ds ++ gs)).vars = [])
    (hb : Below W.heap.size W W') : s.post enc P f apart fresh handsOn false W args (.bool true) W' := by
  have hlt : ∀ x ∈ before, x.block < W.heap.size := fun x hx => hW.lt x hx
  have hW' := hW
  obtain ⟨p, q, hA, hV, rfl, hfz, hnd⟩ := hW
  rw [hsv] at hV
  obtain ⟨rfl, rfl⟩ := trodVars_none hV
  refine ⟨ds, [], p ++ [], [], p, [], hW', ?_, ?_, ?_, World.keptBut_mono (fun x hx => ⟨hx, ?_⟩) (hb.frame (· ∈ p ++ [])), fun h => ?_⟩
  · rw [hres, hr]
    exact trodAll_mk1 (shut_bool htb true)
  · rw [hargs]
    exact trodAll_stays hl hb hts hA (fun x hx => hlt x (List.mem_append_left _ hx)) (fun x hx => by simpa using hlt x (List.mem_append_left _ hx))
  · rw [hvars, hsv]
    exact rfl
  · exact Or.inr (Or.inl (by simpa using hx))
  · cases h
end

end Go.Proofs.YtkgmonplcdnnbaaGreat
