/- Package rules: the memory of addable's iterator, and how it stands while others write. -/
import Derived.Test.YtkgmonplcdnnbaaGreatPm01
import Derived.Test.YtkgmonplcdnnbaaGreatPm09
import Derived.Test.YtkgmonplcdnnbaaGreatPm11
namespace Go.Proofs.YtkgmonplcdnnbaaGreat
open Go.RowKit
theorem getD_mem {l : List Int} {i : Nat} (h : i < l.length) : l.getD i 0 ∈ l := by
 rw [List.getD_eq_getElem?_getD, List.getElem?_eq_getElem h]
 exact List.getElem_mem h
theorem swapL_mem {l : List Int} {i j : Nat} {y : Int} (hi : i < l.length) (hj : j < l.length) (h : y ∈ swapL l i j) : y ∈ l := by
 rcases List.mem_or_eq_of_mem_set h with h | rfl
 ·
  rcases List.mem_or_eq_of_mem_set h with h | rfl
  · exact h
  · exact getD_mem hj
 · exact getD_mem hi
theorem upL_mem {y : Int} : ∀ (j : Nat) (l : List Int), j < l.length → y ∈ upL l j → y ∈ l := by
 intro j
 induction j using Nat.strongRecOn with
 |
  _ j ih =>
  intro l hj h
  unfold upL at h
  split at h
  · next hc => exact swapL_mem (by omega) hj (ih _ (by omega) _ (by rw [swapL_length]; omega) h)
  · exact h
theorem pushL_mem {l : List Int} {x y : Int} (h : y ∈ pushL l x) : y ∈ l ∨ y = x := by
 have := upL_mem _ _ (by simp) h
 simpa using this
theorem downL_mem {y : Int} {n : Nat} : ∀ (k i : Nat) (l : List Int), n - i ≤ k → n ≤ l.length → y ∈ downL l i n → y ∈ l := by
 intro k
 induction k with
 |
  zero =>
  intro i l hk hn h
  unfold downL at h
  split at h
  · next hc => omega
  · exact h
 |
  succ k ih =>
  intro i l hk hn h
  unfold downL at h
  split at h
  ·
   next hc =>
   have h1 := lessOf_lt (l := l) hc.1
   have h2 := lessOf_gt l i n
   exact swapL_mem (by omega) (by omega) (ih _ _ (by omega) (by rw [swapL_length]; exact hn) h)
  · exact h
theorem popL_mem {l : List Int} {y : Int} (hp : 0 < l.length) (h : y ∈ popL l) : y ∈ l :=
 swapL_mem hp (by omega) (downL_mem _ _ _ (Nat.le_refl _) (by rw [swapL_length]; omega) h)
def posN (o : List Int) : Nat := o.countP fun c => decide (0 < c)
def pot (o h : List Int) : Nat := h.length + posN o
theorem useL_pot {o h : List Int} {u : Int} (hu : u.toNat < o.length) : pot (useL (o, h) u).1 (useL (o, h) u).2 ≤ pot o h := by
 unfold pot useL posN
 simp only
 have hs : (o.set u.toNat (o.getD u.toNat 0 - 1)).getD u.toNat 0 = o.getD u.toNat 0 - 1 := by
  rw [List.getD_eq_getElem?_getD, List.getElem?_set_self hu]; rfl
 rw [hs]
 have hg : o.getD u.toNat 0 = o[u.toNat] := by rw [List.getD_eq_getElem?_getD, List.getElem?_eq_getElem hu]; rfl
 rw [hg, List.countP_set hu]
 have hle : 0 < o[u.toNat] → 1 ≤ o.countP fun c => decide (0 < c) := fun hp =>
  List.countP_pos_iff.2 ⟨_, List.getElem_mem hu, by simpa using hp⟩
 by_cases h1 : o[u.toNat] - 1 = 0
 ·
  rw [if_pos h1, pushL_length]
  have h2 : 0 < o[u.toNat] := by omega
  have h3 : ¬ 0 < o[u.toNat] - 1 := by omega
  have := hle h2
  simp only [decide_eq_true h2, decide_eq_false h3, if_true, Bool.false_eq_true, if_false]
  omega
 ·
  rw [if_neg h1]
  by_cases h2 : 0 < o[u.toNat]
  ·
   have h3 : 0 < o[u.toNat] - 1 := by omega
   have := hle h2
   simp only [decide_eq_true h2, decide_eq_true h3, if_true]
   omega
  ·
   have h3 : ¬ 0 < o[u.toNat] - 1 := by omega
   simp only [decide_eq_false h2, decide_eq_false h3, Bool.false_eq_true, if_false]
   omega
def cntL (rs : List QRule) (k : Nat) : List Int := (List.range k).map fun x : Nat => ((needOf rs x).length : Int)
theorem cntL_len (rs : List QRule) (k : Nat) : (cntL rs k).length = k := by simp [cntL]
theorem cntL_succ (rs : List QRule) (k : Nat) : cntL rs (k + 1) = cntL rs k ++ [((needOf rs k).length : Int)] := by simp [cntL, List.range_succ]
theorem startL_succ (rs : List QRule) (k : Nat) : startL rs (k + 1) = if (needOf rs k).length = 0 then pushL (startL rs k) k else startL rs k := by
 unfold startL
 rw [List.range_succ, List.foldl_append]
 rfl
theorem start_pot (rs : List QRule) : ∀ k : Nat, pot (cntL rs k) (startL rs k) = k
 | 0 => rfl
 |
  k + 1 => by
  have ih := start_pot rs k
  unfold pot posN at ih ⊢
  rw [cntL_succ, startL_succ, List.countP_append]
  by_cases h : (needOf rs k).length = 0
  ·
   rw [if_pos h, pushL_length]
   simp only [List.countP_cons, List.countP_nil, h]
   simp
   omega
  ·
   rw [if_neg h]
   have : (0 : Int) < ((needOf rs k).length : Int) := by omega
   simp only [List.countP_cons, List.countP_nil, decide_eq_true this, if_true]
   omega
theorem startL_mem {rs : List QRule} {y : Int} : ∀ {k : Nat}, y ∈ startL rs k → 0 ≤ y ∧ y < k
 | 0, h => by simp [startL] at h
 |
  k + 1, h => by
  rw [startL_succ] at h
  split at h
  ·
   rcases pushL_mem h with h | h
   · have := startL_mem h; omega
   · omega
  · have := startL_mem h; omega
theorem usersTo_mem {rs : List QRule} {k : Nat} {x y : Int} (h : y ∈ usersTo rs k x) : 0 ≤ y ∧ y < k := by
 unfold usersTo at h
 obtain ⟨h1, _⟩ := List.mem_filter.1 h
 obtain ⟨z, hz, rfl⟩ := List.mem_map.1 h1
 have := List.mem_range.1 hz
 exact ⟨by show (0 : Int) ≤ ((z : Nat) : Int); omega, by show ((z : Nat) : Int) < k; omega⟩
theorem orderL_eq (rs : List QRule) (n : Nat) : orderL rs n = orderGo (fun x : Nat => usersTo rs n x) (n + 1) (cntL rs n) (startL rs n) := rfl
theorem orderGo_nil (us : Nat → List Int) (fuel : Nat) (o : List Int) : orderGo us fuel o [] = [] := by
 cases fuel <;> simp [orderGo]
theorem orderGo_cons {us : Nat → List Int} {fuel : Nat} {o h : List Int} (hp : 0 < h.length) : orderGo us (fuel + 1) o h =
 (popL h).getD (h.length - 1) 0 :: orderGo us fuel ((us ((popL h).getD (h.length - 1) 0).toNat).foldl useL (o, (popL h).take (h.length - 1))).1 ((us ((popL h).getD (h.length - 1) 0).toNat).foldl useL (o, (popL h).take (h.length - 1))).2 := by
 rw [orderGo, if_neg (by omega)]
theorem QAt.drewN {w : World} {base G : Nat} {l : List Int} (h : QAt w base G l) (n : Nat) : QAt (w.drewN n) base G l := h
theorem QAt.grown {w w' : World} {base G g : Nat} {v : Value} {t : TypeId} {l : List Int} (hk : Blk w G t #[v]) (ht : t = 212) (hown : w'.ownsRow base 3 1 v l.length (l.map (Value.int .i64))) (hg : w.grownBy w' (some g)) (hbg : base ≤ g) (hG : G < base) (hs : base ≤ w.heap.size) : QAt w' base G l := by
 subst ht
 exact ⟨v, hk.grown hg (fun e => by injection e; omega), hown, hG, Nat.le_trans hs hg.size⟩
theorem tdiv_half (k : Nat) : ((k : Int) - 1).tdiv 2 = (((k - 1) / 2 : Nat) : Int) := by
 rcases k with _ | k
 · rfl
 ·
  have h : ((k + 1 : Nat) : Int) - 1 = (k : Int) := by omega
  rw [h]
  rw [Int.tdiv_eq_ediv_of_nonneg (by omega)]
  simp
set_option maxHeartbeats 4000000 in
set_option maxRecDepth 100000 in
theorem heapUp_any (base G : Nat) (l : List Int) (j : Nat) (w : World) (hq : QAt w base G l) (hj : j < l.length) (hl : l.length ≤ 1000000) :
 Calls Tryz.prog 207 #[.iface 209 (.pointer (some ⟨G, 0, none⟩)), .int .i64 j] w fun e w' => (∃ u, e = .returned u) ∧ QAt w' base G (upL l j) ∧ Kept G w w' := by
 have HQ := Lib.hid hq
 clear hq
 go_enter Tryz.func207, Tryz.ntmps207
 go_wp2_with fail
 go_loopg [1] j (fun q i wr => ∃ k : Nat, ∃ r : List Int, q = k ∧ i = .int .i64 k ∧ k < r.length ∧ r.length = l.length ∧ QAt wr base G r ∧ Kept G w wr ∧ upL r k = upL l j)
 case atStart => exact ⟨j, l, rfl, rfl, hj, rfl, HQ.out, Kept.refl _ _, rfl⟩
 case round =>
  clear HQ
  obtain ⟨k, r, hg, rfl, hk, hlen, hq, hkept, hup⟩ := hrel
  have hrl : r.length ≤ 1000000 := by omega
  have HLE := Lib.hid hlen
  have HG := Lib.hid hg
  have HUP := Lib.hid hup
  have HKP := Lib.hid hkept
  have HQ := Lib.hid hq
  clear hg hup hkept hq hlen
  obtain ⟨p, hp⟩ : ∃ p, p = (k - 1) / 2 := ⟨_, rfl⟩
  have HPP := Lib.hid hp
  have e1 : IntKind.i64.wrap ((k : Int) - 1) = (k : Int) - 1 := IntWalk.i64_in _ (by omega)
  have e2 : ((k : Int) - 1).tdiv 2 = (p : Int) := by rw [tdiv_half, hp]
  have e3 : IntKind.i64.wrap (p : Int) = (p : Int) := IntWalk.i64_in _ (by omega)
  by_cases h0 : k = 0
  ·
   subst h0
   have hp0 : p = 0 := by omega
   subst hp0
   clear hp
   have HU : Hid (upL r 0 = r) := Lib.hid (by unfold upL; simp)
   go_wp2_with fail
   go_end0
   exact ⟨⟨_, rfl⟩, by rw [← HUP.out, HU.out]; exact HQ.out, HKP.out⟩
  ·
   have hpk : p < k := by omega
   have hpn : p < r.length := by omega
   obtain ⟨g, cap, hbg, hGb, hbs, hkb, hown⟩ := HQ.out.form (by omega)
   have c0 := hkb.cell 0
   simp only [List.getElem?_toArray, List.getElem?_cons_zero] at c0
   have HM : Hid (∀ q, (wr.drewN q).cell? ⟨G, 0, none⟩ = some (.slice (some ⟨g, 0, none⟩) r.length cap)) := Lib.hid (fun _ => c0)
   have hm := methodLess G _ wr c0 (Tryz.prog.types.size + Made.depth) (by simp [Made.depth])
   simp only [Tryz.types_size, Made.depth, Nat.reduceAdd] at hm
   have HKB := Lib.hid hkb
   have HOWN := Lib.hid hown
   obtain ⟨v, hv⟩ : ∃ v, decide (r.getD k 0 < r.getD p 0) = v := ⟨_, rfl⟩
   have HV := Lib.hid hv
   have HC : Hid (Calls Tryz.prog 237 #[.slice (some ⟨g, 0, none⟩) r.length cap, .int .i64 k, .int .i64 p] wr fun e w' => e = .returned (.bool v) ∧ ∃ k, w' = wr.drewN k) := Lib.hid (by
    have := less_any base g cap r.length r k p wr hown hk hpn
    rw [hv] at this
    exact this)
   clear hkb hown c0 hv hp
   have hne : ¬ (p : Int) = (k : Int) := by omega
   go_upto_region 1 with fail
   clear e1 e2 e3
   go_wp2_with (go_at_call 237; refine HC.out.mono ?_; clear HC hm)
   rintro e w1 ⟨rfl, q, rfl⟩
   cases v with
   |
    false =>
    have HU : Hid (upL r k = r) := Lib.hid (by
     unfold upL
     rw [dif_neg]
     rintro ⟨_, h⟩
     have := HV.out
     rw [HPP.out] at this
     exact absurd h (of_decide_eq_false this))
    go_wp2_with fail
    go_end0
    exact ⟨⟨_, rfl⟩, by rw [← HUP.out, HU.out]; exact HQ.out, HKP.out.drewN _⟩
   |
    true =>
    have HU : Hid (upL r k = upL (swapL r p k) p) := Lib.hid (by
     have h2 := HV.out
     rw [HPP.out] at h2 ⊢
     conv => lhs; unfold upL
     rw [dif_pos ⟨by omega, of_decide_eq_true h2⟩])
    have hm2 := methodSwap G _ (wr.drewN q) (HM.out q) (Tryz.prog.types.size + Made.depth) (by simp [Made.depth])
    simp only [Tryz.types_size, Made.depth, Nat.reduceAdd] at hm2
    go_wp2_with (go_at_call 241; refine (swap_any base g cap r.length r p k (wr.drewN q) HOWN.out hpn hk).mono ?_; clear hm2)
    rintro e w2 ⟨⟨u, rfl⟩, hown2, hgr2⟩
    have HQ2 := Lib.hid (QAt.grown (w := wr.drewN q) HKB.out rfl (by rw [swapL_length]; exact hown2) hgr2 hbg hGb hbs)
    have HK2 := Lib.hid (HKP.out.trans (((Kept.refl G wr).drewN q).trans (Kept.of_grown (a := wr.drewN q) HKB.out rfl (Nat.ne_of_lt (Nat.lt_of_lt_of_le hGb hbg)) hgr2)))
    clear hown2 hgr2
    go_wp2_with fail
    go_roundg p
    case measure => have := HG.out; omega
    case rel => exact ⟨p, swapL r p k, rfl, rfl, by rw [swapL_length]; exact hpn, by rw [swapL_length]; exact HLE.out, HQ2.out, HK2.out, by rw [← HU.out]; exact HUP.out⟩
set_option maxHeartbeats 4000000 in
set_option maxRecDepth 100000 in
theorem heapPush_any (base G : Nat) (l : List Int) (x : Int) (w : World) (hq : QAt w base G l) (hl : l.length < 1000000) :
 Calls Tryz.prog 148 #[.iface 209 (.pointer (some ⟨G, 0, none⟩)), .iface 3 (.int .i64 x)] w fun e w' => (∃ u, e = .returned u) ∧ QAt w' base G (pushL l x) ∧ Kept G w w' := by
 have hbs : base ≤ w.heap.size := by obtain ⟨_, _, _, _, h⟩ := hq; exact h
 have HQ := Lib.hid hq
 clear hq
 have hm := methodPush ⟨G, 0, none⟩ w (Tryz.prog.types.size + Made.depth) (by simp [Made.depth])
 simp only [Tryz.types_size, Made.depth, Nat.reduceAdd] at hm
 go_enter Tryz.func148, Tryz.ntmps148
 go_wp2_with (go_at_call 239; refine (qpush_any base G l x w HQ.out hbs (by omega)).mono ?_; clear hm)
 rintro e w1 ⟨⟨u, rfl⟩, hq1, hk1⟩
 obtain ⟨r, hr⟩ : ∃ r, l ++ [x] = r := ⟨_, rfl⟩
 have HR := Lib.hid hr
 rw [hr] at hq1
 have hlen : r.length = l.length + 1 := by rw [← hr]; simp
 clear hr
 obtain ⟨g, cap, hbg, hGb, hbs1, hkb, hown⟩ := hq1.form (by omega)
 have c0 := hkb.cell 0
 simp only [List.getElem?_toArray, List.getElem?_cons_zero] at c0
 have hm := methodLen G _ w1 c0 (Tryz.prog.types.size + Made.depth) (by simp [Made.depth])
 simp only [Tryz.types_size, Made.depth, Nat.reduceAdd] at hm
 have HQ1 := Lib.hid hq1
 have HK1 := Lib.hid hk1
 have e1 : IntKind.i64.wrap ((r.length : Int) - 1) = (l.length : Int) := by
  rw [IntWalk.i64_in _ (by omega)]
  omega
 have HLEN := Lib.hid hlen
 clear hkb hown hq1 hk1 c0 hlen
 have HU : Hid (upL r l.length = pushL l x) := Lib.hid (by rw [pushL, HR.out])
 go_wp2_with (first
  | (go_at_call 149; refine (len_any _ _ _ _).mono ?_; rintro e w2 ⟨rfl, rfl⟩)
  | (go_at_call 207; refine (heapUp_any base G r l.length _ HQ1.out (by have := HLEN.out; omega) (by have := HLEN.out; omega)).mono ?_))
 rintro e w2 ⟨⟨u2, rfl⟩, hq2, hk2⟩
 rw [HU.out] at hq2
 have HQ2 := Lib.hid hq2
 have HK2 := Lib.hid (HK1.out.trans hk2)
 clear hq2 hk2 e1 hm
 go_wp2_with fail
 go_end0
 exact ⟨⟨_, rfl⟩, HQ2.out, HK2.out⟩
set_option maxHeartbeats 8000000 in
set_option maxRecDepth 100000 in
theorem heapDown_any (base G : Nat) (l : List Int) (i n : Nat) (w : World) (hq : QAt w base G l) (hn : n ≤ l.length) (hl : l.length ≤ 1000000) (hi : i ≤ n) :
 Calls Tryz.prog 208 #[.iface 209 (.pointer (some ⟨G, 0, none⟩)), .int .i64 i, .int .i64 n] w fun e w' => (∃ u, e = .returned u) ∧ QAt w' base G (downL l i n) ∧ Kept G w w' := by
 have HQ := Lib.hid hq
 clear hq
 go_enter Tryz.func208, Tryz.ntmps208
 go_wp2_with fail
 go_loopg [7] (n - i) (fun q z wr => ∃ k : Nat, ∃ r : List Int, q = n - k ∧ z = .int .i64 k ∧ k ≤ n ∧ r.length = l.length ∧ QAt wr base G r ∧ Kept G w wr ∧ downL r k n = downL l i n)
 case atStart => exact ⟨i, l, rfl, rfl, hi, rfl, HQ.out, Kept.refl _ _, rfl⟩
 case round =>
  clear HQ
  obtain ⟨k, r, hg, rfl, hk, hlen, hq, hkept, hup⟩ := hrel
  have hrl : r.length ≤ 1000000 := by omega
  have hnr : n ≤ r.length := by omega
  have HLE := Lib.hid hlen
  have HG := Lib.hid hg
  have HUP := Lib.hid hup
  have HKP := Lib.hid hkept
  have HQ := Lib.hid hq
  clear hg hup hkept hq hlen
  obtain ⟨a, ha⟩ : ∃ a, a = 2 * k + 1 := ⟨_, rfl⟩
  obtain ⟨b, hb⟩ : ∃ b, b = 2 * k + 2 := ⟨_, rfl⟩
  have e1 : IntKind.i64.wrap (2 * (k : Int)) = 2 * (k : Int) := IntWalk.i64_in _ (by omega)
  have e2 : IntKind.i64.wrap (2 * (k : Int) + 1) = (a : Int) := by rw [IntWalk.i64_in _ (by omega)]; omega
  have e3 : IntKind.i64.wrap ((a : Int) + 1) = (b : Int) := by rw [IntWalk.i64_in _ (by omega)]; omega
  have a0 : ¬ (a : Int) < 0 := by omega
  have HAB : Hid (a = 2 * k + 1 ∧ b = 2 * k + 2) := Lib.hid ⟨ha, hb⟩
  by_cases han : a < n
  case neg =>
   have han2 : (n : Int) ≤ (a : Int) := by omega
   have HU : Hid (downL r k n = r) := Lib.hid (by
    unfold downL
    rw [dif_neg]
    rintro ⟨h, _⟩
    omega)
   clear ha hb
   go_upto_region 3 with fail
   clear e1 e2 e3
   go_wp2_with fail
   go_ret
   exact ⟨⟨_, rfl⟩, by rw [← HUP.out, HU.out]; exact HQ.out, HKP.out⟩
  have han2 : (a : Int) < (n : Int) := by omega
  have hkn : k < n := by omega
  have hkr : k < r.length := by omega
  have har : a < r.length := by omega
  obtain ⟨g, cap, hbg, hGb, hbs, hkb, hown⟩ := HQ.out.form (by omega)
  have c0 := hkb.cell 0
  simp only [List.getElem?_toArray, List.getElem?_cons_zero] at c0
  have HM : Hid (∀ q, (wr.drewN q).cell? ⟨G, 0, none⟩ = some (.slice (some ⟨g, 0, none⟩) r.length cap)) := Lib.hid (fun _ => c0)
  have hm := methodLess G _ wr c0 (Tryz.prog.types.size + Made.depth) (by simp [Made.depth])
  simp only [Tryz.types_size, Made.depth, Nat.reduceAdd] at hm
  have HKB := Lib.hid hkb
  have HOWN := Lib.hid hown
  clear hkb hown c0
  by_cases hbn : b < n
  case neg =>
   have hbn2 : (n : Int) ≤ (b : Int) := by omega
   have HJ : Hid (lessOf r k n = a) := Lib.hid (by unfold lessOf; rw [if_neg (fun h => by omega)]; omega)
   clear ha hb
   go_upto_region 6 with fail
   clear e1 e2 e3
   obtain ⟨v2, hv2⟩ : ∃ v, decide (r.getD a 0 < r.getD k 0) = v := ⟨_, rfl⟩
   have HV2 := Lib.hid hv2
   have HC : Hid (Calls Tryz.prog 237 #[.slice (some ⟨g, 0, none⟩) r.length cap, .int .i64 a, .int .i64 k] wr fun e w' => e = .returned (.bool v2) ∧ ∃ k, w' = World.drewN wr k) := Lib.hid (by
    have := less_any base g cap r.length r a k wr HOWN.out har hkr
    rw [hv2] at this
    exact this)
   clear hv2
   go_wp2_with (go_at_call 237; refine HC.out.mono ?_; clear HC hm)
   first | rintro e w1 rfl q rfl | rintro e w1 ⟨rfl, q, rfl⟩
   have HM2 : Hid ((wr.drewN q).cell? ⟨G, 0, none⟩ = some (.slice (some ⟨g, 0, none⟩) r.length cap)) := Lib.hid (HM.out 0)
   cases v2 with
   |
    false =>
    have HU : Hid (downL r k n = r) := Lib.hid (by
     unfold downL
     rw [dif_neg]
     rintro ⟨_, h⟩
     rw [HJ.out] at h
     exact absurd h (of_decide_eq_false HV2.out))
    go_wp2_with fail
    go_ret
    exact ⟨⟨_, rfl⟩, by rw [← HUP.out, HU.out]; exact HQ.out, HKP.out.drewN _⟩
   |
    true =>
    have HU : Hid (downL r k n = downL (swapL r k a) a n) := Lib.hid (by
     conv => lhs; unfold downL
     rw [dif_pos ⟨by have := HAB.out; omega, by rw [HJ.out]; exact of_decide_eq_true HV2.out⟩, HJ.out])
    have hm2 := methodSwap G _ (wr.drewN q) HM2.out (Tryz.prog.types.size + Made.depth) (by simp [Made.depth])
    simp only [Tryz.types_size, Made.depth, Nat.reduceAdd] at hm2
    go_wp2_with (go_at_call 241; refine (swap_any base g cap r.length r k a (wr.drewN q) HOWN.out hkr har).mono ?_; clear hm2)
    first | rintro e w2 u rfl hown2 hgr2 | rintro e w2 ⟨⟨u, rfl⟩, hown2, hgr2⟩
    have HQ2 := Lib.hid (QAt.grown (w := (wr.drewN q)) HKB.out rfl (by rw [swapL_length]; exact hown2) hgr2 hbg hGb hbs)
    have HK2 : Hid (Kept G w w2) := Lib.hid ((HKP.out.drewN _).trans (Kept.of_grown (a := (wr.drewN q)) HKB.out rfl (Nat.ne_of_lt (Nat.lt_of_lt_of_le hGb hbg)) hgr2))
    clear hown2 hgr2
    go_wp2_with fail
    go_roundg (n - a)
    case measure => have := HG.out; have := HAB.out; omega
    case rel => exact ⟨a, swapL r k a, rfl, rfl, by have := HAB.out; omega, by rw [swapL_length]; exact HLE.out, HQ2.out, HK2.out, by rw [← HU.out]; exact HUP.out⟩
  have hbn2 : (b : Int) < (n : Int) := by omega
  have hbr : b < r.length := by omega
  obtain ⟨v, hv⟩ : ∃ v, decide (r.getD b 0 < r.getD a 0) = v := ⟨_, rfl⟩
  have HV := Lib.hid hv
  have HC1 : Hid (Calls Tryz.prog 237 #[.slice (some ⟨g, 0, none⟩) r.length cap, .int .i64 b, .int .i64 a] wr fun e w' => e = .returned (.bool v) ∧ ∃ k, w' = wr.drewN k) := Lib.hid (by
   have := less_any base g cap r.length r b a wr HOWN.out hbr har
   rw [hv] at this
   exact this)
  clear hv
  have HJ0 : Hid (lessOf r k n = if v then b else a) := Lib.hid (by
   unfold lessOf
   rw [← ha, ← hb, ← HV.out]
   by_cases h : r.getD b 0 < r.getD a 0
   · rw [if_pos ⟨hbn, h⟩, decide_eq_true h]; rfl
   · rw [if_neg (fun x => h x.2), decide_eq_false h]; rfl)
  clear ha hb
  go_upto_region 6 with fail
  clear e1 e2 e3
  go_wp2_with (go_at_call 237; refine HC1.out.mono ?_; clear HC1 hm)
  first | rintro e w1 rfl q0 rfl | rintro e w1 ⟨rfl, q0, rfl⟩
  cases v with
  |
   false =>
   have HJ : Hid (lessOf r k n = a) := HJ0
   obtain ⟨v2, hv2⟩ : ∃ v, decide (r.getD a 0 < r.getD k 0) = v := ⟨_, rfl⟩
   have HV2 := Lib.hid hv2
   have HC : Hid (Calls Tryz.prog 237 #[.slice (some ⟨g, 0, none⟩) r.length cap, .int .i64 a, .int .i64 k] (wr.drewN q0) fun e w' => e = .returned (.bool v2) ∧ ∃ k, w' = World.drewN (wr.drewN q0) k) := Lib.hid (by
    have := less_any base g cap r.length r a k (wr.drewN q0) HOWN.out har hkr
    rw [hv2] at this
    exact this)
   clear hv2
   have hm := methodLess G _ (wr.drewN q0) (HM.out q0) (Tryz.prog.types.size + Made.depth) (by simp [Made.depth])
   simp only [Tryz.types_size, Made.depth, Nat.reduceAdd] at hm
   go_wp2_with (go_at_call 237; refine HC.out.mono ?_; clear HC hm)
   first | rintro e w1 rfl q rfl | rintro e w1 ⟨rfl, q, rfl⟩
   have HM2 : Hid ((wr.drewN (q0 + q)).cell? ⟨G, 0, none⟩ = some (.slice (some ⟨g, 0, none⟩) r.length cap)) := Lib.hid (HM.out 0)
   cases v2 with
   |
    false =>
    have HU : Hid (downL r k n = r) := Lib.hid (by
     unfold downL
     rw [dif_neg]
     rintro ⟨_, h⟩
     rw [HJ.out] at h
     exact absurd h (of_decide_eq_false HV2.out))
    go_wp2_with fail
    go_ret
    exact ⟨⟨_, rfl⟩, by rw [← HUP.out, HU.out]; exact HQ.out, HKP.out.drewN _⟩
   |
    true =>
    have HU : Hid (downL r k n = downL (swapL r k a) a n) := Lib.hid (by
     conv => lhs; unfold downL
     rw [dif_pos ⟨by have := HAB.out; omega, by rw [HJ.out]; exact of_decide_eq_true HV2.out⟩, HJ.out])
    have hm2 := methodSwap G _ (wr.drewN (q0 + q)) HM2.out (Tryz.prog.types.size + Made.depth) (by simp [Made.depth])
    simp only [Tryz.types_size, Made.depth, Nat.reduceAdd] at hm2
    go_wp2_with (go_at_call 241; refine (swap_any base g cap r.length r k a (wr.drewN (q0 + q)) HOWN.out hkr har).mono ?_; clear hm2)
    first | rintro e w2 u rfl hown2 hgr2 | rintro e w2 ⟨⟨u, rfl⟩, hown2, hgr2⟩
    have HQ2 := Lib.hid (QAt.grown (w := (wr.drewN (q0 + q))) HKB.out rfl (by rw [swapL_length]; exact hown2) hgr2 hbg hGb hbs)
    have HK2 : Hid (Kept G w w2) := Lib.hid ((HKP.out.drewN _).trans (Kept.of_grown (a := (wr.drewN (q0 + q))) HKB.out rfl (Nat.ne_of_lt (Nat.lt_of_lt_of_le hGb hbg)) hgr2))
    clear hown2 hgr2
    go_wp2_with fail
    go_roundg (n - a)
    case measure => have := HG.out; have := HAB.out; omega
    case rel => exact ⟨a, swapL r k a, rfl, rfl, by have := HAB.out; omega, by rw [swapL_length]; exact HLE.out, HQ2.out, HK2.out, by rw [← HU.out]; exact HUP.out⟩
  |
   true =>
   have HJ : Hid (lessOf r k n = b) := HJ0
   obtain ⟨v2, hv2⟩ : ∃ v, decide (r.getD b 0 < r.getD k 0) = v := ⟨_, rfl⟩
   have HV2 := Lib.hid hv2
   have HC : Hid (Calls Tryz.prog 237 #[.slice (some ⟨g, 0, none⟩) r.length cap, .int .i64 b, .int .i64 k] (wr.drewN q0) fun e w' => e = .returned (.bool v2) ∧ ∃ k, w' = World.drewN (wr.drewN q0) k) := Lib.hid (by
    have := less_any base g cap r.length r b k (wr.drewN q0) HOWN.out hbr hkr
    rw [hv2] at this
    exact this)
   clear hv2
   have hm := methodLess G _ (wr.drewN q0) (HM.out q0) (Tryz.prog.types.size + Made.depth) (by simp [Made.depth])
   simp only [Tryz.types_size, Made.depth, Nat.reduceAdd] at hm
   go_wp2_with (go_at_call 237; refine HC.out.mono ?_; clear HC hm)
   first | rintro e w1 rfl q rfl | rintro e w1 ⟨rfl, q, rfl⟩
   have HM2 : Hid ((wr.drewN (q0 + q)).cell? ⟨G, 0, none⟩ = some (.slice (some ⟨g, 0, none⟩) r.length cap)) := Lib.hid (HM.out 0)
   cases v2 with
   |
    false =>
    have HU : Hid (downL r k n = r) := Lib.hid (by
     unfold downL
     rw [dif_neg]
     rintro ⟨_, h⟩
     rw [HJ.out] at h
     exact absurd h (of_decide_eq_false HV2.out))
    go_wp2_with fail
    go_ret
    exact ⟨⟨_, rfl⟩, by rw [← HUP.out, HU.out]; exact HQ.out, HKP.out.drewN _⟩
   |
    true =>
    have HU : Hid (downL r k n = downL (swapL r k b) b n) := Lib.hid (by
     conv => lhs; unfold downL
     rw [dif_pos ⟨by have := HAB.out; omega, by rw [HJ.out]; exact of_decide_eq_true HV2.out⟩, HJ.out])
    have hm2 := methodSwap G _ (wr.drewN (q0 + q)) HM2.out (Tryz.prog.types.size + Made.depth) (by simp [Made.depth])
    simp only [Tryz.types_size, Made.depth, Nat.reduceAdd] at hm2
    go_wp2_with (go_at_call 241; refine (swap_any base g cap r.length r k b (wr.drewN (q0 + q)) HOWN.out hkr hbr).mono ?_; clear hm2)
    first | rintro e w2 u rfl hown2 hgr2 | rintro e w2 ⟨⟨u, rfl⟩, hown2, hgr2⟩
    have HQ2 := Lib.hid (QAt.grown (w := (wr.drewN (q0 + q))) HKB.out rfl (by rw [swapL_length]; exact hown2) hgr2 hbg hGb hbs)
    have HK2 : Hid (Kept G w w2) := Lib.hid ((HKP.out.drewN _).trans (Kept.of_grown (a := (wr.drewN (q0 + q))) HKB.out rfl (Nat.ne_of_lt (Nat.lt_of_lt_of_le hGb hbg)) hgr2))
    clear hown2 hgr2
    go_wp2_with fail
    go_roundg (n - b)
    case measure => have := HG.out; have := HAB.out; omega
    case rel => exact ⟨b, swapL r k b, rfl, rfl, by have := HAB.out; omega, by rw [swapL_length]; exact HLE.out, HQ2.out, HK2.out, by rw [← HU.out]; exact HUP.out⟩
set_option maxHeartbeats 8000000 in
set_option maxRecDepth 100000 in
theorem heapPop_any (base G : Nat) (l : List Int) (w : World) (hq : QAt w base G l) (hpos : 0 < l.length) (hl : l.length ≤ 1000000) :
 Calls Tryz.prog 150 #[.iface 209 (.pointer (some ⟨G, 0, none⟩))] w fun e w' => e = .returned (.iface 3 (.int .i64 ((popL l).getD (l.length - 1) 0))) ∧ QAt w' base G ((popL l).take (l.length - 1)) ∧ Kept G w w' := by
 obtain ⟨g, cap, hbg, hGb, hbs, hkb, hown⟩ := hq.form hpos
 have c0 := hkb.cell 0
 simp only [List.getElem?_toArray, List.getElem?_cons_zero] at c0
 have HQ := Lib.hid hq
 have HKB := Lib.hid hkb
 have HOWN := Lib.hid hown
 obtain ⟨n, hn⟩ : ∃ n, n = l.length - 1 := ⟨_, rfl⟩
 have HN := Lib.hid hn
 have e1 : IntKind.i64.wrap ((l.length : Int) - 1) = (n : Int) := by rw [IntWalk.i64_in _ (by omega)]; omega
 have hnl : n < l.length := by omega
 have hm := methodLen G _ w c0 (Tryz.prog.types.size + Made.depth) (by simp [Made.depth])
 simp only [Tryz.types_size, Made.depth, Nat.reduceAdd] at hm
 have hms := methodSwap G _ w c0 (Tryz.prog.types.size + Made.depth) (by simp [Made.depth])
 simp only [Tryz.types_size, Made.depth, Nat.reduceAdd] at hms
 clear hq hkb hown c0 hn
 obtain ⟨r, hr⟩ : ∃ r, popL l = r := ⟨_, rfl⟩
 have HR : Hid (downL (swapL l 0 n) 0 n = r) := Lib.hid (by rw [← hr, popL, HN.out])
 have hrl : r.length = l.length := by rw [← hr, popL_length]
 have HRL := Lib.hid hrl
 rw [hr]
 clear hr hrl
 go_enter Tryz.func150, Tryz.ntmps150
 go_wp2_with (first
  | (go_at_call 149; refine (len_any _ _ _ _).mono ?_; rintro e w2 ⟨rfl, rfl⟩)
  | (go_at_call 241; refine (swap_any base g cap l.length l 0 n w HOWN.out hpos hnl).mono ?_; clear hm hms e1))
 first | rintro e w1 u rfl hown2 hgr2 | rintro e w1 ⟨⟨u, rfl⟩, hown2, hgr2⟩
 have hq1 : QAt w1 base G (swapL l 0 n) := QAt.grown (w := w) HKB.out rfl (by rw [swapL_length]; exact hown2) hgr2 hbg hGb hbs
 have HK1 : Hid (Kept G w w1) := Lib.hid (Kept.of_grown (a := w) HKB.out rfl (Nat.ne_of_lt (Nat.lt_of_lt_of_le hGb hbg)) hgr2)
 have HQ1 := Lib.hid hq1
 clear hq1 hown2 hgr2
 go_wp2_with (go_at_call 208; refine (heapDown_any base G (swapL l 0 n) 0 n w1 HQ1.out (by rw [swapL_length]; omega) (by rw [swapL_length]; exact hl) (Nat.zero_le _)).mono ?_)
 first | rintro e w2 u2 rfl hq2 hk2 | rintro e w2 ⟨⟨u2, rfl⟩, hq2, hk2⟩
 rw [HR.out] at hq2
 have HQ2 := Lib.hid hq2
 have HK2 := Lib.hid (HK1.out.trans hk2)
 have hm3 := methodPop ⟨G, 0, none⟩ w2 (Tryz.prog.types.size + Made.depth) (by simp [Made.depth])
 simp only [Tryz.types_size, Made.depth, Nat.reduceAdd] at hm3
 clear hq2 hk2
 go_wp2_with (go_at_call 238; refine (qpop_any base G r w2 HQ2.out (by have := HRL.out; omega) (by have := HRL.out; omega)).mono ?_; clear hm3)
 first | rintro e w3 rfl hq3 hk3 | rintro e w3 ⟨rfl, hq3, hk3⟩
 rw [HRL.out] at hq3 ⊢
 have HQ3 := Lib.hid hq3
 have HK3 := Lib.hid (HK2.out.trans hk3)
 clear hq3 hk3
 go_wp2_with fail
 go_ret
 exact ⟨rfl, HQ3.out, HK3.out⟩
theorem QAt.put {w : World} {base G O : Nat} {l : List Int} (h : QAt w base G l) (hO : O < base) (hne : O ≠ G) (i : Nat) (u : Value) : QAt (w.setCell ⟨O, i, none⟩ u) base G l := by
 obtain ⟨v, h1, h2, h3, h4⟩ := h
 exact ⟨v, h1.far (fun e => hne e.symm) u, ownsRow_setCell_below h2 hO u, h3, by simpa [World.setCell] using h4⟩
theorem QAt.pt {w : World} {base G : Nat} {l : List Int} (h : QAt w base G l) : ∀ b, ptOf G w = some b → base ≤ b ∧ b < w.heap.size := by
 obtain ⟨v, h1, h2, h3, h4⟩ := h
 intro b hb
 rw [ptOf_blk h1] at hb
 exact h2.lt b hb
theorem Kept.low {w w' : World} {base G : Nat} {l : List Int} (hk : Kept G w w') (h : QAt w base G l) {b : Nat} (hb : b < base) (hne : b ≠ G) : w'.heap[b]? = w.heap[b]? := by
 have hs : base ≤ w.heap.size := by obtain ⟨_, _, _, _, h⟩ := h; exact h
 exact hk.block b (by omega) hne (fun e => by have := (h.pt b e.symm).1; omega)
theorem Kept.below {w w' : World} {base G B : Nat} {l : List Int} (hk : Kept G w w') (h : QAt w base G l) (hB : B ≤ G) : Below B w w' := by
 have hG : G < base := by obtain ⟨_, _, _, h, _⟩ := h; exact h
 exact ⟨hk.os, hk.tape, hk.output, hk.size, fun b hb => hk.low h (by omega) (by omega)⟩
structure ItC (B B2 U O G base : Nat) (us : List Value) : Prop where
 b2 : B2 < B
 oB : B ≤ O
 ob : O < base
 og : O ≠ G
 gB : B ≤ G
 rb : ∀ b, RowB U us b → B ≤ b ∧ b < base ∧ b ≠ O ∧ b ≠ G
structure ItS (n₀ B2 bU U O G base n : Nat) (us : List Value) (f : Nat → List Int) (X : World) (o h : List Int) : Prop where
 op : Blk X O 3 ((o.map (Value.int .i64)).toArray)
 q : QAt X base G h
 rows : RowsAt X bU U n us f
 ptb : ∀ b, ptOf B2 X = some b → n₀ ≤ b ∧ b < X.heap.size ∧ ¬ RowB U us b ∧ b ≠ O ∧ b ≠ G ∧ some b ≠ ptOf G X
section
variable {n₀ B B2 bU U O G base n : Nat} {us : List Value} {f : Nat → List Int} {X X' : World} {o h h' : List Int}
theorem ptOf_same {B2 : Nat} {X X' : World} (h : X'.heap[B2]? = X.heap[B2]?) : ptOf B2 X' = ptOf B2 X := by
 unfold ptOf World.cell?
 rw [h]
theorem ItS.put (hc : ItC B B2 U O G base us) (hs : ItS n₀ B2 bU U O G base n us f X o h) (i : Nat) (z : Int) :
 ItS n₀ B2 bU U O G base n us f (X.setCell ⟨O, i, none⟩ (.int .i64 z)) (o.set i z) h ∧ Off B B2 X (X.setCell ⟨O, i, none⟩ (.int .i64 z)) := by
 have hpt : ptOf B2 (X.setCell ⟨O, i, none⟩ (.int .i64 z)) = ptOf B2 X := ptOf_same (Below.heap_setCell _ _ _ B2 (fun e => by have := hc.b2; have := hc.oB; simp at e; omega))
 have hpg : ptOf G (X.setCell ⟨O, i, none⟩ (.int .i64 z)) = ptOf G X := ptOf_same (Below.heap_setCell _ _ _ G (fun e => hc.og e.symm))
 have hsz : (X.setCell ⟨O, i, none⟩ (.int .i64 z)).heap.size = X.heap.size := by simp [World.setCell]
 refine ⟨⟨?_, hs.q.put hc.ob hc.og _ _, hs.rows.keep (fun b hb => Below.heap_setCell _ _ _ b (hc.rb b hb).2.2.1), ?_⟩, ?_⟩
 ·
  have := hs.op.put i (.int .i64 z)
  rw [List.setIfInBounds_toArray, ← List.map_set] at this
  exact this
 ·
  intro b hb
  rw [hpt] at hb
  rw [hpg, hsz]
  exact hs.ptb b hb
 ·
  refine ⟨rfl, rfl, rfl, by rw [hsz]; exact Nat.le_refl _, fun b hb hor => Below.heap_setCell _ _ _ b (fun e => ?_)⟩
  have e : b = O := e
  subst e
  rcases hor with hor | hor
  · have := hc.oB; omega
  · exact (hs.ptb _ hor.symm).2.2.2.1 rfl
theorem ItS.kept (hc : ItC B B2 U O G base us) (hs : ItS n₀ B2 bU U O G base n us f X o h) (hk : Kept G X X') (hq : QAt X' base G h') :
 ItS n₀ B2 bU U O G base n us f X' o h' ∧ Off B B2 X X' := by
 have hB2 : B2 < base := by have := hc.b2; have := hc.oB; have := hc.ob; omega
 have hpt : ptOf B2 X' = ptOf B2 X := ptOf_same (hk.low hs.q hB2 (by have := hc.b2; have := hc.gB; omega))
 refine ⟨⟨(hk.low hs.q hc.ob hc.og).trans hs.op, hq, hs.rows.keep (fun b hb => hk.low hs.q (hc.rb b hb).2.1 (hc.rb b hb).2.2.2), ?_⟩, ?_⟩
 ·
  intro b hb
  rw [hpt] at hb
  obtain ⟨h1, h2, h3, h4, h5, h6⟩ := hs.ptb b hb
  refine ⟨h1, Nat.lt_of_lt_of_le h2 hk.size, h3, h4, h5, ?_⟩
  rcases hk.pt with e | ⟨y, e, hy⟩
  · rw [e]; exact h6
  ·
   rw [e]
   intro e2
   injection e2 with e2
   omega
 ·
  refine ⟨hk.os, hk.tape, hk.output, hk.size, fun b hb hor => ?_⟩
  rcases hor with hor | hor
  · exact hk.low hs.q (by have := hc.oB; have := hc.ob; omega) (by have := hc.gB; omega)
  ·
   obtain ⟨h1, h2, h3, h4, h5, h6⟩ := hs.ptb b hor.symm
   exact hk.block b hb h5 h6
theorem QAt.keep {w w' : World} {base G : Nat} {l : List Int} (h : QAt w base G l) (hs : w.heap.size ≤ w'.heap.size) (hb : ∀ b, b = G ∨ ptOf G w = some b → w'.heap[b]? = w.heap[b]?) : QAt w' base G l := by
 obtain ⟨v, h1, h2, h3, h4⟩ := h
 refine ⟨v, (hb G (.inl rfl)).trans h1, ⟨h2.1, ?_⟩, h3, Nat.le_trans h4 hs⟩
 rcases h2.2 with h2 | ⟨g, cap, cur, hv, hg, hh, rest⟩
 · exact .inl h2
 · exact .inr ⟨g, cap, cur, hv, hg, (hb g (.inr (by rw [ptOf_blk h1, hv]; rfl))).trans hh, rest⟩
theorem ItS.round (hc : ItC B B2 U O G base us) (hs : ItS n₀ B2 bU U O G base n us f X o h) (hk : KpC n₀ B B2 X X') (hn : n₀ ≤ B) (hBX : B ≤ X.heap.size) : ItS n₀ B2 bU U O G base n us f X' o h := by
 have same : ∀ b, B ≤ b → b < X.heap.size → (∀ c, ptOf B2 X = some c → c ≠ b) → X'.heap[b]? = X.heap[b]? := fun b h1 h2 h3 => hk.block b (.inr h1) h2 (fun e => h3 b e.symm rfl)
 have hG := hs.q.pt
 have hGs : G < X.heap.size := by obtain ⟨v, h1, _⟩ := hs.q; exact h1.lt
 have sG : X'.heap[G]? = X.heap[G]? := same G hc.gB hGs (fun c hcc => (hs.ptb c hcc).2.2.2.2.1)
 have sO : X'.heap[O]? = X.heap[O]? := same O hc.oB hs.op.lt (fun c hcc => (hs.ptb c hcc).2.2.2.1)
 have hbase : G < base := by obtain ⟨v, _, _, h3, _⟩ := hs.q; exact h3
 have hpg : ptOf G X' = ptOf G X := ptOf_same sG
 refine ⟨sO.trans hs.op, hs.q.keep hk.size (fun b hb => ?_), hs.rows.keep (fun b hb => same b (hc.rb b hb).1 (hs.rows.lt hb).2 (fun c hcc e => (hs.ptb c hcc).2.2.1 (e ▸ hb))), ?_⟩
 ·
  rcases hb with rfl | hb
  · exact sG
  · exact same b (by have := (hG b hb).1; have := hc.gB; omega) (hG b hb).2 (fun c hcc e => (hs.ptb c hcc).2.2.2.2.2 (by rw [hb, e]))
 ·
  intro b hb
  rw [hpg]
  rcases hk.pt with e | ⟨y, e, hy⟩
  ·
   rw [e] at hb
   obtain ⟨h1, h2, h3⟩ := hs.ptb b hb
   exact ⟨h1, Nat.lt_of_lt_of_le h2 hk.size, h3⟩
  ·
   have hlt := hk.lt b hb
   rw [e] at hb
   injection hb with hb
   subst hb
   refine ⟨by omega, hlt, fun hr => by have := (hs.rows.lt hr).2; omega, by have := hs.op.lt; omega, by omega, fun e2 => ?_⟩
   have := (hG _ e2.symm).2
   omega
end
theorem needOf_len {rs : List QRule} {n : Nat} {x : Int} (h : ∀ y ∈ needOf rs x, 0 ≤ y ∧ y < n) : (needOf rs x).length ≤ n := by
 have := nodup_len (needOf rs x) ((List.range n).map Int.ofNat) (needOf_nodup rs x) (fun y hy => by
  have := h y hy
  exact List.mem_map.2 ⟨y.toNat, List.mem_range.2 (by omega), by show ((y.toNat : Nat) : Int) = y; omega⟩)
 simpa using this
end Go.Proofs.YtkgmonplcdnnbaaGreat
