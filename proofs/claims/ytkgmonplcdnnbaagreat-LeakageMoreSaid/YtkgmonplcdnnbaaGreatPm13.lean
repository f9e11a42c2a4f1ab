/- Package rules: the iterator of addable. Written by genaddable.py. -/
import Derived.Test.YtkgmonplcdnnbaaGreatPm11
import Derived.Test.YtkgmonplcdnnbaaGreatPm12
import Derived.Deep.RegionHeld3
import Derived.Shelf.Abstract
import Derived.Shelf.RegionOpen
import Derived.OwnWalkIn
import Derived.TacticsInMore
import Derived.LoopNIn
import Derived.LoopIn
import Derived.WideLaws
namespace Go.Proofs.YtkgmonplcdnnbaaGreat
open Go.RowKit Go.Shelf
attribute [local go_sem] Oper.semAt_some
theorem lenMap {w : World} {b : Nat} {m : List (Int × Bool)} (h : MapT (Value.int .i64) Value.bool w b m) (ty : TypeId) : (Builtin.len_ #[123] ty #[.map (some b)]).run Tryz.prog w = .ok (.int .i64 m.length) w := by
 obtain ⟨es, clock, h1, h2, _⟩ := h
 have hl : es.size = m.length := by
  have := congrArg List.length h2
  simpa using this
 have := run_len_map (P := Tryz.prog) w 123 ty b es clock (by kernel_rfl) h1
 rw [this, hl]
 rfl
theorem lenNil (w : World) (ty : TypeId) : (Builtin.len_ #[123] ty #[.map none]).run Tryz.prog w = .ok (.int .i64 0) w := by
 have := run_len_nilMap (P := Tryz.prog) w 123 ty (by kernel_rfl)
 rw [this]
 rfl
set_option maxHeartbeats 8000000 in
set_option maxRecDepth 100000 in
theorem addable1_in (m n₀ B2 bg M n base0 : Nat) (hs : List (Int × Nat)) (rs : List QRule) (w : World) (hbg : Blk w bg 128 #[.int .i64 n, .map (some M)]) (hG : GraphH w base0 M hs (needOf rs)) (hin : ∀ h y, y ∈ needOf rs h → 0 ≤ y ∧ y < n) (hn : n ≤ 1000) (hB2 : B2 < w.heap.size) (hn₀ : n₀ ≤ w.heap.size) :
 SeqC Fence.wide m Tryz.prog 146 #[.pointer (some ⟨bg, 0, none⟩)] (fun x : Int => #[.int .i64 x]) n₀ B2 (fun xs => xs = orderL rs n) n w := by
 intro l J W hW hp0 hJ hY h0
 refine callsIn_wide.2 ?_
 have hbgW := hbg.below hW hbg.lt
 have b0 := hbgW.cell 0
 have b1 := hbgW.cell 1
 have lb := hbgW.lt
 simp only [List.getElem?_toArray, List.getElem?_cons_zero, List.getElem?_cons_succ] at b0 b1
 have HGW := Lib.hid (hG.below hW)
 have HIN := Lib.hid hin
 have HP0 := Lib.hid hp0
 have HJ := Lib.hid hJ
 have HY := Lib.hid hY
 have HJ0 := Lib.hid h0
 have HBG := Lib.hid hbgW
 have hnW : n₀ ≤ W.heap.size := Nat.le_trans hn₀ hW.size
 have hB2W : B2 < W.heap.size := Nat.lt_of_lt_of_le hB2 hW.size
 clear hbg hG hin hp0 hJ hY h0 hbgW hW hB2
 have hmk := run_make_row' (P := Tryz.prog) 30 3 (.int .i64 0) 8 Tryz.underlying30 Tryz.infoIntD rfl .i64 .i64 n (by omega) (by omega)
 rw [madeCells_one] at hmk
 go_enter Tryz.func146, Tryz.ntmps146
 go_wp2_with fail
 go_region_held3 (fun w' => w'.cell? ⟨bg, 0, none⟩ = some (.int .i64 n) ∧ w'.cell? ⟨bg, 1, none⟩ = some (.map (some M)) ∧ Below W.heap.size W w')
  (first
   | exact ⟨(Below.cell ((Below.refl _ W).drew) (p := ⟨bg, 0, none⟩) lb).trans b0, (Below.cell ((Below.refl _ W).drew) (p := ⟨bg, 1, none⟩) lb).trans b1, (Below.refl _ W).drew⟩
   | exact ⟨(Below.cell ((Below.refl _ W).drew.trans hbu) (p := ⟨bg, 0, none⟩) lb).trans b0, (Below.cell ((Below.refl _ W).drew.trans hbu) (p := ⟨bg, 1, none⟩) lb).trans b1, (Below.refl _ W).drew.trans hbu⟩
   | exact ⟨(Below.cell (((Below.refl _ W).drew.trans hbu).alloc hbu.size _) (p := ⟨bg, 0, none⟩) lb).trans b0, (Below.cell (((Below.refl _ W).drew.trans hbu).alloc hbu.size _) (p := ⟨bg, 1, none⟩) lb).trans b1, ((Below.refl _ W).drew.trans hbu).alloc hbu.size _⟩
   | exact ⟨(Below.cell ((Below.refl _ W).drew.alloc (Nat.le_refl _) _) (p := ⟨bg, 0, none⟩) lb).trans b0, (Below.cell ((Below.refl _ W).drew.alloc (Nat.le_refl _) _) (p := ⟨bg, 1, none⟩) lb).trans b1, (Below.refl _ W).drew.alloc (Nat.le_refl _) _⟩
   | exact ⟨(Below.cell (((Below.refl _ W).drew.alloc (Nat.le_refl _) _).trans (hbu.mono (by simp))) (p := ⟨bg, 0, none⟩) lb).trans b0, (Below.cell (((Below.refl _ W).drew.alloc (Nat.le_refl _) _).trans (hbu.mono (by simp))) (p := ⟨bg, 1, none⟩) lb).trans b1, ((Below.refl _ W).drew.alloc (Nat.le_refl _) _).trans (hbu.mono (by simp))⟩)
  (first
   | (go_at_call 147; refine (users_any base0 M n hs rs _ (HGW.out.below (Below.refl _ W).drew) HIN.out hn).mono ?_; rintro e w' ⟨U, us, rfl, hru, hbu⟩)
   | (go_at_call 147; refine (users_any base0 M n hs rs _ (HGW.out.below ((Below.refl _ W).drew.alloc (Nat.le_refl _) _)) HIN.out hn).mono ?_; rintro e w' ⟨U, us, rfl, hru, hbu⟩))
 ·
  obtain ⟨X, hX⟩ : ∃ X, X = w'.alloc (.cells (Array.replicate n (.int .i64 0)) 3) := ⟨_, rfl⟩
  obtain ⟨O, hO⟩ : ∃ O, O = w'.heap.size := ⟨_, rfl⟩
  have hwb : Below W.heap.size W w' := (Below.refl _ W).drew.trans hbu
  have HX : Hid (Below W.heap.size W X) := Lib.hid (by rw [hX]; exact hwb.alloc hwb.size _)
  have HRU : Hid (RowsAt X (W.heap.size + 1) U n us (fun x : Nat => usersTo rs n x)) := Lib.hid (by rw [hX]; exact RowsAt.alloc (base := W.heap.size + 1) hru _)
  have HOK : Hid (Blk X O 3 (Array.replicate n (.int .i64 0))) := Lib.hid (by rw [hX, hO]; exact Blk.new _ _ _)
  have hOge : W.heap.size ≤ O := by rw [hO]; exact hwb.size
  have HNO : Hid (∀ b, RowB U us b → b ≠ O) := Lib.hid (fun b hb => by have := (hru.lt hb).2; omega)
  rw [← hX, ← hO]
  clear hX hO hwb hru hbu
  have kbg := HBG.out.below HX.out lb
  have b0 := kbg.cell 0
  have b1 := kbg.cell 1
  have lbX := kbg.lt
  simp only [List.getElem?_toArray, List.getElem?_cons_zero, List.getElem?_cons_succ] at b0 b1
  have hOX := HOK.out.lt
  have HRB : Hid (∀ b, RowB U us b → W.heap.size ≤ b ∧ b < X.heap.size ∧ b ≠ O) := Lib.hid (fun b hb => ⟨by have := (HRU.out.lt hb).1; omega, (HRU.out.lt hb).2, HNO.out b hb⟩)
  clear kbg hmk
  go_wp2_with fail
  obtain ⟨Y, hY⟩ : ∃ Y, Y = X.alloc (.cells #[.slice none 0 0] 212) := ⟨_, rfl⟩
  obtain ⟨G, hG⟩ : ∃ G, G = X.heap.size := ⟨_, rfl⟩
  obtain ⟨base, hbase⟩ : ∃ base, base = X.heap.size + 1 := ⟨_, rfl⟩
  have hXW := HX.out.size
  have HBY : Hid (Below W.heap.size W Y) := Lib.hid (by rw [hY]; exact HX.out.alloc HX.out.size _)
  have HRY : Hid (RowsAt Y (W.heap.size + 1) U n us (fun x : Nat => usersTo rs n x)) := Lib.hid (by rw [hY]; exact HRU.out.alloc _)
  have HOY : Hid (Blk Y O 3 (Array.replicate n (.int .i64 0))) := Lib.hid (by rw [hY]; exact HOK.out.alloc _)
  have HQ0 : Hid (QAt Y base G (startL rs 0)) := Lib.hid (by rw [hY, hG, hbase]; exact ⟨.slice none 0 0, Blk.new _ _ _, World.ownsRow_nil _ _ _ _, by omega, by simp⟩)
  have hGW : W.heap.size ≤ G := by omega
  have hOG : O ≠ G := by omega
  have hOb : O < base := by omega
  have HRB2 : Hid (∀ b, RowB U us b → W.heap.size ≤ b ∧ b < base ∧ b ≠ O ∧ b ≠ G) := Lib.hid (fun b hb => by have := HRB.out b hb; omega)
  rw [← hY, ← hG]
  clear hY hG hbase b0 b1 hXW HRU HOK HX
  go_loopg [20] n (fun q i wr => ∃ k : Nat, k ≤ n ∧ q = n - k ∧ i = .int .i64 k ∧ Blk wr O 3 (((cntL rs k ++ List.replicate (n - k) 0).map (Value.int .i64)).toArray) ∧ QAt wr base G (startL rs k) ∧ RowsAt wr (W.heap.size + 1) U n us (fun x : Nat => usersTo rs n x) ∧ Below W.heap.size W wr)
  case atStart =>
   refine ⟨0, Nat.zero_le _, rfl, rfl, ?_, HQ0.out, HRY.out, HBY.out⟩
   have := HOY.out
   simpa [cntL] using this
  case round =>
   clear HBY HRY HOY HQ0
   obtain ⟨k, hk, hq, rfl, ho, hqa, hr, hb⟩ := hrel
   have HQ := Lib.hid hq
   have HO := Lib.hid ho
   have HQA := Lib.hid hqa
   have HR := Lib.hid hr
   have HB := Lib.hid hb
   clear hq ho hqa hr hb
   by_cases hlt : k < n
   case neg =>
    obtain rfl : k = n := by omega
    go_wp2_with fail
    skip
    have hIC : ItC W.heap.size B2 U O G base us := ⟨hB2W, hOge, hOb, hOG, hGW, fun b hb => HRB2.out b hb⟩
    have hpt0 : ptOf B2 wr = ptOf B2 W := ptOf_same (HB.out.block B2 hB2W)
    have hIS : ItS n₀ B2 (W.heap.size + 1) U O G base k us (fun x : Nat => usersTo rs k x) wr (cntL rs k) (startL rs k) := by
     refine ⟨?_, HQA.out, HR.out, fun b hb => ?_⟩
     ·
      have := HO.out
      simpa using this
     ·
      rw [hpt0] at hb
      obtain ⟨h1, h2⟩ := HP0.out b hb
      have hqp := HQA.out.pt
      exact ⟨h1, Nat.lt_of_lt_of_le h2 HB.out.size, fun hr => by have := (hIC.rb b hr).1; omega, by omega, by omega, fun e => by have := (hqp b e.symm).1; omega⟩
    have hJ1 : J [] wr := HJ.out _ _ _ HJ0.out ⟨HB.out.os, HB.out.tape, HB.out.output, HB.out.size, fun b hb h => by
     rcases h with h | h
     · exact HB.out.block b h
     · exact HB.out.block b (HP0.out b h.symm).2⟩
    have hcb : ∀ c ∈ cntL rs k, -(1000 * ((([] : List Int)).length : Int)) ≤ c ∧ c ≤ 1000 := by
     intro c hcc
     unfold cntL at hcc
     obtain ⟨y, hy, rfl⟩ := List.mem_map.1 hcc
     have := needOf_len (rs := rs) (n := k) (x := (y : Int)) (fun z hz => HIN.out _ z hz)
     simp
     omega
    have HIC := Lib.hid hIC
    have HIS0 := Lib.hid hIS
    have HJ1 := Lib.hid hJ1
    have HCB0 := Lib.hid hcb
    have hWX : W.heap.size ≤ wr.heap.size := HB.out.size
    clear hIC hpt0 hIS hJ1 hcb HO HQA HR HB HQ hk hlt HRB HRB2 HNO HBG HGW HIN HP0
    obtain ⟨wy, rfl⟩ : ∃ q, q = wr := ⟨_, rfl⟩
    go_loopg [46] k (fun q _ wr => ∃ (o h pre : List Int) (fuel : Nat), q = pot o h ∧ o.length = k ∧ ItS n₀ B2 (W.heap.size + 1) U O G base k us (fun x : Nat => usersTo rs k x) wr o h ∧ J pre wr ∧ W.heap.size ≤ wr.heap.size ∧ (∀ y ∈ h, 0 ≤ y ∧ y < k) ∧ pre.length + pot o h ≤ k ∧ pot o h ≤ fuel ∧ pre ++ orderGo (fun x : Nat => usersTo rs k x) fuel o h = orderL rs k ∧ (∀ c ∈ o, -(1000 * (pre.length : Int)) ≤ c ∧ c ≤ 1000))
    case atStart => exact ⟨cntL rs k, startL rs k, [], k + 1, (start_pot rs k).symm, cntL_len rs k, HIS0.out, HJ1.out, hWX, fun y hy => startL_mem hy, by rw [start_pot]; simp, by rw [start_pot]; omega, (orderL_eq rs k).symm, HCB0.out⟩
    case round =>
     clear HIS0 HJ1 HCB0 hWX
     obtain ⟨o, h, pre, fuel, hq, hol, his, hj, hWX, hhm, hpl, hpf, hgo, hcb⟩ := hrel
     have HQ := Lib.hid hq
     have HOL := Lib.hid hol
     have HIS := Lib.hid his
     have HJP := Lib.hid hj
     have HHM := Lib.hid hhm
     have HPL := Lib.hid hpl
     have HPF := Lib.hid hpf
     have HGO := Lib.hid hgo
     have HCB := Lib.hid hcb
     have hhl : h.length ≤ k := by unfold pot at hpl; omega
     clear hq hol his hj hhm hpl hpf hgo hcb
     by_cases hpos : 0 < h.length
     case neg =>
      obtain rfl : h = [] := List.eq_nil_of_length_eq_zero (by omega)
      have HF : Hid (pre = orderL rs k) := Lib.hid (by have := HGO.out; rw [orderGo_nil, List.append_nil] at this; exact this)
      have hvf : ∃ A c, Blk wr G 212 #[.slice A 0 c] := by
       obtain ⟨v, h1, h2, _⟩ := HIS.out.q
       rcases h2.2 with ⟨rfl, _⟩ | ⟨g, cap, cur, rfl, _⟩
       · exact ⟨_, _, h1⟩
       · exact ⟨_, _, h1⟩
      obtain ⟨A, c, hkb⟩ := hvf
      have c0 := hkb.cell 0
      have lG := hkb.lt
      simp only [List.getElem?_toArray, List.getElem?_cons_zero] at c0
      clear hkb
      go_wp2_with (go_at_call 149; refine (len_any _ _ _ _).mono ?_; rintro e w2 ⟨rfl, rfl⟩)
      go_end0
      exact ⟨⟨_, rfl⟩, pre, HF.out, HJP.out⟩
     obtain ⟨g, cap, hbg2, hGb2, hbs2, hkb, hown⟩ := HIS.out.q.form hpos
     have c0 := hkb.cell 0
     have lG := hkb.lt
     simp only [List.getElem?_toArray, List.getElem?_cons_zero] at c0
     have hhl1 : (0 : Int) < (h.length : Int) := by omega
     have hhl2 : h.length ≤ 1000000 := by omega
     obtain ⟨x, hx⟩ : ∃ x, (popL h).getD (h.length - 1) 0 = x := ⟨_, rfl⟩
     obtain ⟨h1, hh1⟩ : ∃ h1, (popL h).take (h.length - 1) = h1 := ⟨_, rfl⟩
     have HX1 := Lib.hid hx
     have HH1 := Lib.hid hh1
     have hpc := heapPop_any base G h wr HIS.out.q hpos hhl2
     rw [hx, hh1] at hpc
     have hxm : 0 ≤ x ∧ x < k := HHM.out x (popL_mem hpos (by rw [← hx]; exact getD_mem (by rw [popL_length]; omega)))
     have hhm1 : ∀ y ∈ h1, 0 ≤ y ∧ y < k := fun y hy => HHM.out y (popL_mem hpos (List.mem_of_mem_take (by rw [hh1]; exact hy)))
     have hl1 : h1.length = h.length - 1 := by rw [← hh1, List.length_take, popL_length]; omega
     have HHM1 := Lib.hid hhm1
     have HL1 := Lib.hid hl1
     have HPC := Lib.hid hpc
     have hta := assertInt x
     clear hkb hown hx hh1 hpc hhm1 hl1
     go_upto_region 11 with (first
      | (go_at_call 149; refine (len_any _ _ _ _).mono ?_; rintro e w2 ⟨rfl, rfl⟩)
      | (go_at_call 150; refine HPC.out.mono ?_))
     first | rintro e w1 rfl hq1 hk1 | rintro e w1 ⟨rfl, hq1, hk1⟩
     obtain ⟨hs1, hof1⟩ := HIS.out.kept HIC.out hk1 hq1
     have hj1 := HJ.out _ _ _ HJP.out hof1
     have hWX1 : W.heap.size ≤ w1.heap.size := Nat.le_trans hWX hk1.size
     obtain ⟨fn, tmps, assign, body, hy, hR⟩ := HY.out pre x w1 hj1 (by have := HPL.out; unfold pot at this; omega)
     have HS1 := Lib.hid hs1
     have HR := Lib.hid hR
     clear hq1 hk1 hs1 hof1 hj1 hR
     go_upto_region 11 with fail
     refine (wpIn_wide (n := m)).1 ?_
     gi_wp2
     refine ⟨(fun h => by cases h), HR.out.mono ?_⟩
     rintro e w2 ⟨rfl, hj2, hkp⟩
     have hs2 := HS1.out.round HIC.out hkp hnW hWX1
     have HWX2 : Hid (W.heap.size ≤ w2.heap.size) := Lib.hid (Nat.le_trans hWX1 hkp.size)
     have HJ2 := Lib.hid hj2
     have HS2 := Lib.hid hs2
     obtain ⟨xn, rfl⟩ : ∃ xn : Nat, x = xn := ⟨x.toNat, by omega⟩
     have hxk : xn < k := by omega
     have hx0 : (0 : Int) ≤ (xn : Int) := by omega
     have hx1 : (xn : Int) < (k : Int) := by omega
     have hxl : xn < us.length := by rw [hs2.rows.len]; exact hxk
     obtain ⟨v, hv⟩ : ∃ v, us[xn]? = some v := ⟨_, List.getElem?_eq_getElem hxl⟩
     have hrow := (hs2.rows.row xn v hv).1
     have hcell := hs2.rows.blk.cell xn
     rw [List.getElem?_toArray, hv] at hcell
     have hul := usersTo_len rs k xn
     have hvf : ∃ A c, v = .slice A (usersTo rs k xn).length c := by
      rcases hrow.2 with ⟨rfl, h0⟩ | ⟨g, cap, cur, rfl, _⟩
      · exact ⟨_, _, by rw [h0]⟩
      · exact ⟨_, _, rfl⟩
     obtain ⟨A, c, rfl⟩ := hvf
     obtain ⟨L, hL⟩ : ∃ L, usersTo rs k xn = L := ⟨_, rfl⟩
     have HL := Lib.hid hL
     have HV := Lib.hid hv
     rw [hL] at hul hcell
     have hLn : L.length ≤ 1000 := by omega
     have HLM : Hid (∀ y ∈ L, 0 ≤ y ∧ y < k) := Lib.hid (fun y hy => usersTo_mem (rs := rs) (k := k) (x := xn) (by rw [hL]; exact hy))
     clear hj2 hkp hs2 hrow hv hL hy hxl
     gi_wp2
     go_wp2_with fail
     clear hcell
     obtain ⟨wz, rfl⟩ : ∃ q, q = wr := ⟨_, rfl⟩
     go_loopg [68] L.length (fun q i wr => ∃ (j : Nat) (o2 h2 : List Int), j ≤ L.length ∧ q = L.length - j ∧ i = .int .i64 j ∧ (L.take j).foldl useL (o, h1) = (o2, h2) ∧ o2.length = k ∧ ItS n₀ B2 (W.heap.size + 1) U O G base k us (fun x : Nat => usersTo rs k x) wr o2 h2 ∧ J (pre ++ [(xn : Int)]) wr ∧ W.heap.size ≤ wr.heap.size ∧ (∀ y ∈ h2, 0 ≤ y ∧ y < k) ∧ pot o2 h2 ≤ pot o h1 ∧ (∀ c ∈ o2, -(1000 * (pre.length : Int)) - j ≤ c ∧ c ≤ 1000))
     case atStart => exact ⟨0, o, h1, Nat.zero_le _, rfl, rfl, rfl, HOL.out, HS2.out, HJ2.out, HWX2.out, HHM1.out, Nat.le_refl _, fun c hc => by have := HCB.out c hc; simp; omega⟩
     case round =>
      clear HS2 HJ2 HWX2
      obtain ⟨j, o2, h2, hj, hq, rfl, hf, hol2, hs, hjp, hWX2, hhm2, hpo, hcb2⟩ := hrel
      have HQ2 := Lib.hid hq
      have HF := Lib.hid hf
      have HOL2 := Lib.hid hol2
      have HS := Lib.hid hs
      have HJP2 := Lib.hid hjp
      have HHM2 := Lib.hid hhm2
      have HPO := Lib.hid hpo
      have HCB2 := Lib.hid hcb2
      have HWX2 := Lib.hid hWX2
      clear hq hf hjp hhm2 hpo hcb2 hWX2
      by_cases hlt : j < L.length
      case neg =>
       have HFE : Hid (L.foldl useL (o, h1) = (o2, h2)) := Lib.hid (by have := HF.out; rw [List.take_of_length_le (by omega)] at this; exact this)
       have HGO2 : Hid (∃ f', fuel = f' + 1 ∧ (pre ++ [(xn : Int)]) ++ orderGo (fun x : Nat => usersTo rs k x) f' o2 h2 = orderL rs k) := Lib.hid (by
        have hpf := HPF.out
        obtain ⟨f', rfl⟩ : ∃ f', fuel = f' + 1 := ⟨fuel - 1, by unfold pot at hpf; omega⟩
        refine ⟨f', rfl, ?_⟩
        have := HGO.out
        rw [orderGo_cons hpos] at this
        rw [HX1.out, HH1.out] at this
        simp only [Int.toNat_natCast] at this
        rw [HL.out, HFE.out] at this
        simpa using this)
       clear hs hol2
       go_wp2_with fail
       go_roundg (pot o2 h2)
       case measure =>
        have h1' := HQ.out
        have h2' := HPO.out
        have h3' := HL1.out
        rw [h1']
        unfold pot at h2' ⊢
        omega
       case rel =>
        obtain ⟨f', hf1, hgo2⟩ := HGO2.out
        have hp1 := HPL.out
        have hp2 := HPF.out
        have hp3 := HPO.out
        have hp4 := HL1.out
        exact ⟨o2, h2, pre ++ [(xn : Int)], f', rfl, HOL2.out, HS.out, HJP2.out, HWX2.out, HHM2.out, by simp; unfold pot at hp1 hp3 ⊢; omega, by unfold pot at hp2 hp3 ⊢; omega, hgo2, fun c hc => by have := HCB2.out c hc; simp; omega⟩
      obtain ⟨u, hu⟩ : ∃ u, L[j]? = some u := ⟨_, List.getElem?_eq_getElem hlt⟩
      have hum := HLM.out u (List.mem_of_getElem? hu)
      obtain ⟨un, rfl⟩ : ∃ un : Nat, u = un := ⟨u.toNat, by omega⟩
      have hrow := (hs.rows.row xn _ HV.out).1
      rw [HL.out] at hrow
      obtain ⟨rg, rcap, hre⟩ := Joins.ownsRow_form hrow (by omega)
      injection hre with hA _ hc2
      subst hA
      subst hc2
      have hcj := hrow.cellAt j (by omega)
      rw [List.getElem?_map, hu] at hcj
      have hcj : wr.cell? ⟨rg, j, none⟩ = some (.int .i64 un) := hcj
      have hul2 : un < o2.length := by rw [hol2]; omega
      obtain ⟨ov, hov⟩ : ∃ ov, o2[un]? = some ov := ⟨_, List.getElem?_eq_getElem hul2⟩
      have hco := hs.op.cell un
      rw [List.getElem?_toArray, List.getElem?_map, hov] at hco
      have hco : wr.cell? ⟨O, un, none⟩ = some (.int .i64 ov) := hco
      have hfo := hs.op.frozen un
      have hovb := HCB2.out ov (List.mem_of_getElem? hov)
      have hprl : pre.length ≤ 1000 := by have := HPL.out; omega
      have e1 : IntKind.i64.wrap (ov - 1) = ov - 1 := IntWalk.i64_in _ (by omega)
      have hu0 : (0 : Int) ≤ (un : Int) := by omega
      have hu1 : (un : Int) < (k : Int) := by omega
      have hj0 : (0 : Int) ≤ (j : Int) := by omega
      have hj1 : (j : Int) < (L.length : Int) := by omega
      have lrg := (hrow.lt rg rfl).2
      have lO := hs.op.lt
      obtain ⟨hsp, hofp⟩ := hs.put HIC.out un (ov - 1)
      have HSP := Lib.hid hsp
      have HJP3 := Lib.hid (HJ.out _ _ _ HJP2.out hofp)
      have HWX3 : Hid (W.heap.size ≤ (wr.setCell ⟨O, un, none⟩ (.int .i64 (ov - 1))).heap.size) := Lib.hid (Nat.le_trans HWX2.out hofp.size)
      have hgd : o2.getD un 0 = ov := by rw [List.getD_eq_getElem?_getD, hov]; rfl
      have HUL : Hid (useL (o2, h2) (un : Int) = (o2.set un (ov - 1), if ov - 1 = 0 then pushL h2 un else h2)) := Lib.hid (by
       unfold useL
       simp only [Int.toNat_natCast, hgd]
       have : (o2.set un (ov - 1)).getD un 0 = ov - 1 := by rw [List.getD_eq_getElem?_getD, List.getElem?_set_self hul2]; rfl
       rw [this])
      have HPU : Hid (pot (useL (o2, h2) (un : Int)).1 (useL (o2, h2) (un : Int)).2 ≤ pot o2 h2) := Lib.hid (useL_pot (by simpa using hul2))
      have HF2 : Hid ((L.take (j + 1)).foldl useL (o, h1) = useL (o2, h2) (un : Int)) := Lib.hid (by rw [take_snoc hu, List.foldl_append, HF.out]; rfl)
      have HCB3 : Hid (∀ c ∈ o2.set un (ov - 1), -(1000 * (pre.length : Int)) - ((j + 1 : Nat) : Int) ≤ c ∧ c ≤ 1000) := Lib.hid (fun c hc => by
       rcases List.mem_or_eq_of_mem_set hc with hc | rfl
       · have := HCB2.out c hc; omega
       · omega)
      have hh2 : h2.length < 1000000 := by
       have h1' := HPO.out
       have h2' := HPL.out
       have h3' := HL1.out
       unfold pot at h1' h2'
       omega
      have HUM : Hid ((0 : Int) ≤ (un : Int) ∧ (un : Int) < k) := Lib.hid hum
      clear hrow hs hol2 hu hum hov hovb hsp hofp hgd hprl hul2
      by_cases hz : ov - 1 = 0
      ·
       have hov1 : ov = 1 := by omega
       subst hov1
       have e3 : (1 : Int) - 1 = 0 := by decide
       simp only [e3] at HSP HJP3 HWX3 HUL HCB3
       rw [if_pos trivial] at HUL
       clear e1 hz
       go_wp2_with (go_at_call 148; refine (heapPush_any base G h2 un _ HSP.out.q hh2).mono ?_)
       first | rintro e w3 u rfl hq3 hk3 | rintro e w3 ⟨⟨u, rfl⟩, hq3, hk3⟩
       obtain ⟨hs3, hof3⟩ := HSP.out.kept HIC.out hk3 hq3
       have HS3 := Lib.hid hs3
       have HJP4 := Lib.hid (HJ.out _ _ _ HJP3.out hof3)
       have HWX4 : Hid (W.heap.size ≤ w3.heap.size) := Lib.hid (Nat.le_trans HWX3.out hof3.size)
       have HHM3 : Hid (∀ y ∈ pushL h2 (un : Int), 0 ≤ y ∧ y < k) := Lib.hid (fun y hy => by
        rcases pushL_mem hy with hy | rfl
        · exact HHM2.out y hy
        · exact HUM.out)
       clear hq3 hk3 hs3 hof3 hco hfo hcj
       go_wp2_with fail
       go_roundg (L.length - (j + 1))
       case measure => have := HQ2.out; omega
       case rel =>
        have hpu := HPU.out
        rw [HUL.out] at hpu
        exact ⟨j + 1, _, _, by omega, rfl, by go_num, by rw [HF2.out, HUL.out], by rw [List.length_set]; exact HOL2.out, HS3.out, HJP4.out, HWX4.out, HHM3.out, Nat.le_trans hpu HPO.out, HCB3.out⟩
      ·
       rw [if_neg hz] at HUL
       go_wp2_with fail
       go_roundg (L.length - (j + 1))
       case measure => have := HQ2.out; omega
       case rel =>
        have hpu := HPU.out
        rw [HUL.out] at hpu
        exact ⟨j + 1, _, _, by omega, rfl, by go_num, by rw [HF2.out, HUL.out], by rw [List.length_set]; exact HOL2.out, HSP.out, HJP3.out, HWX3.out, HHM2.out, Nat.le_trans hpu HPO.out, HCB3.out⟩
   have hkn : (k : Int) < (n : Int) := by omega
   have hk0 : (0 : Int) ≤ (k : Int) := by omega
   have kbg := HBG.out.below HB.out lb
   have b0 := kbg.cell 0
   have b1 := kbg.cell 1
   simp only [List.getElem?_toArray, List.getElem?_cons_zero, List.getElem?_cons_succ] at b0 b1
   have hck := HO.out.cell k
   have hfk := HO.out.frozen k
   have hke : ((cntL rs k ++ List.replicate (n - k) 0).map (Value.int .i64))[k]? = some (.int .i64 0) := by
    rw [List.getElem?_map, List.getElem?_append_right (by rw [cntL_len]; omega), cntL_len, Nat.sub_self, List.getElem?_replicate, if_pos (by omega)]
    rfl
   rw [List.getElem?_toArray, hke] at hck
   have hG2 := HGW.out.below HB.out
   have hlook := run_lookup_m (keyEq_int Tryz.underlying3) Tryz.underlying126 (z := .map none) (by kernel_rfl) hG2.out (k : Int) false
   have HLV : Hid (∃ v, (Instr.lookup 126 (.map (some M)) (.int .i64 k) false).run Tryz.prog wr = .ok v wr ∧ ∀ ty, (Builtin.len_ #[123] ty #[v]).run Tryz.prog wr = .ok (.int .i64 (needOf rs k).length) wr) := Lib.hid (by
    cases hm : getM hs (k : Int) with
    |
     none =>
     rw [hm] at hlook
     refine ⟨_, hlook, fun ty => ?_⟩
     have := lenNil wr ty
     rw [hG2.rest _ (getM_none.1 hm)]
     exact this
    |
     some b =>
     rw [hm] at hlook
     refine ⟨_, hlook, fun ty => ?_⟩
     have := lenMap (hG2.ins _ (getM_mem hm)).2.2 ty
     rw [show (seenM (needOf rs (k : Int))).length = (needOf rs (k : Int)).length by simp [seenM]] at this
     exact this)
   obtain ⟨v, hlv, hlenv⟩ := HLV.out
   obtain ⟨c, hc⟩ : ∃ c, (needOf rs (k : Int)).length = c := ⟨_, rfl⟩
   have HC := Lib.hid hc
   rw [hc] at hlenv
   clear hG2 hlook kbg hke hc
   have HO2 : Hid (Blk (wr.setCell ⟨O, k, none⟩ (.int .i64 c)) O 3 (((cntL rs (k + 1) ++ List.replicate (n - (k + 1)) 0).map (Value.int .i64)).toArray)) := Lib.hid (by
    have := HO.out.put k (.int .i64 c)
    have he : (((cntL rs k ++ List.replicate (n - k) 0).map (Value.int .i64)).toArray).setIfInBounds k (.int .i64 c) = (((cntL rs (k + 1) ++ List.replicate (n - (k + 1)) 0).map (Value.int .i64)).toArray) := by
     rw [List.setIfInBounds_toArray, ← List.map_set, cntL_succ, HC.out]
     congr 2
     rw [List.set_append_right _ _ (by rw [cntL_len]; omega), cntL_len, Nat.sub_self, show n - k = (n - (k + 1)) + 1 by omega, List.replicate_succ, List.set_cons_zero]
     simp
    rw [he] at this
    exact this)
   have HQ2 : Hid (QAt (wr.setCell ⟨O, k, none⟩ (.int .i64 c)) base G (startL rs k)) := Lib.hid (HQA.out.put hOb hOG _ _)
   have HR2 : Hid (RowsAt (wr.setCell ⟨O, k, none⟩ (.int .i64 c)) (W.heap.size + 1) U n us (fun x : Nat => usersTo rs n x)) := Lib.hid (HR.out.keep (fun b hb => Below.heap_setCell _ _ _ b (HRB2.out b hb).2.2.1))
   have HB2 : Hid (Below W.heap.size W (wr.setCell ⟨O, k, none⟩ (.int .i64 c))) := Lib.hid (HB.out.setCell (show W.heap.size ≤ O from hOge) _)
   have hsl : (startL rs k).length ≤ k := by
    have := start_pot rs k
    unfold pot at this
    omega
   by_cases hc0 : c = 0
   ·
    subst hc0
    have HS : Hid (startL rs (k + 1) = pushL (startL rs k) k) := Lib.hid (by rw [startL_succ, if_pos HC.out])
    go_wp2_with (go_at_call 148; refine (heapPush_any base G (startL rs k) k _ HQ2.out (by omega)).mono ?_)
    first | rintro e w2 u rfl hq2 hk2 | rintro e w2 ⟨⟨u, rfl⟩, hq2, hk2⟩
    have HO3 : Hid (Blk w2 O 3 (((cntL rs (k + 1) ++ List.replicate (n - (k + 1)) 0).map (Value.int .i64)).toArray)) := Lib.hid ((hk2.low HQ2.out hOb hOG).trans HO2.out)
    have HR3 := Lib.hid (HR2.out.keep (fun b hb => hk2.low HQ2.out (HRB2.out b hb).2.1 (HRB2.out b hb).2.2.2))
    have HB3 : Hid (Below W.heap.size W w2) := Lib.hid (HB2.out.trans (hk2.below HQ2.out hGW))
    rw [← HS.out] at hq2
    have HQ3 := Lib.hid hq2
    clear hq2 hk2 hlv hlenv
    go_wp2_with fail
    go_roundg (n - (k + 1))
    case measure => have := HQ.out; omega
    case rel => exact ⟨k + 1, by omega, rfl, by go_num, HO3.out, HQ3.out, HR3.out, HB3.out⟩
   ·
    have hcz : ¬ (c : Int) = 0 := by omega
    have HS : Hid (startL rs (k + 1) = startL rs k) := Lib.hid (by rw [startL_succ, if_neg (by rw [HC.out]; exact hc0)])
    go_wp2_with fail
    go_roundg (n - (k + 1))
    case measure => have := HQ.out; omega
    case rel => exact ⟨k + 1, by omega, rfl, by go_num, HO2.out, by rw [HS.out]; exact HQ2.out, HR2.out, HB2.out⟩
 ·
  obtain ⟨X, hX⟩ : ∃ X, X = w' := ⟨_, rfl⟩
  obtain ⟨O, hO⟩ : ∃ O, O = W.heap.size := ⟨_, rfl⟩
  have hwb : Below W.heap.size W w' := ((Below.refl _ W).drew.alloc (Nat.le_refl _) (.cells (Array.replicate n (.int .i64 0)) 3)).trans (hbu.mono (by simp))
  have HX : Hid (Below W.heap.size W X) := Lib.hid (by rw [hX]; exact hwb)
  have HRU : Hid (RowsAt X (W.heap.size + 1 + 1) U n us (fun x : Nat => usersTo rs n x)) := Lib.hid (by rw [hX]; have := hru; simp only [World.size_alloc] at this; exact this)
  have HOK : Hid (Blk X O 3 (Array.replicate n (.int .i64 0))) := Lib.hid (by rw [hX, hO]; exact (Blk.new W.drew _ _).below hbu (by simp))
  have hOge : W.heap.size ≤ O := by omega
  have HNO : Hid (∀ b, RowB U us b → b ≠ O) := Lib.hid (fun b hb => by have := (hru.lt hb).1; simp at this; omega)
  rw [← hX, ← hO]
  clear hX hO hwb hru hbu
  have kbg := HBG.out.below HX.out lb
  have b0 := kbg.cell 0
  have b1 := kbg.cell 1
  have lbX := kbg.lt
  simp only [List.getElem?_toArray, List.getElem?_cons_zero, List.getElem?_cons_succ] at b0 b1
  have hOX := HOK.out.lt
  have HRB : Hid (∀ b, RowB U us b → W.heap.size ≤ b ∧ b < X.heap.size ∧ b ≠ O) := Lib.hid (fun b hb => ⟨by have := (HRU.out.lt hb).1; omega, (HRU.out.lt hb).2, HNO.out b hb⟩)
  clear kbg hmk
  go_wp2_with fail
  obtain ⟨Y, hY⟩ : ∃ Y, Y = X.alloc (.cells #[.slice none 0 0] 212) := ⟨_, rfl⟩
  obtain ⟨G, hG⟩ : ∃ G, G = X.heap.size := ⟨_, rfl⟩
  obtain ⟨base, hbase⟩ : ∃ base, base = X.heap.size + 1 := ⟨_, rfl⟩
  have hXW := HX.out.size
  have HBY : Hid (Below W.heap.size W Y) := Lib.hid (by rw [hY]; exact HX.out.alloc HX.out.size _)
  have HRY : Hid (RowsAt Y (W.heap.size + 1 + 1) U n us (fun x : Nat => usersTo rs n x)) := Lib.hid (by rw [hY]; exact HRU.out.alloc _)
  have HOY : Hid (Blk Y O 3 (Array.replicate n (.int .i64 0))) := Lib.hid (by rw [hY]; exact HOK.out.alloc _)
  have HQ0 : Hid (QAt Y base G (startL rs 0)) := Lib.hid (by rw [hY, hG, hbase]; exact ⟨.slice none 0 0, Blk.new _ _ _, World.ownsRow_nil _ _ _ _, by omega, by simp⟩)
  have hGW : W.heap.size ≤ G := by omega
  have hOG : O ≠ G := by omega
  have hOb : O < base := by omega
  have HRB2 : Hid (∀ b, RowB U us b → W.heap.size ≤ b ∧ b < base ∧ b ≠ O ∧ b ≠ G) := Lib.hid (fun b hb => by have := HRB.out b hb; omega)
  rw [← hY, ← hG]
  clear hY hG hbase b0 b1 hXW HRU HOK HX
  go_loopg [20] n (fun q i wr => ∃ k : Nat, k ≤ n ∧ q = n - k ∧ i = .int .i64 k ∧ Blk wr O 3 (((cntL rs k ++ List.replicate (n - k) 0).map (Value.int .i64)).toArray) ∧ QAt wr base G (startL rs k) ∧ RowsAt wr (W.heap.size + 1 + 1) U n us (fun x : Nat => usersTo rs n x) ∧ Below W.heap.size W wr)
  case atStart =>
   refine ⟨0, Nat.zero_le _, rfl, rfl, ?_, HQ0.out, HRY.out, HBY.out⟩
   have := HOY.out
   simpa [cntL] using this
  case round =>
   clear HBY HRY HOY HQ0
   obtain ⟨k, hk, hq, rfl, ho, hqa, hr, hb⟩ := hrel
   have HQ := Lib.hid hq
   have HO := Lib.hid ho
   have HQA := Lib.hid hqa
   have HR := Lib.hid hr
   have HB := Lib.hid hb
   clear hq ho hqa hr hb
   by_cases hlt : k < n
   case neg =>
    obtain rfl : k = n := by omega
    go_wp2_with fail
    skip
    have hIC : ItC W.heap.size B2 U O G base us := ⟨hB2W, hOge, hOb, hOG, hGW, fun b hb => HRB2.out b hb⟩
    have hpt0 : ptOf B2 wr = ptOf B2 W := ptOf_same (HB.out.block B2 hB2W)
    have hIS : ItS n₀ B2 (W.heap.size + 1 + 1) U O G base k us (fun x : Nat => usersTo rs k x) wr (cntL rs k) (startL rs k) := by
     refine ⟨?_, HQA.out, HR.out, fun b hb => ?_⟩
     ·
      have := HO.out
      simpa using this
     ·
      rw [hpt0] at hb
      obtain ⟨h1, h2⟩ := HP0.out b hb
      have hqp := HQA.out.pt
      exact ⟨h1, Nat.lt_of_lt_of_le h2 HB.out.size, fun hr => by have := (hIC.rb b hr).1; omega, by omega, by omega, fun e => by have := (hqp b e.symm).1; omega⟩
    have hJ1 : J [] wr := HJ.out _ _ _ HJ0.out ⟨HB.out.os, HB.out.tape, HB.out.output, HB.out.size, fun b hb h => by
     rcases h with h | h
     · exact HB.out.block b h
     · exact HB.out.block b (HP0.out b h.symm).2⟩
    have hcb : ∀ c ∈ cntL rs k, -(1000 * ((([] : List Int)).length : Int)) ≤ c ∧ c ≤ 1000 := by
     intro c hcc
     unfold cntL at hcc
     obtain ⟨y, hy, rfl⟩ := List.mem_map.1 hcc
     have := needOf_len (rs := rs) (n := k) (x := (y : Int)) (fun z hz => HIN.out _ z hz)
     simp
     omega
    have HIC := Lib.hid hIC
    have HIS0 := Lib.hid hIS
    have HJ1 := Lib.hid hJ1
    have HCB0 := Lib.hid hcb
    have hWX : W.heap.size ≤ wr.heap.size := HB.out.size
    clear hIC hpt0 hIS hJ1 hcb HO HQA HR HB HQ hk hlt HRB HRB2 HNO HBG HGW HIN HP0
    obtain ⟨wy, rfl⟩ : ∃ q, q = wr := ⟨_, rfl⟩
    go_loopg [46] k (fun q _ wr => ∃ (o h pre : List Int) (fuel : Nat), q = pot o h ∧ o.length = k ∧ ItS n₀ B2 (W.heap.size + 1 + 1) U O G base k us (fun x : Nat => usersTo rs k x) wr o h ∧ J pre wr ∧ W.heap.size ≤ wr.heap.size ∧ (∀ y ∈ h, 0 ≤ y ∧ y < k) ∧ pre.length + pot o h ≤ k ∧ pot o h ≤ fuel ∧ pre ++ orderGo (fun x : Nat => usersTo rs k x) fuel o h = orderL rs k ∧ (∀ c ∈ o, -(1000 * (pre.length : Int)) ≤ c ∧ c ≤ 1000))
    case atStart => exact ⟨cntL rs k, startL rs k, [], k + 1, (start_pot rs k).symm, cntL_len rs k, HIS0.out, HJ1.out, hWX, fun y hy => startL_mem hy, by rw [start_pot]; simp, by rw [start_pot]; omega, (orderL_eq rs k).symm, HCB0.out⟩
    case round =>
     clear HIS0 HJ1 HCB0 hWX
     obtain ⟨o, h, pre, fuel, hq, hol, his, hj, hWX, hhm, hpl, hpf, hgo, hcb⟩ := hrel
     have HQ := Lib.hid hq
     have HOL := Lib.hid hol
     have HIS := Lib.hid his
     have HJP := Lib.hid hj
     have HHM := Lib.hid hhm
     have HPL := Lib.hid hpl
     have HPF := Lib.hid hpf
     have HGO := Lib.hid hgo
     have HCB := Lib.hid hcb
     have hhl : h.length ≤ k := by unfold pot at hpl; omega
     clear hq hol his hj hhm hpl hpf hgo hcb
     by_cases hpos : 0 < h.length
     case neg =>
      obtain rfl : h = [] := List.eq_nil_of_length_eq_zero (by omega)
      have HF : Hid (pre = orderL rs k) := Lib.hid (by have := HGO.out; rw [orderGo_nil, List.append_nil] at this; exact this)
      have hvf : ∃ A c, Blk wr G 212 #[.slice A 0 c] := by
       obtain ⟨v, h1, h2, _⟩ := HIS.out.q
       rcases h2.2 with ⟨rfl, _⟩ | ⟨g, cap, cur, rfl, _⟩
       · exact ⟨_, _, h1⟩
       · exact ⟨_, _, h1⟩
      obtain ⟨A, c, hkb⟩ := hvf
      have c0 := hkb.cell 0
      have lG := hkb.lt
      simp only [List.getElem?_toArray, List.getElem?_cons_zero] at c0
      clear hkb
      go_wp2_with (go_at_call 149; refine (len_any _ _ _ _).mono ?_; rintro e w2 ⟨rfl, rfl⟩)
      go_end0
      exact ⟨⟨_, rfl⟩, pre, HF.out, HJP.out⟩
     obtain ⟨g, cap, hbg2, hGb2, hbs2, hkb, hown⟩ := HIS.out.q.form hpos
     have c0 := hkb.cell 0
     have lG := hkb.lt
     simp only [List.getElem?_toArray, List.getElem?_cons_zero] at c0
     have hhl1 : (0 : Int) < (h.length : Int) := by omega
     have hhl2 : h.length ≤ 1000000 := by omega
     obtain ⟨x, hx⟩ : ∃ x, (popL h).getD (h.length - 1) 0 = x := ⟨_, rfl⟩
     obtain ⟨h1, hh1⟩ : ∃ h1, (popL h).take (h.length - 1) = h1 := ⟨_, rfl⟩
     have HX1 := Lib.hid hx
     have HH1 := Lib.hid hh1
     have hpc := heapPop_any base G h wr HIS.out.q hpos hhl2
     rw [hx, hh1] at hpc
     have hxm : 0 ≤ x ∧ x < k := HHM.out x (popL_mem hpos (by rw [← hx]; exact getD_mem (by rw [popL_length]; omega)))
     have hhm1 : ∀ y ∈ h1, 0 ≤ y ∧ y < k := fun y hy => HHM.out y (popL_mem hpos (List.mem_of_mem_take (by rw [hh1]; exact hy)))
     have hl1 : h1.length = h.length - 1 := by rw [← hh1, List.length_take, popL_length]; omega
     have HHM1 := Lib.hid hhm1
     have HL1 := Lib.hid hl1
     have HPC := Lib.hid hpc
     have hta := assertInt x
     clear hkb hown hx hh1 hpc hhm1 hl1
     go_upto_region 11 with (first
      | (go_at_call 149; refine (len_any _ _ _ _).mono ?_; rintro e w2 ⟨rfl, rfl⟩)
      | (go_at_call 150; refine HPC.out.mono ?_))
     first | rintro e w1 rfl hq1 hk1 | rintro e w1 ⟨rfl, hq1, hk1⟩
     obtain ⟨hs1, hof1⟩ := HIS.out.kept HIC.out hk1 hq1
     have hj1 := HJ.out _ _ _ HJP.out hof1
     have hWX1 : W.heap.size ≤ w1.heap.size := Nat.le_trans hWX hk1.size
     obtain ⟨fn, tmps, assign, body, hy, hR⟩ := HY.out pre x w1 hj1 (by have := HPL.out; unfold pot at this; omega)
     have HS1 := Lib.hid hs1
     have HR := Lib.hid hR
     clear hq1 hk1 hs1 hof1 hj1 hR
     go_upto_region 11 with fail
     refine (wpIn_wide (n := m)).1 ?_
     gi_wp2
     refine ⟨(fun h => by cases h), HR.out.mono ?_⟩
     rintro e w2 ⟨rfl, hj2, hkp⟩
     have hs2 := HS1.out.round HIC.out hkp hnW hWX1
     have HWX2 : Hid (W.heap.size ≤ w2.heap.size) := Lib.hid (Nat.le_trans hWX1 hkp.size)
     have HJ2 := Lib.hid hj2
     have HS2 := Lib.hid hs2
     obtain ⟨xn, rfl⟩ : ∃ xn : Nat, x = xn := ⟨x.toNat, by omega⟩
     have hxk : xn < k := by omega
     have hx0 : (0 : Int) ≤ (xn : Int) := by omega
     have hx1 : (xn : Int) < (k : Int) := by omega
     have hxl : xn < us.length := by rw [hs2.rows.len]; exact hxk
     obtain ⟨v, hv⟩ : ∃ v, us[xn]? = some v := ⟨_, List.getElem?_eq_getElem hxl⟩
     have hrow := (hs2.rows.row xn v hv).1
     have hcell := hs2.rows.blk.cell xn
     rw [List.getElem?_toArray, hv] at hcell
     have hul := usersTo_len rs k xn
     have hvf : ∃ A c, v = .slice A (usersTo rs k xn).length c := by
      rcases hrow.2 with ⟨rfl, h0⟩ | ⟨g, cap, cur, rfl, _⟩
      · exact ⟨_, _, by rw [h0]⟩
      · exact ⟨_, _, rfl⟩
     obtain ⟨A, c, rfl⟩ := hvf
     obtain ⟨L, hL⟩ : ∃ L, usersTo rs k xn = L := ⟨_, rfl⟩
     have HL := Lib.hid hL
     have HV := Lib.hid hv
     rw [hL] at hul hcell
     have hLn : L.length ≤ 1000 := by omega
     have HLM : Hid (∀ y ∈ L, 0 ≤ y ∧ y < k) := Lib.hid (fun y hy => usersTo_mem (rs := rs) (k := k) (x := xn) (by rw [hL]; exact hy))
     clear hj2 hkp hs2 hrow hv hL hy hxl
     gi_wp2
     go_wp2_with fail
     clear hcell
     obtain ⟨wz, rfl⟩ : ∃ q, q = wr := ⟨_, rfl⟩
     go_loopg [68] L.length (fun q i wr => ∃ (j : Nat) (o2 h2 : List Int), j ≤ L.length ∧ q = L.length - j ∧ i = .int .i64 j ∧ (L.take j).foldl useL (o, h1) = (o2, h2) ∧ o2.length = k ∧ ItS n₀ B2 (W.heap.size + 1 + 1) U O G base k us (fun x : Nat => usersTo rs k x) wr o2 h2 ∧ J (pre ++ [(xn : Int)]) wr ∧ W.heap.size ≤ wr.heap.size ∧ (∀ y ∈ h2, 0 ≤ y ∧ y < k) ∧ pot o2 h2 ≤ pot o h1 ∧ (∀ c ∈ o2, -(1000 * (pre.length : Int)) - j ≤ c ∧ c ≤ 1000))
     case atStart => exact ⟨0, o, h1, Nat.zero_le _, rfl, rfl, rfl, HOL.out, HS2.out, HJ2.out, HWX2.out, HHM1.out, Nat.le_refl _, fun c hc => by have := HCB.out c hc; simp; omega⟩
     case round =>
      clear HS2 HJ2 HWX2
      obtain ⟨j, o2, h2, hj, hq, rfl, hf, hol2, hs, hjp, hWX2, hhm2, hpo, hcb2⟩ := hrel
      have HQ2 := Lib.hid hq
      have HF := Lib.hid hf
      have HOL2 := Lib.hid hol2
      have HS := Lib.hid hs
      have HJP2 := Lib.hid hjp
      have HHM2 := Lib.hid hhm2
      have HPO := Lib.hid hpo
      have HCB2 := Lib.hid hcb2
      have HWX2 := Lib.hid hWX2
      clear hq hf hjp hhm2 hpo hcb2 hWX2
      by_cases hlt : j < L.length
      case neg =>
       have HFE : Hid (L.foldl useL (o, h1) = (o2, h2)) := Lib.hid (by have := HF.out; rw [List.take_of_length_le (by omega)] at this; exact this)
       have HGO2 : Hid (∃ f', fuel = f' + 1 ∧ (pre ++ [(xn : Int)]) ++ orderGo (fun x : Nat => usersTo rs k x) f' o2 h2 = orderL rs k) := Lib.hid (by
        have hpf := HPF.out
        obtain ⟨f', rfl⟩ : ∃ f', fuel = f' + 1 := ⟨fuel - 1, by unfold pot at hpf; omega⟩
        refine ⟨f', rfl, ?_⟩
        have := HGO.out
        rw [orderGo_cons hpos] at this
        rw [HX1.out, HH1.out] at this
        simp only [Int.toNat_natCast] at this
        rw [HL.out, HFE.out] at this
        simpa using this)
       clear hs hol2
       go_wp2_with fail
       go_roundg (pot o2 h2)
       case measure =>
        have h1' := HQ.out
        have h2' := HPO.out
        have h3' := HL1.out
        rw [h1']
        unfold pot at h2' ⊢
        omega
       case rel =>
        obtain ⟨f', hf1, hgo2⟩ := HGO2.out
        have hp1 := HPL.out
        have hp2 := HPF.out
        have hp3 := HPO.out
        have hp4 := HL1.out
        exact ⟨o2, h2, pre ++ [(xn : Int)], f', rfl, HOL2.out, HS.out, HJP2.out, HWX2.out, HHM2.out, by simp; unfold pot at hp1 hp3 ⊢; omega, by unfold pot at hp2 hp3 ⊢; omega, hgo2, fun c hc => by have := HCB2.out c hc; simp; omega⟩
      obtain ⟨u, hu⟩ : ∃ u, L[j]? = some u := ⟨_, List.getElem?_eq_getElem hlt⟩
      have hum := HLM.out u (List.mem_of_getElem? hu)
      obtain ⟨un, rfl⟩ : ∃ un : Nat, u = un := ⟨u.toNat, by omega⟩
      have hrow := (hs.rows.row xn _ HV.out).1
      rw [HL.out] at hrow
      obtain ⟨rg, rcap, hre⟩ := Joins.ownsRow_form hrow (by omega)
      injection hre with hA _ hc2
      subst hA
      subst hc2
      have hcj := hrow.cellAt j (by omega)
      rw [List.getElem?_map, hu] at hcj
      have hcj : wr.cell? ⟨rg, j, none⟩ = some (.int .i64 un) := hcj
      have hul2 : un < o2.length := by rw [hol2]; omega
      obtain ⟨ov, hov⟩ : ∃ ov, o2[un]? = some ov := ⟨_, List.getElem?_eq_getElem hul2⟩
      have hco := hs.op.cell un
      rw [List.getElem?_toArray, List.getElem?_map, hov] at hco
      have hco : wr.cell? ⟨O, un, none⟩ = some (.int .i64 ov) := hco
      have hfo := hs.op.frozen un
      have hovb := HCB2.out ov (List.mem_of_getElem? hov)
      have hprl : pre.length ≤ 1000 := by have := HPL.out; omega
      have e1 : IntKind.i64.wrap (ov - 1) = ov - 1 := IntWalk.i64_in _ (by omega)
      have hu0 : (0 : Int) ≤ (un : Int) := by omega
      have hu1 : (un : Int) < (k : Int) := by omega
      have hj0 : (0 : Int) ≤ (j : Int) := by omega
      have hj1 : (j : Int) < (L.length : Int) := by omega
      have lrg := (hrow.lt rg rfl).2
      have lO := hs.op.lt
      obtain ⟨hsp, hofp⟩ := hs.put HIC.out un (ov - 1)
      have HSP := Lib.hid hsp
      have HJP3 := Lib.hid (HJ.out _ _ _ HJP2.out hofp)
      have HWX3 : Hid (W.heap.size ≤ (wr.setCell ⟨O, un, none⟩ (.int .i64 (ov - 1))).heap.size) := Lib.hid (Nat.le_trans HWX2.out hofp.size)
      have hgd : o2.getD un 0 = ov := by rw [List.getD_eq_getElem?_getD, hov]; rfl
      have HUL : Hid (useL (o2, h2) (un : Int) = (o2.set un (ov - 1), if ov - 1 = 0 then pushL h2 un else h2)) := Lib.hid (by
       unfold useL
       simp only [Int.toNat_natCast, hgd]
       have : (o2.set un (ov - 1)).getD un 0 = ov - 1 := by rw [List.getD_eq_getElem?_getD, List.getElem?_set_self hul2]; rfl
       rw [this])
      have HPU : Hid (pot (useL (o2, h2) (un : Int)).1 (useL (o2, h2) (un : Int)).2 ≤ pot o2 h2) := Lib.hid (useL_pot (by simpa using hul2))
      have HF2 : Hid ((L.take (j + 1)).foldl useL (o, h1) = useL (o2, h2) (un : Int)) := Lib.hid (by rw [take_snoc hu, List.foldl_append, HF.out]; rfl)
      have HCB3 : Hid (∀ c ∈ o2.set un (ov - 1), -(1000 * (pre.length : Int)) - ((j + 1 : Nat) : Int) ≤ c ∧ c ≤ 1000) := Lib.hid (fun c hc => by
       rcases List.mem_or_eq_of_mem_set hc with hc | rfl
       · have := HCB2.out c hc; omega
       · omega)
      have hh2 : h2.length < 1000000 := by
       have h1' := HPO.out
       have h2' := HPL.out
       have h3' := HL1.out
       unfold pot at h1' h2'
       omega
      have HUM : Hid ((0 : Int) ≤ (un : Int) ∧ (un : Int) < k) := Lib.hid hum
      clear hrow hs hol2 hu hum hov hovb hsp hofp hgd hprl hul2
      by_cases hz : ov - 1 = 0
      ·
       have hov1 : ov = 1 := by omega
       subst hov1
       have e3 : (1 : Int) - 1 = 0 := by decide
       simp only [e3] at HSP HJP3 HWX3 HUL HCB3
       rw [if_pos trivial] at HUL
       clear e1 hz
       go_wp2_with (go_at_call 148; refine (heapPush_any base G h2 un _ HSP.out.q hh2).mono ?_)
       first | rintro e w3 u rfl hq3 hk3 | rintro e w3 ⟨⟨u, rfl⟩, hq3, hk3⟩
       obtain ⟨hs3, hof3⟩ := HSP.out.kept HIC.out hk3 hq3
       have HS3 := Lib.hid hs3
       have HJP4 := Lib.hid (HJ.out _ _ _ HJP3.out hof3)
       have HWX4 : Hid (W.heap.size ≤ w3.heap.size) := Lib.hid (Nat.le_trans HWX3.out hof3.size)
       have HHM3 : Hid (∀ y ∈ pushL h2 (un : Int), 0 ≤ y ∧ y < k) := Lib.hid (fun y hy => by
        rcases pushL_mem hy with hy | rfl
        · exact HHM2.out y hy
        · exact HUM.out)
       clear hq3 hk3 hs3 hof3 hco hfo hcj
       go_wp2_with fail
       go_roundg (L.length - (j + 1))
       case measure => have := HQ2.out; omega
       case rel =>
        have hpu := HPU.out
        rw [HUL.out] at hpu
        exact ⟨j + 1, _, _, by omega, rfl, by go_num, by rw [HF2.out, HUL.out], by rw [List.length_set]; exact HOL2.out, HS3.out, HJP4.out, HWX4.out, HHM3.out, Nat.le_trans hpu HPO.out, HCB3.out⟩
      ·
       rw [if_neg hz] at HUL
       go_wp2_with fail
       go_roundg (L.length - (j + 1))
       case measure => have := HQ2.out; omega
       case rel =>
        have hpu := HPU.out
        rw [HUL.out] at hpu
        exact ⟨j + 1, _, _, by omega, rfl, by go_num, by rw [HF2.out, HUL.out], by rw [List.length_set]; exact HOL2.out, HSP.out, HJP3.out, HWX3.out, HHM2.out, Nat.le_trans hpu HPO.out, HCB3.out⟩
   have hkn : (k : Int) < (n : Int) := by omega
   have hk0 : (0 : Int) ≤ (k : Int) := by omega
   have kbg := HBG.out.below HB.out lb
   have b0 := kbg.cell 0
   have b1 := kbg.cell 1
   simp only [List.getElem?_toArray, List.getElem?_cons_zero, List.getElem?_cons_succ] at b0 b1
   have hck := HO.out.cell k
   have hfk := HO.out.frozen k
   have hke : ((cntL rs k ++ List.replicate (n - k) 0).map (Value.int .i64))[k]? = some (.int .i64 0) := by
    rw [List.getElem?_map, List.getElem?_append_right (by rw [cntL_len]; omega), cntL_len, Nat.sub_self, List.getElem?_replicate, if_pos (by omega)]
    rfl
   rw [List.getElem?_toArray, hke] at hck
   have hG2 := HGW.out.below HB.out
   have hlook := run_lookup_m (keyEq_int Tryz.underlying3) Tryz.underlying126 (z := .map none) (by kernel_rfl) hG2.out (k : Int) false
   have HLV : Hid (∃ v, (Instr.lookup 126 (.map (some M)) (.int .i64 k) false).run Tryz.prog wr = .ok v wr ∧ ∀ ty, (Builtin.len_ #[123] ty #[v]).run Tryz.prog wr = .ok (.int .i64 (needOf rs k).length) wr) := Lib.hid (by
    cases hm : getM hs (k : Int) with
    |
     none =>
     rw [hm] at hlook
     refine ⟨_, hlook, fun ty => ?_⟩
     have := lenNil wr ty
     rw [hG2.rest _ (getM_none.1 hm)]
     exact this
    |
     some b =>
     rw [hm] at hlook
     refine ⟨_, hlook, fun ty => ?_⟩
     have := lenMap (hG2.ins _ (getM_mem hm)).2.2 ty
     rw [show (seenM (needOf rs (k : Int))).length = (needOf rs (k : Int)).length by simp [seenM]] at this
     exact this)
   obtain ⟨v, hlv, hlenv⟩ := HLV.out
   obtain ⟨c, hc⟩ : ∃ c, (needOf rs (k : Int)).length = c := ⟨_, rfl⟩
   have HC := Lib.hid hc
   rw [hc] at hlenv
   clear hG2 hlook kbg hke hc
   have HO2 : Hid (Blk (wr.setCell ⟨O, k, none⟩ (.int .i64 c)) O 3 (((cntL rs (k + 1) ++ List.replicate (n - (k + 1)) 0).map (Value.int .i64)).toArray)) := Lib.hid (by
    have := HO.out.put k (.int .i64 c)
    have he : (((cntL rs k ++ List.replicate (n - k) 0).map (Value.int .i64)).toArray).setIfInBounds k (.int .i64 c) = (((cntL rs (k + 1) ++ List.replicate (n - (k + 1)) 0).map (Value.int .i64)).toArray) := by
     rw [List.setIfInBounds_toArray, ← List.map_set, cntL_succ, HC.out]
     congr 2
     rw [List.set_append_right _ _ (by rw [cntL_len]; omega), cntL_len, Nat.sub_self, show n - k = (n - (k + 1)) + 1 by omega, List.replicate_succ, List.set_cons_zero]
     simp
    rw [he] at this
    exact this)
   have HQ2 : Hid (QAt (wr.setCell ⟨O, k, none⟩ (.int .i64 c)) base G (startL rs k)) := Lib.hid (HQA.out.put hOb hOG _ _)
   have HR2 : Hid (RowsAt (wr.setCell ⟨O, k, none⟩ (.int .i64 c)) (W.heap.size + 1 + 1) U n us (fun x : Nat => usersTo rs n x)) := Lib.hid (HR.out.keep (fun b hb => Below.heap_setCell _ _ _ b (HRB2.out b hb).2.2.1))
   have HB2 : Hid (Below W.heap.size W (wr.setCell ⟨O, k, none⟩ (.int .i64 c))) := Lib.hid (HB.out.setCell (show W.heap.size ≤ O from hOge) _)
   have hsl : (startL rs k).length ≤ k := by
    have := start_pot rs k
    unfold pot at this
    omega
   by_cases hc0 : c = 0
   ·
    subst hc0
    have HS : Hid (startL rs (k + 1) = pushL (startL rs k) k) := Lib.hid (by rw [startL_succ, if_pos HC.out])
    go_wp2_with (go_at_call 148; refine (heapPush_any base G (startL rs k) k _ HQ2.out (by omega)).mono ?_)
    first | rintro e w2 u rfl hq2 hk2 | rintro e w2 ⟨⟨u, rfl⟩, hq2, hk2⟩
    have HO3 : Hid (Blk w2 O 3 (((cntL rs (k + 1) ++ List.replicate (n - (k + 1)) 0).map (Value.int .i64)).toArray)) := Lib.hid ((hk2.low HQ2.out hOb hOG).trans HO2.out)
    have HR3 := Lib.hid (HR2.out.keep (fun b hb => hk2.low HQ2.out (HRB2.out b hb).2.1 (HRB2.out b hb).2.2.2))
    have HB3 : Hid (Below W.heap.size W w2) := Lib.hid (HB2.out.trans (hk2.below HQ2.out hGW))
    rw [← HS.out] at hq2
    have HQ3 := Lib.hid hq2
    clear hq2 hk2 hlv hlenv
    go_wp2_with fail
    go_roundg (n - (k + 1))
    case measure => have := HQ.out; omega
    case rel => exact ⟨k + 1, by omega, rfl, by go_num, HO3.out, HQ3.out, HR3.out, HB3.out⟩
   ·
    have hcz : ¬ (c : Int) = 0 := by omega
    have HS : Hid (startL rs (k + 1) = startL rs k) := Lib.hid (by rw [startL_succ, if_neg (by rw [HC.out]; exact hc0)])
    go_wp2_with fail
    go_roundg (n - (k + 1))
    case measure => have := HQ.out; omega
    case rel => exact ⟨k + 1, by omega, rfl, by go_num, HO2.out, by rw [HS.out]; exact HQ2.out, HR2.out, HB2.out⟩
end Go.Proofs.YtkgmonplcdnnbaaGreat
