/- Claims that grow by a field and a value at a time: their box, their two rows, in every order in which the two may grow. No walk. -/
import Derived.Test.YtkgmonplcdnnbaaGreatPm38
import Derived.OneCell
import Derived.Test.YtkgmonplcdnnbaaGreatPm23
namespace Go.Proofs.YtkgmonplcdnnbaaGreat
open Go.RowKit Go.Shelf
structure MoreQ (gm B : Nat) (w0 : World) (sc : Int) (cu cv u v : Value) (M V : List Int) (W : World) : Prop where
 gmB : gm < B
 g0 : w0.heap.size ≤ gm
 size : B ≤ W.heap.size
 old : Below w0.heap.size w0 W
 blk : Blk W gm 42 #[.int .i64 sc, cu, cv]
 ru : W.ownsRow B 3 1 u M.length (M.map (Value.int .i64))
 rv : W.ownsRow B 3 1 v V.length (V.map (Value.int .i64))
 apart : ∀ g, u.ownBlock = some g → v.ownBlock ≠ some g
theorem more_start (w : World) (sc : Int) : MoreQ w.heap.size (w.heap.size + 1) w sc (.slice none 0 0) (.slice none 0 0) (.slice none 0 0) (.slice none 0 0) [] [] (w.alloc (.cells #[.int .i64 sc, .slice none 0 0, .slice none 0 0] 42)) where
 gmB := by omega
 g0 := Nat.le_refl _
 size := by simp
 old := (Below.refl _ _).alloc (Nat.le_refl _) _
 blk := Blk.new _ _ _
 ru := World.ownsRow_nil _ _ _ _
 rv := World.ownsRow_nil _ _ _ _
 apart := fun g h => by cases h
section
variable {gm B : Nat} {w0 : World} {sc : Int} {cu cv u v : Value} {M V : List Int} {W W2 : World}
theorem MoreQ.drew (h : MoreQ gm B w0 sc cu cv u v M V W) : MoreQ gm B w0 sc cu cv u v M V W.drew := ⟨h.gmB, h.g0, h.size, h.old.drew, h.blk, h.ru, h.rv, h.apart⟩
theorem MoreQ.drewN (h : MoreQ gm B w0 sc cu cv u v M V W) (n : Nat) : MoreQ gm B w0 sc cu cv u v M V (W.drewN n) := ⟨h.gmB, h.g0, h.size, below_drewN h.old n, h.blk, h.ru, h.rv, h.apart⟩
theorem MoreQ.alloc (h : MoreQ gm B w0 sc cu cv u v M V W) (o : Obj) : MoreQ gm B w0 sc cu cv u v M V (W.alloc o) :=
 ⟨h.gmB, h.g0, Nat.le_trans h.size (by simp), h.old.alloc h.old.size _, h.blk.alloc _, h.ru.alloc _, h.rv.alloc _, h.apart⟩
theorem MoreQ.growU (h : MoreQ gm B w0 sc cu cv u v M V W) {x : Int} {u' : Value} (ho : W2.ownsRow B 3 1 u' (M.length + 1) (M.map (Value.int .i64) ++ [.int .i64 x])) (hg : W.grownBy W2 u.ownBlock) (hat : u'.ownBlock = u.ownBlock ∨ u'.ownBlock = some W.heap.size) :
 MoreQ gm B w0 sc cu cv u' v (M ++ [x]) V W2 := by
 have hru := h.ru.lt
 have hrv := h.rv.lt
 have hsz := h.size
 have h1 := h.gmB
 have h0 := h.g0
 have n1 : some gm ≠ u.ownBlock := fun e => by have := hru _ e.symm; omega
 refine ⟨h.gmB, h.g0, Nat.le_trans h.size hg.size, h.old.grown hg h.old.size (fun k e => by have := hru k e; omega), h.blk.grown hg n1, ?_, h.rv.kept hg ?_, ?_⟩
 ·
  rw [List.map_append, List.length_append]
  exact ho
 ·
  cases hb : v.ownBlock with
  | none => exact .inl rfl
  | some g => right; intro e; exact h.apart g e.symm hb
 ·
  intro g hg' hb
  rcases hat with hh | hh
  · exact h.apart g (hh ▸ hg') hb
  ·
   rw [hg'] at hh
   injection hh with hh
   have := hrv g hb
   omega
theorem MoreQ.growV (h : MoreQ gm B w0 sc cu cv u v M V W) {y : Int} {v' : Value} (ho : W2.ownsRow B 3 1 v' (V.length + 1) (V.map (Value.int .i64) ++ [.int .i64 y])) (hg : W.grownBy W2 v.ownBlock) (hat : v'.ownBlock = v.ownBlock ∨ v'.ownBlock = some W.heap.size) :
 MoreQ gm B w0 sc cu cv u v' M (V ++ [y]) W2 := by
 have hru := h.ru.lt
 have hrv := h.rv.lt
 have hsz := h.size
 have h1 := h.gmB
 have h0 := h.g0
 have n1 : some gm ≠ v.ownBlock := fun e => by have := hrv _ e.symm; omega
 refine ⟨h.gmB, h.g0, Nat.le_trans h.size hg.size, h.old.grown hg h.old.size (fun k e => by have := hrv k e; omega), h.blk.grown hg n1, h.ru.kept hg ?_, ?_, ?_⟩
 ·
  cases hb : u.ownBlock with
  | none => exact .inl rfl
  | some g => right; intro e; exact h.apart g hb e.symm
 ·
  rw [List.map_append, List.length_append]
  exact ho
 ·
  intro g hg' hb
  rcases hat with hh | hh
  · exact h.apart g hg' (hh ▸ hb)
  ·
   rw [hb] at hh
   injection hh with hh
   have := hru g hg'
   omega
theorem MoreQ.put (h : MoreQ gm B w0 sc cu cv u v M V W) : MoreQ gm B w0 sc u v u v M V ((W.setCell ⟨gm, 1, none⟩ u).setCell ⟨gm, 2, none⟩ v) := by
 have hru := h.ru.lt
 have hrv := h.rv.lt
 have h1 := h.gmB
 have h0 := h.g0
 have n1 : u.ownBlock ≠ some gm := fun e => by have := hru _ e; omega
 have n2 : v.ownBlock ≠ some gm := fun e => by have := hrv _ e; omega
 refine ⟨h.gmB, h.g0, by simpa [World.setCell] using h.size, (h.old.setCell (by simpa using h0) _).setCell (by simpa using h0) _, ?_, ?_, ?_, h.apart⟩
 ·
  have := (h.blk.put 1 u).put 2 v
  simpa using this
 · exact ownsRow_setCell_other (ownsRow_setCell_other h.ru (a := ⟨gm, 1, none⟩) n1 u) (a := ⟨gm, 2, none⟩) n1 v
 · exact ownsRow_setCell_other (ownsRow_setCell_other h.rv (a := ⟨gm, 1, none⟩) n2 u) (a := ⟨gm, 2, none⟩) n2 v
theorem MoreQ.at_ (h : MoreQ gm B w0 sc cu cv u v M V W) : gm < W.heap.size ∧ W.cell? ⟨gm, 1, none⟩ = some cu ∧ W.cell? ⟨gm, 2, none⟩ = some cv ∧ W.frozen? ⟨gm, 1, none⟩ = false ∧ W.frozen? ⟨gm, 2, none⟩ = false :=
 ⟨h.blk.lt, h.blk.cell 1, h.blk.cell 2, h.blk.frozen 1, h.blk.frozen 2⟩
end
theorem own_formM {w : World} {base : Nat} {e : TypeId} {sz : Nat} {v : Value} {n : Nat} {cs : List Value} (h : w.ownsRow base e sz v n cs) : ∃ A c, v = .slice A n c := by
 rcases h.2 with ⟨rfl, rfl⟩ | ⟨g, cap, cur, rfl, _⟩
 · exact ⟨_, _, rfl⟩
 · exact ⟨_, _, rfl⟩
theorem cell_new {w : World} {g : Nat} {t : TypeId} {x : Value} (h : Blk w g t #[x]) (j : Nat) (u : Value) (hu : [x][j]? = some u) : w.cell? ((⟨g, 0, none⟩ : Addr).add j) = some u := by
 rcases j with _ | j
 ·
  simp only [List.getElem?_cons_zero, Option.some.injEq] at hu
  subst hu
  simpa [Addr.add] using h.cell 0
 · simp at hu
section
variable {gm B : Nat} {w0 : World} {sc : Int} {cu cv u v : Value} {M V : List Int} {W : World} {ops : Array Oper} {o : Oper} {a : Act} {K : Act → World → Prop} {Q : Exit → Act → World → Prop} {E : Prop}
theorem MoreQ.stepU (h : MoreQ gm B w0 sc cu cv u v M V W) (hM : M.length ≤ 30) (hgd : o.guard = none) (s x : Operand) (ho : o.op = .call { callee := .builtin .append, args := #[s, x], argTypes := #[30, 30] }) (hs : a.eval s = u) (g : Nat) (val : Int) (hx : a.eval x = .slice (some ⟨g, 0, none⟩) 1 1) (hc : Blk W g 3 #[.int .i64 val])
 (hK : ∀ A c W2, MoreQ gm B w0 sc cu cv (.slice A (M.length + 1) c) v (M ++ [val]) V W2 → W.grownBy W2 u.ownBlock → K (a.put o.dst (.slice A (M.length + 1) c)) W2) :
 if Region.wanted o (yielded ops a.tmps) = true then Oper.wp Tryz.prog o a W K Q else E := by
 obtain ⟨j1, hj, hjz0, hjz1, hjz2⟩ := info_parts Tryz.infoIntW
 refine step_append_own_at W hgd s x 30 ho B 3 j1 _ 1 8 Tryz.underlying30 hj hjz0 hjz1 hjz2 rfl (by decide) u M.length (M.map (Value.int .i64)) hs h.ru ⟨g, 0, none⟩ 1 1 [.int .i64 val] hx rfl (cell_new hc) (by intro z hz; simp only [List.mem_cons, List.not_mem_nil, or_false] at hz; subst hz; rfl) (by unfold maxLen; omega) (by omega) h.size ?_
 intro u' W2 hown hg hat
 obtain ⟨A, c, rfl⟩ := own_formM hown
 exact hK A c W2 (h.growU hown hg hat) hg
theorem MoreQ.stepV (h : MoreQ gm B w0 sc cu cv u v M V W) (hV : V.length ≤ 30) (hgd : o.guard = none) (s x : Operand) (ho : o.op = .call { callee := .builtin .append, args := #[s, x], argTypes := #[30, 30] }) (hs : a.eval s = v) (g : Nat) (val : Int) (hx : a.eval x = .slice (some ⟨g, 0, none⟩) 1 1) (hc : Blk W g 3 #[.int .i64 val])
 (hK : ∀ A c W2, MoreQ gm B w0 sc cu cv u (.slice A (V.length + 1) c) M (V ++ [val]) W2 → W.grownBy W2 v.ownBlock → K (a.put o.dst (.slice A (V.length + 1) c)) W2) :
 if Region.wanted o (yielded ops a.tmps) = true then Oper.wp Tryz.prog o a W K Q else E := by
 obtain ⟨j1, hj, hjz0, hjz1, hjz2⟩ := info_parts Tryz.infoIntW
 refine step_append_own_at W hgd s x 30 ho B 3 j1 _ 1 8 Tryz.underlying30 hj hjz0 hjz1 hjz2 rfl (by decide) v V.length (V.map (Value.int .i64)) hs h.rv ⟨g, 0, none⟩ 1 1 [.int .i64 val] hx rfl (cell_new hc) (by intro z hz; simp only [List.mem_cons, List.not_mem_nil, or_false] at hz; subst hz; rfl) (by unfold maxLen; omega) (by omega) h.size ?_
 intro v' W2 hown hg hat
 obtain ⟨A, c, rfl⟩ := own_formM hown
 exact hK A c W2 (h.growV hown hg hat) hg
end
end Go.Proofs.YtkgmonplcdnnbaaGreat
