/- Where a search stands: its lists and its map, for states of any flat kind. -/
import Derived.Test.YtjckidjljkjhfaaSr
namespace Go.Proofs.Ytjckidjljkjhfaa
open Go.RowKit Go.ChangeMaps Go.Proofs.YtjckidjljkjhfaaW.PrintWords
set_option linter.unusedVariables false
/-- A kind whose cells hold no rows. -/
def flatK {σ : Type} (cellsOf : σ → List Value) (n : Nat) (hl : ∀ s, (cellsOf s).length = n) (h1 : ∀ s, ∀ u ∈ cellsOf s, u.oneCell' = true) : Kd σ where
  sz := n
  E := []
  K := fun _ x cs => cs = cellsOf x
  M := fun _ _ _ x cs => cs = cellsOf x
  K_len := fun h => by rw [h]; exact hl _
  K_one := fun h u hu => by rw [h] at hu; exact h1 _ u hu
  K_below := fun _ h => h
  K_of_M := fun h => h
  M_mono := fun _ h => h
  M_bound := fun h => h
  M_move := fun _ h => h
  M_lower := fun _ h => h
section
variable {σ : Type}
structure SS (d : Kd σ) (eT : TypeId) (enc : σ → Value) (w wr : World) (rs : Nat) (k : Int) (go gm : Nat) (v vn va : Value) (L : List σ) (N : List Nat) (Ac : List Bool) : Prop where
  res : wr.heap[rs]? = some (.cells #[.int .i64 0, .slice none 0 0, .slice none 0 0] 25 (0, 0))
  out : wr.heap[go]? = some (.cells #[.int .i64 k, vn, va] 25 (0, 0))
  mp : MapIs wr gm (nents enc L)
  lst : d.R eT wr w.heap.size (fun _ => True) v L
  nxt : Own wr w.heap.size vn (zl N)
  acc : Kd.R Kd.bool 4 wr w.heap.size (fun _ => True) va Ac
  s3 : sep v vn
  bel : Below w.heap.size w wr
  gmb : w.heap.size ≤ gm
  rsb : w.heap.size ≤ rs
  gob : rs < go
variable {d : Kd σ} {eT : TypeId} {enc : σ → Value} {w W w1 : World} {rs : Nat} {k : Int} {go gm : Nat} {v vn va v1 : Value} {L : List σ} {N : List Nat} {Ac : List Bool}
theorem SS.acc_step (h : SS d eT enc w W rs k go gm v vn va L N Ac) (hE : d.E = []) (h1 : eT ≠ 25) (h2 : eT ≠ 4) {b : Bool} (ho : Kd.R Kd.bool 4 w1 w.heap.size (fun _ => True) v1 (Ac ++ [b])) (hb : Below w.heap.size w w1) (ha : App W w1 va v1) :
    SS d eT enc w (w1.setCell ⟨go, 2, none⟩ v1) rs k go gm v vn v1 L N (Ac ++ [b]) := by
  have ho1 := ha.cells h.out h.acc (by decide)
  have hg := h.gob
  have hr := h.rsb
  refine ⟨hp_cell (by show rs ≠ go; omega) (ha.cells h.res h.acc (by decide)), ?_, ?_, ?_, ?_, ?_, h.s3, bl_cell hb (by show w.heap.size ≤ go; omega) _, h.gmb, h.rsb, h.gob⟩
  · rw [heap_setCell_same _ _ _ _ _ _ ho1]; rfl
  · exact (ha.map h.mp h.acc).of (heap_setCell_other _ _ _ _ (fun e => by
      obtain ⟨es, c, h1, _⟩ := ha.map h.mp h.acc
      simp only at e
      rw [e, ho1] at h1
      cases h1))
  · exact own_cellT ho1 (ha.own hE h.lst (sep_type h.lst h.acc h2)).1 h1 hE _ _
  · exact own_cellT ho1 (ha.own rfl h.nxt (sep_type h.nxt h.acc (by decide))).1 (by decide) rfl _ _
  · exact own_cellT ho1 ho (by decide) rfl _ _
theorem SS.nxt_step (h : SS d eT enc w W rs k go gm v vn va L N Ac) (hE : d.E = []) (h1 : eT ≠ 25) {b : Nat} (ho : Own w1 w.heap.size v1 (zl N ++ [(b : Int)])) (hb : Below w.heap.size w w1) (ha : App W w1 vn v1) :
    SS d eT enc w (w1.setCell ⟨go, 1, none⟩ v1) rs k go gm v v1 va L (N ++ [b]) Ac := by
  have ho1 := ha.cells h.out h.nxt (by decide)
  have hg := h.gob
  have hr := h.rsb
  have hl := ha.own hE h.lst h.s3
  refine ⟨hp_cell (by show rs ≠ go; omega) (ha.cells h.res h.nxt (by decide)), ?_, ?_, ?_, ?_, ?_, hl.2, bl_cell hb (by show w.heap.size ≤ go; omega) _, h.gmb, h.rsb, h.gob⟩
  · rw [heap_setCell_same _ _ _ _ _ _ ho1]; rfl
  · exact (ha.map h.mp h.nxt).of (heap_setCell_other _ _ _ _ (fun e => by
      obtain ⟨es, c, h1, _⟩ := ha.map h.mp h.nxt
      simp only at e
      rw [e, ho1] at h1
      cases h1))
  · exact own_cellT ho1 hl.1 h1 hE _ _
  · rw [zl_snoc]
    exact own_cellT ho1 ho (by decide) rfl _ _
  · exact own_cellT ho1 (ha.own rfl h.acc (sep_type h.acc h.nxt (by decide))).1 (by decide) rfl _ _
/-- A new state is numbered .. -/
theorem SS.turn (h : SS d eT enc w W rs k go gm v vn va L N Ac) (hE : d.E = []) {W2 : World} (ht : Turned W W2 gm) :
    W2.heap[rs]? = some (.cells #[.int .i64 0, .slice none 0 0, .slice none 0 0] 25 (0, 0)) ∧ W2.heap[go]? = some (.cells #[.int .i64 k, vn, va] 25 (0, 0)) ∧ d.R eT W2 w.heap.size (fun _ => True) v L ∧ Own W2 w.heap.size vn (zl N) ∧ Kd.R Kd.bool 4 W2 w.heap.size (fun _ => True) va Ac ∧ Below w.heap.size w W2 := by
  have hne : ∀ {g : Nat} {c : Array Value} {t : TypeId}, W.heap[g]? = some (.cells c t (0, 0)) → g ≠ gm := fun hg e => by
    obtain ⟨es, c, h1, _⟩ := h.mp
    rw [e, h1] at hg; cases hg
  exact ⟨(ht.block _ (hne h.res)).trans h.res, (ht.block _ (hne h.out)).trans h.out, own_turn ht h.lst (map_not h.mp h.lst) hE, own_turn ht h.nxt (map_not h.mp h.nxt) rfl, own_turn ht h.acc (map_not h.mp h.acc) rfl, ht.below h.bel h.gmb⟩
/-- .. and listed. -/
theorem SS.lst_step (h : SS d eT enc w W rs k go gm v vn va L N Ac) (hE : d.E = []) (h1 : eT ≠ 25) (h2 : eT ≠ 4) {W2 : World} {s : σ} (ht : Turned W W2 gm) (hm : MapIs W2 gm (nents enc (L ++ [s]))) (ho : d.R eT w1 w.heap.size (fun _ => True) v1 (L ++ [s])) (hb : Below w.heap.size w w1) (ha : App W2 w1 v v1) :
    SS d eT enc w w1 rs k go gm v1 vn va (L ++ [s]) N Ac := by
  obtain ⟨t2, t3, t5, t6, t7, t8⟩ := h.turn hE ht
  have hn := ha.own rfl t6 h.s3.symm
  exact ⟨ha.cells t2 t5 h1, ha.cells t3 t5 h1, ha.map hm t5, ho, hn.1, (ha.own rfl t7 (sep_type t7 t5 (Ne.symm h2))).1, hn.2.symm, hb, h.gmb, h.rsb, h.gob⟩
theorem SS.below (h : SS d eT enc w W rs k go gm v vn va L N Ac) (hb : Below W.heap.size W w1) : SS d eT enc w w1 rs k go gm v vn va L N Ac :=
  ⟨hp_below' hb h.res, hp_below' hb h.out, h.mp.below hb, Kd.R_below h.lst hb, Kd.R_below h.nxt hb, Kd.R_below h.acc hb, h.s3, bl_then h.bel hb, h.gmb, h.rsb, h.gob⟩
theorem SS.drewN (h : SS d eT enc w W rs k go gm v vn va L N Ac) (n : Nat) : SS d eT enc w (W.drewN n) rs k go gm v vn va L N Ac :=
  ⟨h.res, h.out, h.mp.of rfl, Kd.R_drewN h.lst n, Kd.R_drewN h.nxt n, Kd.R_drewN h.acc n, h.s3, bl_drewN h.bel n, h.gmb, h.rsb, h.gob⟩
theorem SS.drew (h : SS d eT enc w W rs k go gm v vn va L N Ac) : SS d eT enc w W.drew rs k go gm v vn va L N Ac := h.drewN 1
end
section
variable {σ : Type} [DecidableEq σ]
/-- Which of the first places are looked for. -/
def sac (k : Nat) (step : σ → Nat → σ) (first : σ) (good : σ → Bool) (i m : Nat) : List Bool := ((bs k step first m).take i).map good
theorem sac_keep {k : Nat} {step : σ → Nat → σ} {first : σ} (good : σ → Bool) {i m m' : Nat} (h : m ≤ m') (hk : i ≤ (bs k step first m).length) : sac k step first good i m' = sac k step first good i m := by
  obtain ⟨r, hr⟩ := bw_more (k := k) (step := step) (first := first) m (m' - m)
  rw [show m + (m' - m) = m' by omega] at hr
  have : bs k step first m' = bs k step first m ++ r.map (rn step first) := by unfold bs; rw [hr, List.map_append]
  unfold sac
  rw [this, List.take_append_of_le_length hk]
theorem sac_next {k : Nat} {step : σ → Nat → σ} {first : σ} (good : σ → Bool) {i m : Nat} {s : σ} (hs : (bs k step first m)[i]? = some s) : sac k step first good (i + 1) m = sac k step first good i m ++ [good s] := by
  obtain ⟨hk, rfl⟩ := List.getElem?_eq_some_iff.1 hs
  unfold sac
  rw [List.take_succ_eq_append_getElem hk, List.map_append]
  rfl
theorem nx_le' {k : Nat} {step : σ → Nat → σ} {first : σ} (m : Nat) : (nx k step first m).length ≤ m := by
  induction m with
  | zero => exact Nat.le_refl _
  | succ m ih =>
    rw [nx]
    split
    · omega
    · rw [List.length_append, List.length_singleton]; omega
theorem idxOf_last' {L : List σ} {t : σ} (h : t ∉ L) : (L ++ [t]).idxOf t = L.length := by
  rw [List.idxOf_append, if_neg h]; simp
theorem bs_old {k : Nat} {step : σ → Nat → σ} {first : σ} {i c : Nat} {s : σ} (hc : c < k) (hi : (bs k step first (i * k + c))[i]? = some s) (h : step s c ∈ bs k step first (i * k + c)) : bs k step first (i * k + (c + 1)) = bs k step first (i * k + c) ∧ nx k step first (i * k + (c + 1)) = nx k step first (i * k + c) ++ [(bs k step first (i * k + c)).idxOf (step s c)] := by
  have e1 : (i * k + c) / k = i := by rw [Nat.add_comm, Nat.add_mul_div_right _ _ (by omega), Nat.div_eq_of_lt hc, Nat.zero_add]
  have e2 : (i * k + c) % k = c := by rw [Nat.add_comm, Nat.add_mul_mod_self_right, Nat.mod_eq_of_lt hc]
  have h1 := bs_next (k := k) (step := step) (first := first) (m := i * k + c) (by rw [e1]; exact hi)
  have h2 := nx_next (k := k) (step := step) (first := first) (m := i * k + c) (by rw [e1]; exact hi)
  rw [e2] at h1 h2
  rw [if_pos h] at h1
  rw [h1] at h2
  exact ⟨h1, h2⟩
theorem bs_new {k : Nat} {step : σ → Nat → σ} {first : σ} {i c : Nat} {s : σ} (hc : c < k) (hi : (bs k step first (i * k + c))[i]? = some s) (h : step s c ∉ bs k step first (i * k + c)) : bs k step first (i * k + (c + 1)) = bs k step first (i * k + c) ++ [step s c] ∧ nx k step first (i * k + (c + 1)) = nx k step first (i * k + c) ++ [(bs k step first (i * k + c)).length] := by
  have e1 : (i * k + c) / k = i := by rw [Nat.add_comm, Nat.add_mul_div_right _ _ (by omega), Nat.div_eq_of_lt hc, Nat.zero_add]
  have e2 : (i * k + c) % k = c := by rw [Nat.add_comm, Nat.add_mul_mod_self_right, Nat.mod_eq_of_lt hc]
  have h1 := bs_next (k := k) (step := step) (first := first) (m := i * k + c) (by rw [e1]; exact hi)
  have h2 := nx_next (k := k) (step := step) (first := first) (m := i * k + c) (by rw [e1]; exact hi)
  rw [e2] at h1 h2
  rw [if_neg h] at h1
  rw [h1, idxOf_last' h] at h2
  exact ⟨h1, h2⟩
end
end Go.Proofs.Ytjckidjljkjhfaa
