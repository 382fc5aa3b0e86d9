/- Merged by tools/merge2.py out of: XSr XSrS XGap XSrI XFrom XRch XAp2 (a claim bears 60 files at most). -/
import Derived.Test.YtjckidjljkjhfaaA1
import Derived.BigQuiet
import Derived.Test.YtjckidjljkjhfaaB1
namespace Go.Proofs.Ytjckidjljkjhfaa
open Go.RowKit Go.Proofs.YtjckidjljkjhfaaW.PrintWords
set_option linter.unusedVariables false
set_option linter.unusedSectionVars false
section
variable {σ : Type} [DecidableEq σ]
/-- The states, once no more than 4096 places have been asked. -/
def srL (k : Nat) (step : σ → Nat → σ) (first : σ) : List σ := bs k step first (4096 * k)
def srE (k : Nat) (step : σ → Nat → σ) (first : σ) : Int := if (srL k step first).length ≤ 4096 then 0 else 81
def srV (k : Nat) (step : σ → Nat → σ) (first : σ) (good : σ → Bool) : AutV :=
  if (srL k step first).length ≤ 4096 then ⟨(k : Int), (nx k step first ((srL k step first).length * k)).map (fun (n : Nat) => (n : Int)), (srL k step first).map good⟩ else ⟨0, [], []⟩
variable {k : Nat} {step : σ → Nat → σ} {first : σ} {good : σ → Bool}
/-- All is closed, or there are more. -/
theorem sr_closed (hk : 0 < k) (h : (srL k step first).length ≤ 4096) : Closed k step first (srL k step first).length ∧ bs k step first ((srL k step first).length * k) = srL k step first := by
  have key : ∀ i, (∃ n, n ≤ i ∧ Closed k step first n) ∨ i < (bw k step first (i * k)).length := by
    intro i
    induction i with
    | zero => exact .inr (bw_len_pos _)
    | succ i ih =>
      rcases ih with ⟨n, h1, h2⟩ | ih
      · exact .inl ⟨n, by omega, h2⟩
      · have h1 := bw_le (k := k) (step := step) (first := first) (Nat.mul_le_mul_right k (Nat.le_add_right i 1))
        by_cases e : (bw k step first ((i + 1) * k)).length = i + 1
        · exact .inl ⟨i + 1, Nat.le_refl _, e⟩
        · exact .inr (by omega)
  rcases key 4096 with ⟨n, hn, hc⟩ | h1
  · have e : srL k step first = bs k step first (n * k) := hc.stay hk (Nat.mul_le_mul_right k hn)
    have hl : (srL k step first).length = n := by rw [e, bs_len]; exact hc
    rw [hl]
    exact ⟨hc, e.symm⟩
  · unfold srL at h
    rw [bs_len] at h
    omega
theorem sr_of_closed (hk : 0 < k) {n : Nat} (hn : n ≤ 4096) (hc : Closed k step first n) : srL k step first = bs k step first (n * k) ∧ (srL k step first).length = n := by
  have e : srL k step first = bs k step first (n * k) := hc.stay hk (Nat.mul_le_mul_right k hn)
  exact ⟨e, by rw [e, bs_len]; exact hc⟩
/-- Where a new state is met beside 4096 others there are too many. -/
theorem sr_many (hk : 0 < k) {m : Nat} (hm : m ≤ 4096 * k) (h : 4096 < (bs k step first m).length) : srE k step first = 81 := by
  unfold srE
  rw [if_neg]
  intro hle
  have h1 := bw_le (k := k) (step := step) (first := first) hm
  unfold srL at hle
  rw [bs_len] at h hle
  omega
theorem srE_ok (h : srE k step first = 0) : (srL k step first).length ≤ 4096 := by
  unfold srE at h
  split at h
  · assumption
  · cases h
theorem srE_cases : srE k step first = 0 ∨ srE k step first = 81 := by unfold srE; split <;> simp
theorem srV_ok (good : σ → Bool) (h : srE k step first = 0) : srV k step first good = ⟨(k : Int), (nx k step first ((srL k step first).length * k)).map (fun (n : Nat) => (n : Int)), (srL k step first).map good⟩ := by
  unfold srV; rw [if_pos (srE_ok h)]
theorem srV_no (good : σ → Bool) (h : srE k step first ≠ 0) : srV k step first good = ⟨0, [], []⟩ := by
  unfold srV
  rw [if_neg]
  intro hle
  exact h (by unfold srE; rw [if_pos hle])
theorem srL_pos : 0 < (srL k step first).length := by unfold srL; rw [bs_len]; exact bw_len_pos _
/-- The answer is an automaton. -/
theorem sr_aut (hk : 0 < k) (hk8 : k ≤ 8) (good : σ → Bool) (h : srE k step first = 0) : AutOk (srV k step first good) := by
  have hle := srE_ok h
  obtain ⟨hc, hb⟩ := sr_closed hk hle
  have hn := nx_len (k := k) (step := step) (first := first) (n := (srL k step first).length) (m := (srL k step first).length * k) (Nat.le_of_eq hc.symm) (Nat.le_refl _)
  rw [srV_ok good h]
  refine ⟨by show (1 : Int) ≤ (k : Int); omega, by show (k : Int) ≤ 8; omega, by show 1 ≤ ((srL k step first).map good).length; rw [List.length_map]; exact srL_pos, by show ((srL k step first).map good).length ≤ 4096; rw [List.length_map]; exact hle, ?_, fun i hi => ?_⟩
  · show (((nx k step first ((srL k step first).length * k)).map _).length : Int) = (((srL k step first).map good).length : Int) * (k : Int)
    rw [List.length_map, List.length_map, hn]; push_cast; rfl
  · have hi' : i < (nx k step first ((srL k step first).length * k)).length := by simpa using hi
    have h1 : rd ((nx k step first ((srL k step first).length * k)).map (fun (n : Nat) => (n : Int))) (i : Int) = ((nx k step first ((srL k step first).length * k))[i] : Int) := by
      unfold rd; rw [Int.toNat_natCast]; simp [List.getD_eq_getElem?_getD, hi']
    show 0 ≤ rd ((nx k step first ((srL k step first).length * k)).map (fun (n : Nat) => (n : Int))) (i : Int) ∧ rd ((nx k step first ((srL k step first).length * k)).map (fun (n : Nat) => (n : Int))) (i : Int) < ((((srL k step first).map good).length : Nat) : Int)
    rw [h1]
    have h2 := nx_lt _ (List.getElem_mem hi')
    rw [← bs_len, hb] at h2
    rw [List.length_map]
    omega
/-- One step of the answer: the place of the state that the letter leads to. -/
theorem sr_stp (hk : 0 < k) (good : σ → Bool) (h : srE k step first = 0) {i c : Nat} {s : σ} (hi : (srL k step first)[i]? = some s) (hc : c < k) : stp (srV k step first good) i c = (srL k step first).idxOf (step s c) ∧ step s c ∈ srL k step first := by
  obtain ⟨hcl, hb⟩ := sr_closed hk (srE_ok h)
  have hi' : (bs k step first ((srL k step first).length * k))[i]? = some s := by rw [hb]; exact hi
  have h1 := nx_get hcl hc hi'
  rw [hb] at h1
  refine ⟨?_, by rw [← hb]; exact hcl.move hc (List.mem_of_getElem? hi')⟩
  rw [srV_ok good h]
  unfold stp
  show (rd ((nx k step first ((srL k step first).length * k)).map (fun (n : Nat) => (n : Int))) ((i * ((k : Int)).toNat + c : Nat) : Int)).toNat = _
  rw [Int.toNat_natCast]
  unfold rd
  rw [Int.toNat_natCast, List.getD_eq_getElem?_getD, List.getElem?_map, h1]
  rfl
/-- A word of the answer: the place of the state that it leads to. -/
theorem sr_run (hk : 0 < k) (good : σ → Bool) (h : srE k step first = 0) : ∀ (w : List Nat), (∀ c ∈ w, c < k) → ∀ {i : Nat} {s : σ}, (srL k step first)[i]? = some s → (srL k step first)[rn (stp (srV k step first good)) i w]? = some (rn step s w)
  | [], _, _, _, hi => hi
  | c :: r, hw, i, s, hi => by
    obtain ⟨h1, h2⟩ := sr_stp hk good h hi (hw c List.mem_cons_self)
    have h3 : (srL k step first)[stp (srV k step first good) i c]? = some (step s c) := by
      rw [h1]; exact bs_at_idx h2
    exact sr_run hk good h r (fun d hd => hw d (List.mem_cons_of_mem _ hd)) h3
theorem sr_first : (srL k step first)[0]? = some first := bs_pos _
theorem sr_acc (good : σ → Bool) (h : srE k step first = 0) {i : Nat} {s : σ} (hi : (srL k step first)[i]? = some s) : rdOf false (srV k step first good).acc (i : Int) = good s := by
  rw [srV_ok good h]
  unfold rdOf
  rw [Int.toNat_natCast, List.getD_eq_getElem?_getD]
  show ((((srL k step first).map good))[i]?).getD false = _
  rw [List.getElem?_map, hi]; rfl
/-- A word is accepted by the answer just if the state that it leads to is looked for. -/
theorem sr_word (hk : 0 < k) (good : σ → Bool) (h : srE k step first = 0) (w : List Nat) (hw : ∀ c ∈ w, c < k) : rdOf false (srV k step first good).acc ((rn (stp (srV k step first good)) 0 w : Nat) : Int) = good (rn step first w) :=
  sr_acc good h (sr_run hk good h w hw sr_first)
end
/-- Two spaces in which the same words lead to one state, and the same words are looked for, have one answer. -/
theorem sr_same {σ τ : Type} [DecidableEq σ] [DecidableEq τ] {k : Nat} {step : σ → Nat → σ} {first : σ} {good : σ → Bool} {step' : τ → Nat → τ} {first' : τ} {good' : τ → Bool} (hk : 0 < k)
    (h : ∀ u v : List Nat, (∀ c ∈ u, c < k) → (∀ c ∈ v, c < k) → (rn step first u = rn step first v ↔ rn step' first' u = rn step' first' v)) (hg : ∀ u : List Nat, (∀ c ∈ u, c < k) → good (rn step first u) = good' (rn step' first' u)) :
    srE k step first = srE k step' first' ∧ srV k step first good = srV k step' first' good' := by
  have hw := bw_same hk h
  have hl : (srL k step first).length = (srL k step' first').length := by unfold srL; rw [bs_len, bs_len, hw]
  have hmap : (srL k step first).map good = (srL k step' first').map good' := by
    unfold srL bs
    rw [List.map_map, List.map_map, ← hw]
    exact List.map_congr_left fun u hu => hg u (bw_let hk u hu)
  refine ⟨by unfold srE; rw [hl], ?_⟩
  unfold srV
  rw [hl, hmap, nx_same hk h]
end Go.Proofs.Ytjckidjljkjhfaa

namespace Go.Proofs.Ytjckidjljkjhfaa
open Go.RowKit Go.ChangeMaps Go.Proofs.YtjckidjljkjhfaaW.PrintWords
set_option linter.unusedVariables false
/-- A kind whose cells hold no rows. -/
def flatK {σ : Type} (cellsOf : σ → List Value) (n : Nat) (hl : ∀ s, (cellsOf s).length = n) (h1 : ∀ s, ∀ u ∈ cellsOf s, u.oneCell' = true) : Kd σ where
  sz := n
  E := []
  K := fun _ x cs => cs = cellsOf x
  M := fun _ _ _ x cs => cs = cellsOf x
  K_len := fun h => by rw [h]; exact hl _
  K_one := fun h u hu => by rw [h] at hu; exact h1 _ u hu
  K_below := fun _ h => h
  K_of_M := fun h => h
  M_mono := fun _ h => h
  M_bound := fun h => h
  M_move := fun _ h => h
  M_lower := fun _ h => h
section
variable {σ : Type}
structure SS (d : Kd σ) (eT : TypeId) (enc : σ → Value) (w wr : World) (rs : Nat) (k : Int) (go gm : Nat) (v vn va : Value) (L : List σ) (N : List Nat) (Ac : List Bool) : Prop where
  res : wr.heap[rs]? = some (.cells #[.int .i64 0, .slice none 0 0, .slice none 0 0] 25 (0, 0))
  out : wr.heap[go]? = some (.cells #[.int .i64 k, vn, va] 25 (0, 0))
  mp : MapIs wr gm (nents enc L)
  lst : d.R eT wr w.heap.size (fun _ => True) v L
  nxt : Own wr w.heap.size vn (zl N)
  acc : Kd.R Kd.bool 4 wr w.heap.size (fun _ => True) va Ac
  s3 : sep v vn
  bel : Below w.heap.size w wr
  gmb : w.heap.size ≤ gm
  rsb : w.heap.size ≤ rs
  gob : rs < go
variable {d : Kd σ} {eT : TypeId} {enc : σ → Value} {w W w1 : World} {rs : Nat} {k : Int} {go gm : Nat} {v vn va v1 : Value} {L : List σ} {N : List Nat} {Ac : List Bool}
theorem SS.acc_step (h : SS d eT enc w W rs k go gm v vn va L N Ac) (hE : d.E = []) (h1 : eT ≠ 25) (h2 : eT ≠ 4) {b : Bool} (ho : Kd.R Kd.bool 4 w1 w.heap.size (fun _ => True) v1 (Ac ++ [b])) (hb : Below w.heap.size w w1) (ha : App W w1 va v1) :
    SS d eT enc w (w1.setCell ⟨go, 2, none⟩ v1) rs k go gm v vn v1 L N (Ac ++ [b]) := by
  have ho1 := ha.cells h.out h.acc (by decide)
  have hg := h.gob
  have hr := h.rsb
  refine ⟨hp_cell (by show rs ≠ go; omega) (ha.cells h.res h.acc (by decide)), ?_, ?_, ?_, ?_, ?_, h.s3, bl_cell hb (by show w.heap.size ≤ go; omega) _, h.gmb, h.rsb, h.gob⟩
  · rw [heap_setCell_same _ _ _ _ _ _ ho1]; rfl
  · exact (ha.map h.mp h.acc).of (heap_setCell_other _ _ _ _ (fun e => by
      obtain ⟨es, c, h1, _⟩ := ha.map h.mp h.acc
      simp only at e
      rw [e, ho1] at h1
      cases h1))
  · exact own_cellT ho1 (ha.own hE h.lst (sep_type h.lst h.acc h2)).1 h1 hE _ _
  · exact own_cellT ho1 (ha.own rfl h.nxt (sep_type h.nxt h.acc (by decide))).1 (by decide) rfl _ _
  · exact own_cellT ho1 ho (by decide) rfl _ _
theorem SS.nxt_step (h : SS d eT enc w W rs k go gm v vn va L N Ac) (hE : d.E = []) (h1 : eT ≠ 25) {b : Nat} (ho : Own w1 w.heap.size v1 (zl N ++ [(b : Int)])) (hb : Below w.heap.size w w1) (ha : App W w1 vn v1) :
    SS d eT enc w (w1.setCell ⟨go, 1, none⟩ v1) rs k go gm v v1 va L (N ++ [b]) Ac := by
  have ho1 := ha.cells h.out h.nxt (by decide)
  have hg := h.gob
  have hr := h.rsb
  have hl := ha.own hE h.lst h.s3
  refine ⟨hp_cell (by show rs ≠ go; omega) (ha.cells h.res h.nxt (by decide)), ?_, ?_, ?_, ?_, ?_, hl.2, bl_cell hb (by show w.heap.size ≤ go; omega) _, h.gmb, h.rsb, h.gob⟩
  · rw [heap_setCell_same _ _ _ _ _ _ ho1]; rfl
  · exact (ha.map h.mp h.nxt).of (heap_setCell_other _ _ _ _ (fun e => by
      obtain ⟨es, c, h1, _⟩ := ha.map h.mp h.nxt
      simp only at e
      rw [e, ho1] at h1
      cases h1))
  · exact own_cellT ho1 hl.1 h1 hE _ _
  · rw [zl_snoc]
    exact own_cellT ho1 ho (by decide) rfl _ _
  · exact own_cellT ho1 (ha.own rfl h.acc (sep_type h.acc h.nxt (by decide))).1 (by decide) rfl _ _
/-- A new state is numbered .. -/
theorem SS.turn (h : SS d eT enc w W rs k go gm v vn va L N Ac) (hE : d.E = []) {W2 : World} (ht : Turned W W2 gm) :
    W2.heap[rs]? = some (.cells #[.int .i64 0, .slice none 0 0, .slice none 0 0] 25 (0, 0)) ∧ W2.heap[go]? = some (.cells #[.int .i64 k, vn, va] 25 (0, 0)) ∧ d.R eT W2 w.heap.size (fun _ => True) v L ∧ Own W2 w.heap.size vn (zl N) ∧ Kd.R Kd.bool 4 W2 w.heap.size (fun _ => True) va Ac ∧ Below w.heap.size w W2 := by
  have hne : ∀ {g : Nat} {c : Array Value} {t : TypeId}, W.heap[g]? = some (.cells c t (0, 0)) → g ≠ gm := fun hg e => by
    obtain ⟨es, c, h1, _⟩ := h.mp
    rw [e, h1] at hg; cases hg
  exact ⟨(ht.block _ (hne h.res)).trans h.res, (ht.block _ (hne h.out)).trans h.out, own_turn ht h.lst (map_not h.mp h.lst) hE, own_turn ht h.nxt (map_not h.mp h.nxt) rfl, own_turn ht h.acc (map_not h.mp h.acc) rfl, ht.below h.bel h.gmb⟩
/-- .. and listed. -/
theorem SS.lst_step (h : SS d eT enc w W rs k go gm v vn va L N Ac) (hE : d.E = []) (h1 : eT ≠ 25) (h2 : eT ≠ 4) {W2 : World} {s : σ} (ht : Turned W W2 gm) (hm : MapIs W2 gm (nents enc (L ++ [s]))) (ho : d.R eT w1 w.heap.size (fun _ => True) v1 (L ++ [s])) (hb : Below w.heap.size w w1) (ha : App W2 w1 v v1) :
    SS d eT enc w w1 rs k go gm v1 vn va (L ++ [s]) N Ac := by
  obtain ⟨t2, t3, t5, t6, t7, t8⟩ := h.turn hE ht
  have hn := ha.own rfl t6 h.s3.symm
  exact ⟨ha.cells t2 t5 h1, ha.cells t3 t5 h1, ha.map hm t5, ho, hn.1, (ha.own rfl t7 (sep_type t7 t5 (Ne.symm h2))).1, hn.2.symm, hb, h.gmb, h.rsb, h.gob⟩
theorem SS.below (h : SS d eT enc w W rs k go gm v vn va L N Ac) (hb : Below W.heap.size W w1) : SS d eT enc w w1 rs k go gm v vn va L N Ac :=
  ⟨hp_below' hb h.res, hp_below' hb h.out, h.mp.below hb, Kd.R_below h.lst hb, Kd.R_below h.nxt hb, Kd.R_below h.acc hb, h.s3, bl_then h.bel hb, h.gmb, h.rsb, h.gob⟩
theorem SS.drewN (h : SS d eT enc w W rs k go gm v vn va L N Ac) (n : Nat) : SS d eT enc w (W.drewN n) rs k go gm v vn va L N Ac :=
  ⟨h.res, h.out, h.mp.of rfl, Kd.R_drewN h.lst n, Kd.R_drewN h.nxt n, Kd.R_drewN h.acc n, h.s3, bl_drewN h.bel n, h.gmb, h.rsb, h.gob⟩
theorem SS.drew (h : SS d eT enc w W rs k go gm v vn va L N Ac) : SS d eT enc w W.drew rs k go gm v vn va L N Ac := h.drewN 1
end
section
variable {σ : Type} [DecidableEq σ]
/-- Which of the first places are looked for. -/
def sac (k : Nat) (step : σ → Nat → σ) (first : σ) (good : σ → Bool) (i m : Nat) : List Bool := ((bs k step first m).take i).map good
theorem sac_keep {k : Nat} {step : σ → Nat → σ} {first : σ} (good : σ → Bool) {i m m' : Nat} (h : m ≤ m') (hk : i ≤ (bs k step first m).length) : sac k step first good i m' = sac k step first good i m := by
  obtain ⟨r, hr⟩ := bw_more (k := k) (step := step) (first := first) m (m' - m)
  rw [show m + (m' - m) = m' by omega] at hr
  have : bs k step first m' = bs k step first m ++ r.map (rn step first) := by unfold bs; rw [hr, List.map_append]
  unfold sac
  rw [this, List.take_append_of_le_length hk]
theorem sac_next {k : Nat} {step : σ → Nat → σ} {first : σ} (good : σ → Bool) {i m : Nat} {s : σ} (hs : (bs k step first m)[i]? = some s) : sac k step first good (i + 1) m = sac k step first good i m ++ [good s] := by
  obtain ⟨hk, rfl⟩ := List.getElem?_eq_some_iff.1 hs
  unfold sac
  rw [List.take_succ_eq_append_getElem hk, List.map_append]
  rfl
theorem nx_le' {k : Nat} {step : σ → Nat → σ} {first : σ} (m : Nat) : (nx k step first m).length ≤ m := by
  induction m with
  | zero => exact Nat.le_refl _
  | succ m ih =>
    rw [nx]
    split
    · omega
    · rw [List.length_append, List.length_singleton]; omega
theorem idxOf_last' {L : List σ} {t : σ} (h : t ∉ L) : (L ++ [t]).idxOf t = L.length := by
  rw [List.idxOf_append, if_neg h]; simp
theorem bs_old {k : Nat} {step : σ → Nat → σ} {first : σ} {i c : Nat} {s : σ} (hc : c < k) (hi : (bs k step first (i * k + c))[i]? = some s) (h : step s c ∈ bs k step first (i * k + c)) : bs k step first (i * k + (c + 1)) = bs k step first (i * k + c) ∧ nx k step first (i * k + (c + 1)) = nx k step first (i * k + c) ++ [(bs k step first (i * k + c)).idxOf (step s c)] := by
  have e1 : (i * k + c) / k = i := by rw [Nat.add_comm, Nat.add_mul_div_right _ _ (by omega), Nat.div_eq_of_lt hc, Nat.zero_add]
  have e2 : (i * k + c) % k = c := by rw [Nat.add_comm, Nat.add_mul_mod_self_right, Nat.mod_eq_of_lt hc]
  have h1 := bs_next (k := k) (step := step) (first := first) (m := i * k + c) (by rw [e1]; exact hi)
  have h2 := nx_next (k := k) (step := step) (first := first) (m := i * k + c) (by rw [e1]; exact hi)
  rw [e2] at h1 h2
  rw [if_pos h] at h1
  rw [h1] at h2
  exact ⟨h1, h2⟩
theorem bs_new {k : Nat} {step : σ → Nat → σ} {first : σ} {i c : Nat} {s : σ} (hc : c < k) (hi : (bs k step first (i * k + c))[i]? = some s) (h : step s c ∉ bs k step first (i * k + c)) : bs k step first (i * k + (c + 1)) = bs k step first (i * k + c) ++ [step s c] ∧ nx k step first (i * k + (c + 1)) = nx k step first (i * k + c) ++ [(bs k step first (i * k + c)).length] := by
  have e1 : (i * k + c) / k = i := by rw [Nat.add_comm, Nat.add_mul_div_right _ _ (by omega), Nat.div_eq_of_lt hc, Nat.zero_add]
  have e2 : (i * k + c) % k = c := by rw [Nat.add_comm, Nat.add_mul_mod_self_right, Nat.mod_eq_of_lt hc]
  have h1 := bs_next (k := k) (step := step) (first := first) (m := i * k + c) (by rw [e1]; exact hi)
  have h2 := nx_next (k := k) (step := step) (first := first) (m := i * k + c) (by rw [e1]; exact hi)
  rw [e2] at h1 h2
  rw [if_neg h] at h1
  rw [h1, idxOf_last' h] at h2
  exact ⟨h1, h2⟩
end
end Go.Proofs.Ytjckidjljkjhfaa

namespace Go.Proofs.Ytjckidjljkjhfaa
open Go.RowKit Go.Proofs.YtjckidjljkjhfaaW.PrintWords
section
variable {P : Program} {l : List Oper} {Q : Exit → Act → World → Prop} {md : Region.Mode} {S : World → Prop} {a : Act} {W : World}
theorem any_gapp {fuel : Nat} {listed : Array Bool} {i1 ic i2 : Nat} {o1 oc o2 : Oper}
    (h1 : l[i1]? = some o1) (hc : l[ic]? = some oc) (h2 : l[i2]? = some o2)
    (r0 : Region.ready md l.toArray listed = [i1, ic]) (r1 : Region.ready md l.toArray (listed.setIfInBounds i1 true) = [ic]) (rc : Region.ready md l.toArray (listed.setIfInBounds ic true) = [i1, i2])
    (r1c : Region.ready md l.toArray ((listed.setIfInBounds i1 true).setIfInBounds ic true) = [i2]) (rc2 : Region.ready md l.toArray ((listed.setIfInBounds ic true).setIfInBounds i2 true) = [i1])
    (g1 : o1.guard = none) (gc : oc.guard = none) (g2 : o2.guard = none) (n1 : i1 ≠ ic) (n2 : i1 ≠ i2)
    (t e : TypeId) {x1 x2 : Operand} (p1 : o1.op = .load t x1) (p2 : o2.op = .buildSlice t 1 #[(0, x2)]) (ht : P.underlying t = some (.slice e))
    (g j : Nat) (v pv : Value) (cs : List Value) (hrun : ∀ w, (Instr.buildSlice t 1 #[(0, pv)]).run P w = .ok (.slice (some ⟨w.heap.size, 0, none⟩) 1 1) (w.alloc (.cells cs.toArray e)))
    (f : FuncId) (args : Array Value) (R : Ending → World → Prop) (hcall : Calls P f args W R) (hR : ∀ e w', R e w' → e = .returned pv ∧ Below W.heap.size W w')
    (x0 : (execOp a.eval oc).run P W = .ok (.enter f args) W) (x0' : (execOp (a.put o1.dst v).eval oc).run P W = .ok (.enter f args) W)
    (e1 : a.eval x1 = .pointer (some ⟨g, j, none⟩)) (e1c : (a.put oc.dst pv).eval x1 = .pointer (some ⟨g, j, none⟩)) (e1d : ∀ bx, ((a.put oc.dst pv).put o2.dst bx).eval x1 = .pointer (some ⟨g, j, none⟩))
    (e2 : (a.put oc.dst pv).eval x2 = pv) (e2' : ((a.put o1.dst v).put oc.dst pv).eval x2 = pv)
    (q1 : (a.put oc.dst pv).put o1.dst v = (a.put o1.dst v).put oc.dst pv) (q2 : ∀ bx, ((a.put oc.dst pv).put o2.dst bx).put o1.dst v = ((a.put o1.dst v).put oc.dst pv).put o2.dst bx)
    (hcell : W.cell? ⟨g, j, none⟩ = some v) (hS : S W) (hSb : ∀ w', Below W.heap.size W w' → S w') (hSa : ∀ w', Below W.heap.size W w' → S (w'.alloc (.cells cs.toArray e)))
    (h : ∀ w', Below W.heap.size W w' → wpAnyH P md l.toArray Q S fuel (((listed.setIfInBounds i1 true).setIfInBounds ic true).setIfInBounds i2 true) (((a.put o1.dst v).put oc.dst pv).put o2.dst (.slice (some ⟨w'.heap.size, 0, none⟩) 1 1)) (w'.alloc (.cells cs.toArray e))) :
    wpAnyH P md l.toArray Q S (fuel + 1 + 1 + 1) listed a W := by
  have hlt := World.block_lt_of_cell? _ _ hcell
  refine any_two r0 h1 hc (want_none g1 _) (want_none gc _) ?_ ?_
  · refine wp_load1 t x1 p1 ⟨g, j, none⟩ e1 (.slice e) ht rfl hcell ⟨hS, any_one hc r1 (want_none gc _) (wp_call f args x0' hcall ?_)⟩
    intro e0 w' hr
    obtain ⟨rfl, hb⟩ := hR e0 w' hr
    exact ⟨pv, rfl, hSb _ hb, any_one h2 r1c (want_none g2 _) (wp_box t e x2 p2 pv cs e2' (hrun w') ⟨hSa _ hb, h w' hb⟩)⟩
  · refine wp_call f args x0 hcall ?_
    intro e0 w' hr
    obtain ⟨rfl, hb⟩ := hR e0 w' hr
    have hc1 : w'.cell? ⟨g, j, none⟩ = some v := (hb.cell hlt).trans hcell
    refine ⟨pv, rfl, hSb _ hb, any_two rc h1 h2 (want_none g1 _) (want_none g2 _) ?_ ?_⟩
    · refine wp_load1 t x1 p1 ⟨g, j, none⟩ e1c (.slice e) ht rfl hc1 ⟨hSb _ hb, ?_⟩
      rw [q1, show (listed.setIfInBounds ic true).setIfInBounds i1 true = (listed.setIfInBounds i1 true).setIfInBounds ic true from Array.setIfInBounds_comm _ _ (Ne.symm n1)]
      exact any_one h2 r1c (want_none g2 _) (wp_box t e x2 p2 pv cs e2' (hrun w') ⟨hSa _ hb, h w' hb⟩)
    · refine wp_box t e x2 p2 pv cs e2 (hrun w') ⟨hSa _ hb, any_one h1 rc2 (want_none g1 _) (wp_load1 t x1 p1 ⟨g, j, none⟩ (e1d _) (.slice e) ht rfl (alloc_cell hc1) ⟨hSa _ hb, ?_⟩)⟩
      have h3 := h w' hb
      rw [q2, show ((listed.setIfInBounds ic true).setIfInBounds i2 true).setIfInBounds i1 true = ((listed.setIfInBounds i1 true).setIfInBounds ic true).setIfInBounds i2 true from by
        rw [Array.setIfInBounds_comm (i := i2) (j := i1) _ _ (Ne.symm n2), Array.setIfInBounds_comm (i := ic) (j := i1) _ _ (Ne.symm n1)]]
      exact h3
end
end Go.Proofs.Ytjckidjljkjhfaa

namespace Go.Proofs.Ytjckidjljkjhfaa
open Go.RowKit Go.Proofs.YtjckidjljkjhfaaW.PrintWords
set_option linter.unusedSimpArgs false
set_option linter.unusedVariables false
theorem int_law : Go.Maps.Keyed Try.prog 3 := Go.Maps.int_keyed Try.underlying3
theorem encI_keyw {n : Nat} (h : n ≤ 9223372036854775807) : ∃ q, keyOf Try.prog 3 (encI n) = some q := ⟨_, Go.Maps.keyOf_int_mk Try.underlying3 (by
    show (decide (IntKind.i64.min ≤ (n : Int)) && decide ((n : Int) ≤ IntKind.i64.max)) = true
    rw [show IntKind.i64.min = -9223372036854775808 by rfl, show IntKind.i64.max = 9223372036854775807 by rfl, decide_eq_true (by omega), decide_eq_true (by omega)]; rfl)⟩
/-- Lists of states that are numbers. -/
abbrev natK : Kd Nat := Kd.scalar encI (fun _ => rfl)
theorem st_auz {ops : Array Oper} {rest : List Oper} {o : Oper} {a : Act} {w : World} {Q : Exit → Act → World → Prop} {k : Int} {cs : Array Value} (p q : Operand) (ho : o.op = .store 25 p q) (hgd : o.guard = none)
    (hx : a.eval p = .pointer (some ⟨w.heap.size, 0, none⟩)) (hy : a.eval q = .agg #[.int .i64 k, .slice none 0 0, .slice none 0 0]) (hc : cs.size = 3) (h : wpList Try.prog ops Q rest (a.put o.dst undef) (w.alloc (.cells #[.int .i64 k, .slice none 0 0, .slice none 0 0] 25))) : wpList Try.prog ops Q (o :: rest) a (w.alloc (.cells cs 25)) :=
  wpList_store_row hgd 25 p q ho w.heap.size _ hx hy 25 cs (hp_new rfl) (by show _ = some 3; kernel_rfl) hc (by simp [Value.oneCell']) (by rw [World.setRow_alloc_new]; exact h)
set_option maxRecDepth 100000 in
set_option maxHeartbeats 1600000 in
theorem searchI_any (k : Nat) (hk : 0 < k) (hk8 : k ≤ 8) (step : Nat → Nat → Nat) (first : Nat) (good : Nat → Bool) (fn fg : FuncId) (cn cg : Array Value) (w : World)
    (hdom : ∀ m, ∀ s ∈ bs k step first m, s ≤ 1000000) (hen : ∀ args W, (callFunc fn args).run Try.prog W = .ok (.enter fn args) W) (heg : ∀ args W, (callFunc fg args).run Try.prog W = .ok (.enter fg args) W)
    (HN : ∀ (s m c : Nat), s ∈ bs k step first m → c < k → ∀ W : World, Below w.heap.size w W → Calls Try.prog fn (#[.int .i64 (s : Int), .int .i64 (c : Int)] ++ cn) W fun e w' => e = .returned (.int .i64 ((step s c : Nat) : Int)) ∧ Below W.heap.size W w')
    (HG : ∀ (s m : Nat), s ∈ bs k step first m → ∀ W : World, Below w.heap.size w W → Calls Try.prog fg (#[.int .i64 (s : Int)] ++ cg) W fun e w' => e = .returned (.bool (good s)) ∧ Below W.heap.size W w') :
    Calls Try.prog 63 #[.int .i64 (k : Int), .int .i64 (first : Int), .func (.func fn) #[] cn, .func (.func fg) #[] cg] w fun e w' => ∃ vn va, e = .returned (.tuple #[.agg #[.int .i64 (srV k step first good).k, vn, va], .int .i64 (srE k step first)]) ∧
      Own w' w.heap.size vn (srV k step first good).next ∧ Kd.R Kd.bool 4 w' w.heap.size (fun _ => True) va (srV k step first good).acc ∧ Below w.heap.size w w' := by
  have HNX := Aside0.mk HN
  have HGD := Aside0.mk HG
  have HDM := Lib.hid hdom
  have hf := hdom 0 first (by simp [bs, bw, rn])
  have hmm := @run_makeMap Try.prog
  have M0 : MapIs (((w.alloc (.cells #[.int .i64 0, .slice none 0 0, .slice none 0 0] 25)).alloc (.cells #[.int .i64 k, .slice none 0 0, .slice none 0 0] 25)).alloc (.map #[] 0)) (((w.alloc (.cells #[.int .i64 0, .slice none 0 0, .slice none 0 0] 25)).alloc (.cells #[.int .i64 k, .slice none 0 0, .slice none 0 0] 25))).heap.size (nents encI []) := MapIs.new _
  obtain ⟨w3, hrun, hM, hT⟩ := nents_put (s := first) M0 int_law encI_inj (fun s hs => by cases hs) (encI_keyw (by omega)) Try.underlying106 (by simp)
  rw [World.size_alloc, World.size_alloc] at hrun hM hT
  have HRN := Aside0.mk hrun
  clear hrun M0 HN HG hdom
  go_enter Try.func63, Try.ntmps63
  go_wp2_with (first | ((with_reducible refine gate_st (t := 25) rfl ?_); refine st_auz (k := (k : Int)) _ _ rfl rfl rfl rfl rfl ?_) | ((with_reducible refine gate_ins (t := 106) rfl ?_); refine mp_ins _ _ _ _ rfl _ _ _ rfl rfl rfl rfl HRN.out ?_))
  have hs3 : w3.heap.size = w.heap.size + 3 := by rw [hT.size, World.size_alloc, World.size_alloc, World.size_alloc]
  have SI : Hid (SS natK 3 encI w (w3.alloc (.cells #[.int .i64 (first : Int)] 3)) w.heap.size (k : Int) (w.heap.size + 1) (w.heap.size + 1 + 1) (.slice (some ⟨w3.heap.size, 0, none⟩) 1 1) (.slice none 0 0) (.slice none 0 0) (bs k step first (0 * k)) (nx k step first (0 * k)) (sac k step first good 0 (0 * k))) := by
    have e0 : bs k step first (0 * k) = [first] := by rw [Nat.zero_mul]; rfl
    have e1 : nx k step first (0 * k) = [] := by rw [Nat.zero_mul]; rfl
    have e2 : sac k step first good 0 (0 * k) = [] := by unfold sac; rw [List.take_zero]; rfl
    rw [e0, e1, e2]
    have hbb : Below w.heap.size w w3 := hT.below (bl_alloc (bl_alloc (bl_alloc (Below.refl _ w) _) _) _) (by omega)
    refine Lib.hid ⟨hp_old ((hT.block _ (by omega)).trans (hp_old (hp_old (hp_new rfl)))), hp_old ((hT.block _ (by omega)).trans (hp_old (hp_new (by simp)))), hM.of (by exact (Below.heap_alloc _ _ _ (by omega))), ?_, Kd.R_nil _ _ _ _ _, Kd.R_nil _ _ _ _ _, sep_nil _, bl_alloc hbb _, by omega, Nat.le_refl _, by omega⟩
    refine Kd.R_of_own ⟨by simp [encs], .inr ⟨w3.heap.size, 1, _, rfl, by omega, hp_new rfl, Nat.le_refl _, by unfold maxLen; omega, rfl, rfl⟩⟩ (fun _ _ => trivial)
  clear hM hT HRN hmm hf hs3
  go_loopw [12, 13] (fun v i wr => ∃ (q : Nat) (vn va : Value), i = .int .i64 q ∧ Hid (q ≤ (bs k step first (q * k)).length ∧ (bs k step first (q * k)).length ≤ 4096) ∧ Hid (SS natK 3 encI w wr w.heap.size (k : Int) (w.heap.size + 1) (w.heap.size + 1 + 1) v vn va (bs k step first (q * k)) (nx k step first (q * k)) (sac k step first good q (q * k)))) (fun _ i _ => 4097 - (intOf i).toNat)
  case atStart => exact ⟨0, _, _, rfl, Lib.hid ⟨Nat.zero_le _, by rw [Nat.zero_mul]; simp [bs, bw]⟩, SI⟩
  case round =>
    obtain ⟨i, vn, va, rfl, HK, H⟩ := hrel
    obtain ⟨hK1, hK2⟩ := HK.out
    obtain ⟨lb, lc, rfl, hlb, hlbs, hlcell⟩ := own_form (0 : Nat) H.out.lst (by exact List.length_pos_of_mem (List.mem_of_getElem? (bs_pos _)))
    by_cases hil : i < (bs k step first (i * k)).length
    · obtain ⟨s, hs⟩ : ∃ s, (bs k step first (i * k))[i]? = some s := ⟨_, List.getElem?_eq_getElem hil⟩
      have hsd := HDM.out _ s (List.mem_of_getElem? hs)
      have cl1 := (hlcell i hil).1
      rw [List.getD_eq_getElem?_getD, hs] at cl1
      replace cl1 : wr.cell? ⟨lb, i, none⟩ = some (.int .i64 (s : Int)) := cl1
      have hnl : some lb ≠ va.ownBlock := fun e => sep_type H.out.lst H.out.acc (by decide) lb rfl e.symm
      have hlg : lb ≠ w.heap.size + 1 := fun e => Kd.R_ne H.out.lst H.out.out (by decide) (by rw [e]; rfl)
      have HSM := Lib.hid hs
      have GC := Aside0.mk (fun (W : World) (hb : Below w.heap.size w W) => HGD.out s (i * k) (List.mem_of_getElem? hs) W hb)
      have HD := Lib.hid H.out.drew
      have HCL := Lib.hid cl1
      clear hs hlcell
      go_wp2
      refine wp_region_held_drew (S := fun w' => w'.cell? ⟨lb, i, none⟩ = some (.int .i64 (s : Int))) (by kernel_rfl) cl1 (fun hS => ?_)
      refine any_take (i := 0) (v := ?v3) rfl (by kernel_rfl) (by kernel_rfl) (by kernel_rfl) (fun _ _ _ h => h) hS (.inl ⟨by rfl, ?y3⟩) ?_
      case y3 => (intro w' h'; go_simp; with_reducible rfl)
      (try simp only [Act.put, List.setIfInBounds_toArray, List.set_cons_zero, List.set_cons_succ])
      refine any_take (i := 2) (v := ?v4) rfl (by kernel_rfl) (by kernel_rfl) (by kernel_rfl) (fun _ _ _ h => h) hS (.inl ⟨by rfl, ?y4⟩) ?_
      case y4 => (intro w' h'; go_simp; with_reducible rfl)
      (try simp only [Act.put, List.setIfInBounds_toArray, List.set_cons_zero, List.set_cons_succ])
      refine any_take (i := 3) (v := ?v5) rfl (by kernel_rfl) (by kernel_rfl) (by kernel_rfl) (fun _ _ _ h => h) hS (.inl ⟨by rfl, ?y5⟩) ?_
      case y5 => (intro w' h'; go_simp; with_reducible rfl)
      (try simp only [Act.put, List.setIfInBounds_toArray, List.set_cons_zero, List.set_cons_succ])
      refine any_take (i := 4) (v := ?v6) rfl (by kernel_rfl) (by kernel_rfl) (by kernel_rfl) (fun _ _ _ h => h) hS (.inl ⟨by rfl, ?y6⟩) ?_
      case y6 => (intro w' h'; go_simp; with_reducible rfl)
      (try simp only [Act.put, List.setIfInBounds_toArray, List.set_cons_zero, List.set_cons_succ])
      refine any_take (i := 5) (v := ?v7) rfl (by kernel_rfl) (by kernel_rfl) (by kernel_rfl) (fun _ _ _ h => h) hS (.inl ⟨by rfl, ?y7⟩) ?_
      case y7 => (intro w' h'; go_simp; with_reducible rfl)
      (try simp only [Act.put, List.setIfInBounds_toArray, List.set_cons_zero, List.set_cons_succ])
      refine any_take (i := 6) (v := (.int .i64 s)) rfl (by kernel_rfl) (by kernel_rfl) (by kernel_rfl) (fun _ _ _ h => h) hS (yi_cell _ _ rfl (by rfl) ⟨lb, i, none⟩ rfl _ Try.underlying3 rfl (fun w' h' => h')) ?_
      (try simp only [Act.put, List.setIfInBounds_toArray, List.set_cons_zero, List.set_cons_succ])
      have hcall := GC.out wr.drew HD.out.bel
      refine any_gapp (i1 := 1) (ic := 7) (i2 := 8) rfl rfl rfl (by kernel_rfl) (by kernel_rfl) (by kernel_rfl) (by kernel_rfl) (by kernel_rfl) rfl rfl rfl (by decide) (by decide) 23 4 rfl rfl Try.underlying23 (w.heap.size + 1) 2 va (.bool (good s)) [.bool (good s)] (run_box1 _ _ Try.underlying23 info_bool rfl rfl) fg _ _ hcall (fun e w' h => h) (by simp [go_sem, heg]) (by simp [go_sem, heg]) rfl rfl (fun _ => rfl) rfl rfl rfl (fun _ => rfl) (by rw [cell_of_row _ _ _ _ _ _ HD.out.out]; rfl) hS (fun w' hb => (hb.cell (World.block_lt_of_cell? _ _ hS)).trans hS) (fun w' hb => alloc_cell ((hb.cell (World.block_lt_of_cell? _ _ hS)).trans hS)) (fun w1 hb => ?hh)
      case hh =>
        have HB := Lib.hid (HD.out.below hb)
        have hS1 := (hb.cell (World.block_lt_of_cell? _ _ hS)).trans hS
        (try simp only [Act.put, List.setIfInBounds_toArray, List.set_cons_zero, List.set_cons_succ])
        refine any_append Kd.bool (w0 := w) w.heap.size (i := 9) rfl (by kernel_rfl) (by rfl) _ _ 23 4 (.bool false) 1 rfl Try.underlying23 info_bool rfl (by decide) (by decide) va (sac k step first good i (i * k)) (good s) [.bool (good s)] rfl rfl rfl HB.out.acc HB.out.bel HB.out.bel.size ?f6 (fun v1 w2 ho hb2 ha => ?_)
        case f6 =>
          have : (sac k step first good i (i * k)).length ≤ 4096 := by unfold sac; rw [List.length_map, List.length_take]; omega
          omega
        have hv1 := own_val ho
        have hout1 := ha.cells HB.out.out HB.out.acc (by decide)
        have hS2 : w2.cell? ⟨lb, i, none⟩ = some (.int .i64 (s : Int)) := by
          have := ha.gr.block lb (World.block_lt_of_cell? _ _ hS1) hnl
          unfold World.cell? at hS1 ⊢
          rw [this]; exact hS1
        refine ⟨hS2, ?_⟩
        (try simp only [Act.put, List.setIfInBounds_toArray, List.set_cons_zero, List.set_cons_succ])
        refine any_take (i := 10) (v := ?v13) rfl (by kernel_rfl) (by kernel_rfl) (by kernel_rfl) (fun _ _ _ h => h) hS2 (.inl ⟨by rfl, ?y13⟩) ?_
        case y13 => (intro w' h'; go_simp; with_reducible rfl)
        (try simp only [Act.put, List.setIfInBounds_toArray, List.set_cons_zero, List.set_cons_succ])
        refine any_one (i := 11) rfl (by kernel_rfl) (by rfl) (wp_store1 23 _ _ rfl (w.heap.size + 1) 2 v1 va rfl rfl (by kernel_rfl) hv1.1 hv1.2 (by rw [cell_of_row _ _ _ _ _ _ hout1]; rfl) (frozen_of_row _ _ _ _ _ hout1) ⟨?_, ?_⟩)
        · rw [World.cell?_setCell_other _ _ _ _ (by intro e; injection e with e _; exact hlg e.symm)]; exact hS2
        (try simp only [Act.put, List.setIfInBounds_toArray, List.set_cons_zero, List.set_cons_succ])
        refine wpAnyH_done (by kernel_rfl) ?_ _
        have HM := Lib.hid (HB.out.acc_step rfl (by decide) (by decide) ho hb2 ha)
        clear hv1 hout1 hS1 hS2 ho hb2 ha HD HB H hS hb GC HCL cl1 hnl hlg
        rw [← sac_next good HSM.out] at HM
        generalize w2.setCell ⟨w.heap.size + 1, 2, none⟩ v1 = w5 at *
        clear hcall
        go_wp2
        go_loopw [12, 43] (fun v l wi => ∃ (c : Nat) (vn : Value), c ≤ k ∧ l = .int .i64 c ∧ Hid ((bs k step first (i * k + c)).length ≤ 4096) ∧ Hid (SS natK 3 encI w wi w.heap.size (k : Int) (w.heap.size + 1) (w.heap.size + 1 + 1) v vn v1 (bs k step first (i * k + c)) (nx k step first (i * k + c)) (sac k step first good (i + 1) (i * k)))) (fun _ l _ => k - (intOf l).toNat)
        case atStart => exact ⟨0, _, by omega, rfl, Lib.hid hK2, HM⟩
        case round =>
          obtain ⟨c, vn2, hc, rfl, HL, G⟩ := hrel
          have hL := HL.out
          obtain ⟨lb2, lc2, rfl, hlb2, hlbs2, hlcell2⟩ := own_form (0 : Nat) G.out.lst (by exact List.length_pos_of_mem (List.mem_of_getElem? (bs_pos _)))
          by_cases hck : c < k
          · have hsq : (bs k step first (i * k + c))[i]? = some s := bs_keep (Nat.le_add_right _ _) HSM.out
            obtain ⟨hk2, hk3⟩ := List.getElem?_eq_some_iff.1 hsq
            have cl1 := (hlcell2 i hk2).1
            rw [List.getD_eq_getElem?_getD, hsq] at cl1
            replace cl1 : wr.cell? ⟨lb2, i, none⟩ = some (.int .i64 (s : Int)) := cl1
            have HSQ := Lib.hid hsq
            clear hsq hk3 hlcell2
            go_wp2_with fail
            have hcall2 := HNX.out s (i * k + c) c (List.mem_of_getElem? HSQ.out) hck wr G.out.bel
            refine hcall2.mono ?_
            rintro e w6 ⟨rfl, hb⟩
            clear hcall2
            have GD := Lib.hid (G.out.below hb)
            obtain ⟨t, ht⟩ : ∃ t, t = step s c := ⟨_, rfl⟩
            have HTT := Lib.hid ht
            have hin : ∃ m, t ∈ bs k step first m := ⟨(i * k + c) + 1, by
              have h1 := bs_next (k := k) (step := step) (first := first) (m := i * k + c) (s := s) (by rw [show (i * k + c) / k = i by rw [Nat.add_comm, Nat.add_mul_div_right _ _ hk, Nat.div_eq_of_lt hck, Nat.zero_add]]; exact HSQ.out)
              rw [show (i * k + c) % k = c by rw [Nat.add_comm, Nat.add_mul_mod_self_right, Nat.mod_eq_of_lt hck], ← ht] at h1
              rw [h1]
              split
              · assumption
              · simp⟩
            have htd : t ≤ 1000000 := by obtain ⟨m, hm⟩ := hin; exact HDM.out m t hm
            have hcond : Hid (t ∈ bs k step first (i * k + c) → bs k step first (i * k + (c + 1)) = bs k step first (i * k + c) ∧ nx k step first (i * k + (c + 1)) = nx k step first (i * k + c) ++ [(bs k step first (i * k + c)).idxOf t]) := Lib.hid (fun hm => by rw [ht] at hm ⊢; exact bs_old hck HSQ.out hm)
            have hcond2 : Hid (t ∉ bs k step first (i * k + c) → bs k step first (i * k + (c + 1)) = bs k step first (i * k + c) ++ [t] ∧ nx k step first (i * k + (c + 1)) = nx k step first (i * k + c) ++ [(bs k step first (i * k + c)).length]) := Lib.hid (fun hm => by rw [ht] at hm ⊢; exact bs_new hck HSQ.out hm)
            have hnd : Hid ((bs k step first (i * k + c)).Nodup) := Lib.hid (bs_nodup _)
            have hky : Hid (∀ s ∈ bs k step first (i * k + c), ∃ q, keyOf Try.prog 3 (encI s) = some q) := Lib.hid (fun s hs => encI_keyw (by have := HDM.out _ s hs; omega))
            have hnl : Hid ((nx k step first (i * k + c)).length ≤ 40960) := Lib.hid (by
              have h1 := nx_le' (k := k) (step := step) (first := first) (i * k + c)
              have h2 : i * k + c ≤ (i + 1) * k := by rw [Nat.succ_mul]; omega
              have h3 : (i + 1) * k ≤ 4096 * 8 := Nat.mul_le_mul (by omega) hk8
              omega)
            have hi4 : i < 4096 := by omega
            rw [← ht]
            clear hb G cl1 ht hin
            generalize hL1 : bs k step first (i * k + c) = L1 at *
            have HL1 := Lib.hid hL1
            clear hL1
            generalize nx k step first (i * k + c) = N1 at *
            have LK := nents_look (s := t) GD.out.mp int_law encI_inj hnd.out hky.out (encI_keyw (by omega)) Try.underlying106 (by kernel_rfl) true
            by_cases hm : t ∈ L1
            · rw [if_pos hm, if_pos rfl] at LK
              obtain ⟨e1, e2⟩ := hcond.out hm
              have HE1 := Lib.hid e1; have HE2 := Lib.hid e2
              have HLK := Aside0.mk LK
              have c4 : w6.cell? ⟨w.heap.size + 1, 1, none⟩ = some vn2 := by rw [cell_of_row _ _ _ _ _ _ GD.out.out]; rfl
              clear e1 e2 LK hcond hcond2 hm
              generalize L1.idxOf t = y at *
              go_wp2_with (first | ((with_reducible refine gate_look (c := true) rfl ?_); refine mp_look _ _ _ _ rfl _ _ _ rfl rfl rfl HLK.out ?_) | ((with_reducible refine gate_builtin (b := .append) (xs := #[.tmp 75, .tmp 77]) rfl ?_); at_builtin; refine wpl_append (Kd.int .i64) (w0 := w) w.heap.size rfl (.tmp 75) (.tmp 77) 22 3 (.int .i64 0) 8 rfl Try.underlying22 info_int rfl (by decide) (by omega) vn2 (zl N1) (y : Int) [.int .i64 y] rfl rfl rfl GD.out.nxt GD.out.bel GD.out.bel.size (by rw [zl_len]; have := hnl.out; omega) (fun v3 w7 ho hb ha => ?_); have d1 : w7.cell? ⟨w.heap.size + 1, 1, none⟩ = some vn2 := (by rw [cell_of_row _ _ _ _ _ _ (ha.cells GD.out.out GD.out.nxt (by decide))]; rfl); have f1 : w7.frozen? ⟨w.heap.size + 1, 1, none⟩ = false := frozen_of_row _ _ _ _ _ (ha.cells GD.out.out GD.out.nxt (by decide)); have hm2 := GD.out.nxt_step rfl (by decide) ho hb ha; obtain ⟨A3, c3, rfl⟩ := Kd.R_slice ho; rw [List.length_append, List.length_singleton] at hm2; have HM2 := Lib.hid hm2; clear ho hb ha hm2))
              go_roundw
              case rel => exact ⟨c + 1, _, by omega, by go_num, by rw [HE1.out]; exact HL, by rw [HE1.out, HE2.out]; exact HM2⟩
              case measure => simp [intOf]; omega
            · rw [if_neg hm, if_pos rfl] at LK
              obtain ⟨e1, e2⟩ := hcond2.out hm
              by_cases hfull : L1.length = 4096
              · have HER : Hid (srE k step first = 81) := Lib.hid (by
                  refine sr_many hk (m := i * k + (c + 1)) ?_ ?_
                  · have h3 : (i + 1) * k ≤ 4096 * k := Nat.mul_le_mul (by omega) (Nat.le_refl _)
                    rw [Nat.succ_mul] at h3
                    omega
                  · rw [e1, List.length_append, hfull]; simp)
                have HVN := Lib.hid (srV_no (k := k) (step := step) (first := first) good (by rw [HER.out]; decide))
                have HLK := Aside0.mk LK
                have hfb : ((L1.length : Int) == 4096) = true := by rw [beq_iff_eq]; omega
                have hfb2 : (L1.length == 4096) = true := by rw [beq_iff_eq]; omega
                clear e1 e2 LK hcond hcond2 hm hfull
                go_wp2_with (first | ((with_reducible refine gate_look (c := true) rfl ?_); refine mp_look _ _ _ _ rfl _ _ _ rfl rfl rfl HLK.out ?_) | ((with_reducible refine gate_st (t := 25) rfl ?_); refine wpList_store_row rfl 25 _ _ rfl w.heap.size #[.int .i64 0, .slice none 0 0, .slice none 0 0] rfl rfl 25 _ GD.out.res (by show _ = some 3; kernel_rfl) rfl (by simp [Value.oneCell']) ?_))
                refine bodyPost_ret (v := .tuple #[.agg #[.int .i64 0, .slice none 0 0, .slice none 0 0], .int .i64 81]) ?_ rfl ⟨_, _, by rw [HVN.out, HER.out], by rw [HVN.out]; exact Kd.R_nil _ _ _ _ _, by rw [HVN.out]; exact Kd.R_nil _ _ _ _ _, bl_row GD.out.bel (Nat.le_refl _) _⟩
                refine (results_cell_tmp (p := 8) (t := 9) (by rfl) _ _ w.heap.size 25 _ _ _ ?_ (setRow_heap _ _ _ _ _ _ GD.out.res) Try.underlying25 rfl (by show _ = some 3; kernel_rfl)).trans ?_ <;> rfl
              · obtain ⟨w8, hrun, hM, hT⟩ := nents_put (s := t) GD.out.mp int_law encI_inj hky.out (encI_keyw (by omega)) Try.underlying106 hm
                have HE1 := Lib.hid e1; have HE2 := Lib.hid e2
                have hfb : ((L1.length : Int) == 4096) = false := by rw [beq_eq_false_iff_ne]; omega
                have hfb2 : (L1.length == 4096) = false := by rw [beq_eq_false_iff_ne]; omega
                have HLK := Aside0.mk LK; have HP := Aside0.mk hrun; have HMM := Aside0.mk hM; have HTN := Aside0.mk hT
                obtain ⟨t2, t3, t5, t6, t7, t8⟩ := GD.out.turn rfl hT
                have HT5 := Aside0.mk t5; have HT8 := Aside0.mk t8
                have HLL := Lib.hid (show (L1 ++ [t]).length ≤ 4096 by rw [List.length_append, List.length_singleton]; omega)
                clear e1 e2 LK hcond hcond2 hm hrun hM hT t2 t3 t5 t6 t7 t8 hfull
                go_wp2_with (first | ((with_reducible refine gate_look (c := true) rfl ?_); refine mp_look _ _ _ _ rfl _ _ _ rfl rfl rfl HLK.out ?_) | ((with_reducible refine gate_put rfl ?_); refine mp_put _ _ _ _ rfl _ _ _ rfl rfl rfl rfl HP.out ?_) | ((with_reducible refine gate_builtin (b := .append) (xs := #[.tmp 70, .tmp 72]) rfl ?_); at_builtin; refine wpl_append natK (w0 := w) w.heap.size rfl (.tmp 70) (.tmp 72) 22 3 (.int .i64 0) 8 rfl Try.underlying22 info_int rfl (by decide) (by omega) _ L1 t [.int .i64 t] rfl rfl rfl HT5.out HT8.out HT8.out.size (by omega) (fun v3 w7 ho hb ha => ?_); have hm2 := GD.out.lst_step rfl (by decide) (by decide) HTN.out HMM.out ho hb ha; obtain ⟨A3, c3, rfl⟩ := Kd.R_slice ho; rw [List.length_append, List.length_singleton] at hm2; have HM2 := Lib.hid hm2; clear ho hb ha hm2; have c4 : w7.cell? ⟨w.heap.size + 1, 1, none⟩ = some vn2 := (by rw [cell_of_row _ _ _ _ _ _ HM2.out.out]; rfl)) | ((with_reducible refine gate_builtin (b := .append) (xs := #[.tmp 75, .tmp 77]) rfl ?_); at_builtin; refine wpl_append (Kd.int .i64) (w0 := w) w.heap.size rfl (.tmp 75) (.tmp 77) 22 3 (.int .i64 0) 8 rfl Try.underlying22 info_int rfl (by decide) (by omega) vn2 (zl N1) (L1.length : Int) [.int .i64 L1.length] rfl rfl rfl HM2.out.nxt HM2.out.bel HM2.out.bel.size (by rw [zl_len]; have := hnl.out; omega) (fun v4 w9 ho hb ha => ?_); have d1 : w9.cell? ⟨w.heap.size + 1, 1, none⟩ = some vn2 := (by rw [cell_of_row _ _ _ _ _ _ (ha.cells HM2.out.out HM2.out.nxt (by decide))]; rfl); have f1 : w9.frozen? ⟨w.heap.size + 1, 1, none⟩ = false := frozen_of_row _ _ _ _ _ (ha.cells HM2.out.out HM2.out.nxt (by decide)); have hm3 := HM2.out.nxt_step rfl (by decide) ho hb ha; obtain ⟨A4, c4', rfl⟩ := Kd.R_slice ho; rw [List.length_append, List.length_singleton] at hm3; have HM3 := Lib.hid hm3; clear ho hb ha hm3))
                go_roundw
                case rel => exact ⟨c + 1, _, by omega, by go_num, by rw [HE1.out]; exact HLL, by rw [HE1.out, HE2.out]; exact HM3⟩
                case measure => simp [intOf]; omega
          · have hce : c = k := by omega
            have HMM : Hid ((i + 1 ≤ (bs k step first ((i + 1) * k)).length ∧ (bs k step first ((i + 1) * k)).length ≤ 4096) ∧ SS natK 3 encI w wr w.heap.size (k : Int) (w.heap.size + 1) (w.heap.size + 1 + 1) (.slice (some ⟨lb2, 0, none⟩) (bs k step first (i * k + c)).length lc2) vn2 v1 (bs k step first ((i + 1) * k)) (nx k step first ((i + 1) * k)) (sac k step first good (i + 1) ((i + 1) * k))) := Lib.hid (by
              have e : (i + 1) * k = i * k + c := by rw [Nat.succ_mul, hce]
              have h1 : (bs k step first (i * k)).length ≤ (bs k step first ((i + 1) * k)).length := by
                rw [bs_len, bs_len]; exact bw_le (by omega)
              refine ⟨⟨by omega, by rw [e]; exact hL⟩, ?_⟩
              rw [sac_keep good (show i * k ≤ (i + 1) * k by omega) (by omega), e]
              exact G.out)
            go_wp2
            go_roundw
            case rel => exact ⟨i + 1, _, _, by go_num, Lib.hid HMM.out.1, Lib.hid HMM.out.2⟩
            case measure => simp [intOf]; omega
    · have hie : (bs k step first (i * k)).length = i := by omega
      have hcl : Closed k step first i := by unfold Closed; rw [← bs_len]; exact hie
      obtain ⟨e1, e2⟩ := sr_of_closed hk (by omega) hcl
      have HE0 : Hid (srE k step first = 0) := Lib.hid (by unfold srE; rw [if_pos (by omega)])
      have HV := Lib.hid (srV_ok good HE0.out)
      rw [e2] at HV
      have HAC : Hid ((srL k step first).map good = sac k step first good i (i * k)) := Lib.hid (by unfold sac; rw [e1, List.take_of_length_le (by omega)])
      obtain ⟨An, cn2, rfl⟩ := Kd.R_slice H.out.nxt
      obtain ⟨Aa, ca, rfl⟩ := Kd.R_slice H.out.acc
      clear e1 e2 hcl hlcell
      go_wp2_with (first | ((with_reducible refine gate_ld (t := 25) rfl ?_); refine ld_au (y := ⟨(k : Int), zl (nx k step first (i * k)), sac k step first good i (i * k)⟩) (A := An) (c := cn2) (B := Aa) (d := ca) _ rfl (w.heap.size + 1) rfl H.out.out rfl ?_) | ((with_reducible refine gate_st (t := 25) rfl ?_); refine wpList_store_row rfl 25 _ _ rfl w.heap.size (ac ⟨(k : Int), zl (nx k step first (i * k)), sac k step first good i (i * k)⟩ An cn2 Aa ca) rfl rfl 25 _ H.out.res (by show _ = some 3; kernel_rfl) rfl (by simp [Value.oneCell']) ?_))
      refine bodyPost_ret (v := .tuple #[.agg (ac ⟨(k : Int), zl (nx k step first (i * k)), sac k step first good i (i * k)⟩ An cn2 Aa ca), .int .i64 0]) ?_ rfl ⟨_, _, by rw [HV.out, HE0.out], ?_, ?_, bl_row H.out.bel (Nat.le_refl _) _⟩
      · refine (results_cell_tmp (p := 8) (t := 9) (by rfl) _ _ w.heap.size 25 _ _ _ ?_ (setRow_heap _ _ _ _ _ _ H.out.res) Try.underlying25 rfl (by show _ = some 3; kernel_rfl)).trans ?_ <;> rfl
      · rw [HV.out]; exact own_rowT H.out.res H.out.nxt (by decide) rfl _
      · rw [HV.out]; show Kd.R Kd.bool 4 _ _ _ _ ((srL k step first).map good); rw [HAC.out]; exact own_rowT H.out.res H.out.acc (by decide) rfl _
end Go.Proofs.Ytjckidjljkjhfaa

namespace Go.Proofs.Ytjckidjljkjhfaa
open Go.RowKit Go.Proofs.YtjckidjljkjhfaaW.PrintWords
set_option linter.unusedSimpArgs false
set_option linter.unusedVariables false
set_option maxRecDepth 100000 in
set_option maxHeartbeats 400000 in
theorem fromN_any (x : AutV) (A : Option Addr) (c : Nat) (B : Option Addr) (d : Nat) (g : Nat) (hx : AutOk x) (W : World) (hg : W.heap[g]? = some (AB x A c B d)) (hr : ARd W x A B) (s l : Nat) (hs : s < x.acc.length) (hl : (l : Int) < x.k) :
    Calls Try.prog 88 #[.int .i64 (s : Int), .int .i64 (l : Int), .pointer (some ⟨g, 0, none⟩)] W fun e w' => e = .returned (.int .i64 ((stp x s l : Nat) : Int)) ∧ Below W.heap.size W w' := by
  obtain ⟨q1, q2⟩ := stp_lt hx hs hl
  have hix := stp_idx hx hs hl
  have hk1 := hx.1; have hk2 := hx.2.1; have hn2 := hx.2.2.2.1; have hnl := hx.2.2.2.2.1
  obtain ⟨ad, hA, hcell⟩ := Kd.at_int hr.next ((s * x.k.toNat + l : Nat) : Int) (by omega) (by omega)
  rw [Int.toNat_natCast, q2] at hcell
  have hmul : (s : Int) * x.k = ((s * x.k.toNat : Nat) : Int) := by
    obtain ⟨kk, hkk⟩ := Int.eq_ofNat_of_zero_le (show 0 ≤ x.k by omega)
    rw [hkk, Int.toNat_natCast]; push_cast; rfl
  have hP : s * x.k.toNat ≤ 40960 := by
    have : s * x.k.toNat ≤ 4096 * 10 := Nat.mul_le_mul (by omega) (by omega)
    omega
  have c0 : W.cell? ⟨g, 0, none⟩ = some (.int .i64 x.k) := by rw [cell_of_row _ _ _ _ _ _ hg]; rfl
  have c1 : W.cell? ⟨g, 1, none⟩ = some (.slice A x.next.length c) := by rw [cell_of_row _ _ _ _ _ _ hg]; rfl
  have hxl : x.next.length ≤ 32768 := by
    have := aut_mul hk1 hk2 hn2
    omega
  have HMUL := Lib.hid hmul
  generalize s * x.k.toNat = p at *
  generalize stp x s l = z at *
  subst hA
  have hw5 : IntKind.i64.wrap ((s : Int) * x.k) = (p : Int) := by rw [HMUL.out]; exact IntWalk.i64_in _ ⟨by omega, by omega⟩
  have hw11 : IntKind.i64.wrap ((p : Int) + (l : Int)) = (p : Int) + (l : Int) := IntWalk.i64_in _ ⟨by omega, by omega⟩
  have hw12 : 0 ≤ (p : Int) + (l : Int) := by omega
  have hw14 : (p : Int) + (l : Int) < (x.next.length : Int) := by omega
  have hw13 : ((p : Int) + (l : Int)).toNat = p + l := by omega
  clear hmul hx hr hg hnl hix q1 q2 hs hl hP hxl hn2
  go_enter Try.func88, Try.ntmps88
  go_wp2
  go_ret
  exact ⟨rfl, Below.refl _ _⟩
set_option maxRecDepth 100000 in
set_option maxHeartbeats 400000 in
theorem reachG_any (x : AutV) (A : Option Addr) (c : Nat) (B : Option Addr) (d : Nat) (g : Nat) (W : World) (hg : W.heap[g]? = some (AB x A c B d)) (hr : ARd W x A B) (s : Nat) (hs : s < x.acc.length) :
    Calls Try.prog 58 #[.int .i64 (s : Int), .pointer (some ⟨g, 0, none⟩)] W fun e w' => e = .returned (.bool (rdOf false x.acc (s : Int))) ∧ Below W.heap.size W w' := by
  obtain ⟨ad, hA, hcell⟩ := Kd.at_bool hr.acc (s : Int) (by omega) (by omega)
  rw [Int.toNat_natCast] at hcell
  have c1 : W.cell? ⟨g, 2, none⟩ = some (.slice B x.acc.length d) := by rw [cell_of_row _ _ _ _ _ _ hg]; rfl
  generalize rdOf false x.acc (s : Int) = b at *
  subst hA
  clear hr hg
  go_enter Try.func58, Try.ntmps58
  go_wp2
  go_ret
  exact ⟨rfl, Below.refl _ _⟩
/-- What first and step keep holds of every state met. -/
theorem bs_all {σ : Type} [DecidableEq σ] {k : Nat} {step : σ → Nat → σ} {first : σ} (hk : 0 < k) (p : σ → Prop) (hf : p first) (hs : ∀ s c, p s → c < k → p (step s c)) (m : Nat) : ∀ s ∈ bs k step first m, p s := by
  intro s h
  obtain ⟨w, hw, rfl⟩ := List.mem_map.1 h
  have hl := bw_let hk w hw
  have key : ∀ (w : List Nat) (s : σ), p s → (∀ c ∈ w, c < k) → p (rn step s w) := by
    intro w
    induction w with
    | nil => intro s h _; exact h
    | cons c r ih => intro s h hc; exact ih _ (hs s c h (hc c List.mem_cons_self)) (fun d hd => hc d (List.mem_cons_of_mem _ hd))
  exact key w _ hf hl
theorem stp_all {x : AutV} (hx : AutOk x) {first : Nat} (hf : first < x.acc.length) (m : Nat) : ∀ s ∈ bs x.k.toNat (stp x) first m, s < x.acc.length :=
  have h1 := hx.1
  bs_all (by omega) (fun s => s < x.acc.length) hf (fun s c hs hc => (stp_lt hx hs (by omega)).1) m
theorem sr_small {x : AutV} (hx : AutOk x) {first : Nat} (hf : first < x.acc.length) : srE x.k.toNat (stp x) first = 0 := by
  unfold srE
  rw [if_pos]
  have h4 := hx.2.2.2.1
  have : (srL x.k.toNat (stp x) first).length ≤ x.acc.length := nodup_le (bs_nodup _) (stp_all hx hf _)
  omega
set_option maxRecDepth 100000 in
set_option maxHeartbeats 800000 in
theorem from_any (x : AutV) (A : Option Addr) (c : Nat) (B : Option Addr) (d : Nat) (hx : AutOk x) (first : Nat) (hf : first < x.acc.length) (good : Nat → Bool) (fg : FuncId) (cg : Array Value) (w : World) (hr : ARd w x A B)
    (heg : ∀ args W, (callFunc fg args).run Try.prog W = .ok (.enter fg args) W)
    (HG : ∀ s, s < x.acc.length → ∀ W : World, Below w.heap.size w W → Calls Try.prog fg (#[.int .i64 (s : Int)] ++ cg) W fun e w' => e = .returned (.bool (good s)) ∧ Below W.heap.size W w') :
    Calls Try.prog 57 #[.agg (ac x A c B d), .int .i64 (first : Int), .func (.func fg) #[] cg] w fun e w' => ∃ vn va, e = .returned (.agg #[.int .i64 (srV x.k.toNat (stp x) first good).k, vn, va]) ∧
      Own w' w.heap.size vn (srV x.k.toNat (stp x) first good).next ∧ Kd.R Kd.bool 4 w' w.heap.size (fun _ => True) va (srV x.k.toNat (stp x) first good).acc ∧ Below w.heap.size w w' := by
  have h1 := hx.1; have h2 := hx.2.1
  have HR := Aside0.mk hr
  have H0 := Lib.hid (((Hp.start w).alloc (AB x A c B d)).alloc (.cells #[.int .i64 0, .slice none 0 0, .slice none 0 0] 25))
  have SR := Aside0.mk (searchI_any x.k.toNat (by omega) (by omega) (stp x) first good 88 fg #[.pointer (some ⟨w.heap.size, 0, none⟩)] cg ((w.alloc (AB x A c B d)).alloc (.cells #[.int .i64 0, .slice none 0 0, .slice none 0 0] 25))
    (fun m s hs => by have := stp_all hx hf m s hs; have := hx.2.2.2.1; omega) (fun args W => by kernel_rfl) heg
    (fun s m l hs hl W hb => fromN_any x A c B d w.heap.size hx W (hp_below hb (by rw [World.size_alloc, World.size_alloc]; omega) (H0.out.at 1 rfl)) (HR.out.below (bl_then H0.out.2 (hb.mono (Nat.le_refl _)))) s l (stp_all hx hf m s hs) (by omega))
    (fun s m hs W hb => HG s (stp_all hx hf m s hs) W (bl_then H0.out.2 (hb.mono (Nat.le_refl _)))))
  have c0 : ((w.alloc (AB x A c B d)).alloc (.cells #[.int .i64 0, .slice none 0 0, .slice none 0 0] 25)).cell? ⟨w.heap.size, 0, none⟩ = some (.int .i64 x.k) := by rw [cell_of_row _ _ _ _ _ _ (H0.out.at 1 rfl)]; rfl
  have hk : ((x.k.toNat : Nat) : Int) = x.k := by omega
  rw [hk] at SR
  generalize srV x.k.toNat (stp x) first good = V at *
  generalize srE x.k.toNat (stp x) first = E at *
  clear HG hk hx hr h1 h2
  go_enter Try.func57, Try.ntmps57
  go_wp2_with fail
  refine SR.out.mono ?_
  rintro e w3 ⟨vn, va, rfl, hn, ha, hb⟩
  obtain ⟨An, cn, rfl⟩ := Kd.R_slice hn
  obtain ⟨Aa, ca, rfl⟩ := Kd.R_slice ha
  have H2 := Lib.hid ((H0.out.keep hb).alloc (AB V An cn Aa ca))
  have HS := Lib.hid (show (w3.alloc (AB V An cn Aa ca)).heap[w.heap.size + 1]? = some (.cells #[.int .i64 0, .slice none 0 0, .slice none 0 0] 25 (0, 0)) from by have := H2.out.at 1 rfl; rw [World.size_alloc] at this; exact this)
  have HN := Aside0.mk (Kd.R_alloc (Kd.R_lower hn H0.out.2.size) (AB V An cn Aa ca))
  have HA := Aside0.mk (Kd.R_alloc (Kd.R_lower ha H0.out.2.size) (AB V An cn Aa ca))
  clear hn ha hb SR H0 c0
  go_wp2_with (first | ((with_reducible refine gate_st (t := 25) rfl ?_); refine st_au_new (y := V) (A := An) (c := cn) (B := Aa) (d := ca) _ _ rfl rfl rfl rfl rfl ?_) | ((with_reducible refine gate_ld (t := 25) rfl ?_); refine ld_au (y := V) _ rfl w3.heap.size rfl (H2.out.at 0 rfl) rfl ?_) | ((with_reducible refine gate_st (t := 25) rfl ?_); refine wpList_store_row rfl 25 _ _ rfl (w.heap.size + 1) (ac V An cn Aa ca) rfl rfl 25 _ HS.out (by show _ = some 3; kernel_rfl) rfl (by simp [Value.oneCell']) ?_))
  refine bodyPost_ret (v := .agg (ac V An cn Aa ca)) ?_ rfl ⟨_, _, rfl, own_rowT HS.out HN.out (by decide) rfl _, own_rowT HS.out HA.out (by decide) rfl _, bl_row H2.out.2 (by omega) _⟩
  refine (results_cell_row (p := 6) (by rfl) _ _ (w.heap.size + 1) 25 _ _ _ ?_ (setRow_heap _ _ _ _ _ _ HS.out) Try.underlying25 rfl (by show _ = some 3; kernel_rfl)).trans ?_ <;> rfl
end Go.Proofs.Ytjckidjljkjhfaa

namespace Go.Proofs.Ytjckidjljkjhfaa
open Go.RowKit Go.Proofs.YtjckidjljkjhfaaW.PrintWords
set_option linter.unusedSimpArgs false
set_option linter.unusedVariables false
set_option maxRecDepth 100000 in
set_option maxHeartbeats 400000 in
theorem notG_any (x : AutV) (A : Option Addr) (c : Nat) (B : Option Addr) (d : Nat) (g : Nat) (W : World) (hg : W.heap[g]? = some (AB x A c B d)) (hr : ARd W x A B) (s : Nat) (hs : s < x.acc.length) :
    Calls Try.prog 60 #[.int .i64 (s : Int), .pointer (some ⟨g, 0, none⟩)] W fun e w' => e = .returned (.bool (!rdOf false x.acc (s : Int))) ∧ Below W.heap.size W w' := by
  obtain ⟨ad, hA, hcell⟩ := Kd.at_bool hr.acc (s : Int) (by omega) (by omega)
  rw [Int.toNat_natCast] at hcell
  have c1 : W.cell? ⟨g, 2, none⟩ = some (.slice B x.acc.length d) := by rw [cell_of_row _ _ _ _ _ _ hg]; rfl
  generalize rdOf false x.acc (s : Int) = b at *
  subst hA
  clear hr hg
  go_enter Try.func60, Try.ntmps60
  go_wp2
  go_ret
  exact ⟨rfl, Below.refl _ _⟩
/-- What is told of an automaton that may not be: the empty one. -/
def noV : AutV := ⟨0, [], []⟩
/-- The states met from one, if the automaton may be. -/
noncomputable def fromV (x : AutV) (first : Nat) (good : Nat → Bool) : AutV := if autE x = 0 then srV x.k.toNat (stp x) first good else noV
set_option maxRecDepth 100000 in
set_option maxHeartbeats 800000 in
theorem reach_any (x : AutV) (A : Option Addr) (c : Nat) (B : Option Addr) (d : Nat) (w : World) (hr : ARd w x A B) :
    Calls Try.prog 24 #[.agg (ac x A c B d)] w fun e w' => ∃ vn va, e = .returned (.tuple #[.agg #[.int .i64 (fromV x 0 (fun s => rdOf false x.acc (s : Int))).k, vn, va], .int .i64 (autE x)]) ∧
      Own w' w.heap.size vn (fromV x 0 (fun s => rdOf false x.acc (s : Int))).next ∧ Kd.R Kd.bool 4 w' w.heap.size (fun _ => True) va (fromV x 0 (fun s => rdOf false x.acc (s : Int))).acc ∧ Below w.heap.size w w' := by
  have HR := Aside0.mk hr
  have h00 := ((Hp.start w).alloc (AB x A c B d)).alloc (.cells #[.int .i64 0, .slice none 0 0, .slice none 0 0] 25)
  rw [World.size_alloc] at h00
  have H0 := Lib.hid h00
  clear h00
  have CK := Aside0.mk (acheck_any x A c B d ((w.alloc (AB x A c B d)).alloc (.cells #[.int .i64 0, .slice none 0 0, .slice none 0 0] 25)) (hr.below H0.out.2))
  by_cases h0 : autE x = 0
  · have hx := autE_is h0
    have FR := Aside0.mk (fun (W : World) (H : Hp [(w.heap.size + 1, .cells #[.int .i64 0, .slice none 0 0, .slice none 0 0] 25), (w.heap.size, AB x A c B d)] w W) => from_any x A c B d hx 0 (by have := hx.2.2.1; omega) (fun s => rdOf false x.acc (s : Int)) 58 #[.pointer (some ⟨w.heap.size, 0, none⟩)] W (HR.out.below H.2) (fun args W => by kernel_rfl)
      (fun s hs W2 hb => reachG_any x A c B d w.heap.size W2 (hp_below' hb (H.at 1 rfl)) ((HR.out.below H.2).below hb) s hs))
    have hV : fromV x 0 (fun s => rdOf false x.acc (s : Int)) = srV x.k.toNat (stp x) 0 (fun s => rdOf false x.acc (s : Int)) := by unfold fromV; rw [if_pos h0]
    rw [hV]
    rw [h0] at CK ⊢
    generalize srV x.k.toNat (stp x) 0 (fun s => rdOf false x.acc (s : Int)) = V at *
    clear hV hx hr h0
    go_enter Try.func24, Try.ntmps24
    go_wp2_with (refine ld_au _ rfl w.heap.size rfl (H0.out.at 1 rfl) rfl ?_)
    refine CK.out.mono ?_
    rintro e w1 ⟨rfl, hb⟩
    have H1 := Lib.hid (H0.out.keep hb)
    clear hb CK H0
    go_wp2_with (refine ld_au _ rfl w.heap.size rfl (H1.out.at 1 rfl) rfl ?_)
    refine (FR.out w1 H1.out).mono ?_
    rintro e w3 ⟨vn, va, rfl, hn, ha, hb⟩
    obtain ⟨An, cn, rfl⟩ := Kd.R_slice hn
    obtain ⟨Aa, ca, rfl⟩ := Kd.R_slice ha
    have H2 := Lib.hid (H1.out.keep hb)
    have HS := Lib.hid (show w3.heap[w.heap.size + 1]? = some (.cells #[.int .i64 0, .slice none 0 0, .slice none 0 0] 25 (0, 0)) from H2.out.at 0 rfl)
    have HN := Aside0.mk (Kd.R_lower hn H1.out.2.size)
    have HA := Aside0.mk (Kd.R_lower ha H1.out.2.size)
    clear hn ha hb FR H1
    go_wp2_with ((with_reducible refine gate_st (t := 25) rfl ?_); refine wpList_store_row rfl 25 _ _ rfl (w.heap.size + 1) (ac V An cn Aa ca) rfl rfl 25 _ HS.out (by show _ = some 3; kernel_rfl) rfl (by simp [Value.oneCell']) ?_)
    refine bodyPost_ret (v := .tuple #[.agg (ac V An cn Aa ca), .int .i64 0]) ?_ rfl ⟨_, _, rfl, own_rowT HS.out HN.out (by decide) rfl _, own_rowT HS.out HA.out (by decide) rfl _, bl_row H2.out.2 (by omega) _⟩
    refine (results_cell_tmp (p := 2) (t := 3) (by rfl) _ _ (w.heap.size + 1) 25 _ _ _ ?_ (setRow_heap _ _ _ _ _ _ HS.out) Try.underlying25 rfl (by show _ = some 3; kernel_rfl)).trans ?_ <;> rfl
  · have h80 : autE x = 80 := autE_no (fun h => h0 (autE_ok h))
    have hV : fromV x 0 (fun s => rdOf false x.acc (s : Int)) = noV := by unfold fromV; rw [if_neg h0]
    rw [hV]
    rw [h80] at CK ⊢
    clear hV hr h0 h80
    go_enter Try.func24, Try.ntmps24
    go_wp2_with (refine ld_au _ rfl w.heap.size rfl (H0.out.at 1 rfl) rfl ?_)
    refine CK.out.mono ?_
    rintro e w1 ⟨rfl, hb⟩
    have H1 := Lib.hid (H0.out.keep hb)
    have HS := Lib.hid (show w1.heap[w.heap.size + 1]? = some (.cells #[.int .i64 0, .slice none 0 0, .slice none 0 0] 25 (0, 0)) from H1.out.at 0 rfl)
    clear hb CK H0
    go_wp2_with ((with_reducible refine gate_st (t := 25) rfl ?_); refine wpList_store_row rfl 25 _ _ rfl (w.heap.size + 1) #[.int .i64 0, .slice none 0 0, .slice none 0 0] rfl rfl 25 _ HS.out (by show _ = some 3; kernel_rfl) rfl (by simp [Value.oneCell']) ?_)
    refine bodyPost_ret (v := .tuple #[.agg #[.int .i64 0, .slice none 0 0, .slice none 0 0], .int .i64 80]) ?_ rfl ⟨_, _, rfl, Kd.R_nil _ _ _ _ _, Kd.R_nil _ _ _ _ _, bl_row H1.out.2 (by omega) _⟩
    refine (results_cell_tmp (p := 2) (t := 3) (by rfl) _ _ (w.heap.size + 1) 25 _ _ _ ?_ (setRow_heap _ _ _ _ _ _ HS.out) Try.underlying25 rfl (by show _ = some 3; kernel_rfl)).trans ?_ <;> rfl
set_option maxRecDepth 100000 in
set_option maxHeartbeats 800000 in
theorem not_any (x : AutV) (A : Option Addr) (c : Nat) (B : Option Addr) (d : Nat) (w : World) (hr : ARd w x A B) :
    Calls Try.prog 26 #[.agg (ac x A c B d)] w fun e w' => ∃ vn va, e = .returned (.tuple #[.agg #[.int .i64 (fromV x 0 (fun s => !rdOf false x.acc (s : Int))).k, vn, va], .int .i64 (autE x)]) ∧
      Own w' w.heap.size vn (fromV x 0 (fun s => !rdOf false x.acc (s : Int))).next ∧ Kd.R Kd.bool 4 w' w.heap.size (fun _ => True) va (fromV x 0 (fun s => !rdOf false x.acc (s : Int))).acc ∧ Below w.heap.size w w' := by
  have HR := Aside0.mk hr
  have h00 := ((Hp.start w).alloc (AB x A c B d)).alloc (.cells #[.int .i64 0, .slice none 0 0, .slice none 0 0] 25)
  rw [World.size_alloc] at h00
  have H0 := Lib.hid h00
  clear h00
  have CK := Aside0.mk (acheck_any x A c B d ((w.alloc (AB x A c B d)).alloc (.cells #[.int .i64 0, .slice none 0 0, .slice none 0 0] 25)) (hr.below H0.out.2))
  by_cases h0 : autE x = 0
  · have hx := autE_is h0
    have FR := Aside0.mk (fun (W : World) (H : Hp [(w.heap.size + 1, .cells #[.int .i64 0, .slice none 0 0, .slice none 0 0] 25), (w.heap.size, AB x A c B d)] w W) => from_any x A c B d hx 0 (by have := hx.2.2.1; omega) (fun s => !rdOf false x.acc (s : Int)) 60 #[.pointer (some ⟨w.heap.size, 0, none⟩)] W (HR.out.below H.2) (fun args W => by kernel_rfl)
      (fun s hs W2 hb => notG_any x A c B d w.heap.size W2 (hp_below' hb (H.at 1 rfl)) ((HR.out.below H.2).below hb) s hs))
    have hV : fromV x 0 (fun s => !rdOf false x.acc (s : Int)) = srV x.k.toNat (stp x) 0 (fun s => !rdOf false x.acc (s : Int)) := by unfold fromV; rw [if_pos h0]
    rw [hV]
    rw [h0] at CK ⊢
    generalize srV x.k.toNat (stp x) 0 (fun s => !rdOf false x.acc (s : Int)) = V at *
    clear hV hx hr h0
    go_enter Try.func26, Try.ntmps26
    go_wp2_with (refine ld_au _ rfl w.heap.size rfl (H0.out.at 1 rfl) rfl ?_)
    refine CK.out.mono ?_
    rintro e w1 ⟨rfl, hb⟩
    have H1 := Lib.hid (H0.out.keep hb)
    clear hb CK H0
    go_wp2_with (refine ld_au _ rfl w.heap.size rfl (H1.out.at 1 rfl) rfl ?_)
    refine (FR.out w1 H1.out).mono ?_
    rintro e w3 ⟨vn, va, rfl, hn, ha, hb⟩
    obtain ⟨An, cn, rfl⟩ := Kd.R_slice hn
    obtain ⟨Aa, ca, rfl⟩ := Kd.R_slice ha
    have H2 := Lib.hid (H1.out.keep hb)
    have HS := Lib.hid (show w3.heap[w.heap.size + 1]? = some (.cells #[.int .i64 0, .slice none 0 0, .slice none 0 0] 25 (0, 0)) from H2.out.at 0 rfl)
    have HN := Aside0.mk (Kd.R_lower hn H1.out.2.size)
    have HA := Aside0.mk (Kd.R_lower ha H1.out.2.size)
    clear hn ha hb FR H1
    go_wp2_with ((with_reducible refine gate_st (t := 25) rfl ?_); refine wpList_store_row rfl 25 _ _ rfl (w.heap.size + 1) (ac V An cn Aa ca) rfl rfl 25 _ HS.out (by show _ = some 3; kernel_rfl) rfl (by simp [Value.oneCell']) ?_)
    refine bodyPost_ret (v := .tuple #[.agg (ac V An cn Aa ca), .int .i64 0]) ?_ rfl ⟨_, _, rfl, own_rowT HS.out HN.out (by decide) rfl _, own_rowT HS.out HA.out (by decide) rfl _, bl_row H2.out.2 (by omega) _⟩
    refine (results_cell_tmp (p := 2) (t := 3) (by rfl) _ _ (w.heap.size + 1) 25 _ _ _ ?_ (setRow_heap _ _ _ _ _ _ HS.out) Try.underlying25 rfl (by show _ = some 3; kernel_rfl)).trans ?_ <;> rfl
  · have h80 : autE x = 80 := autE_no (fun h => h0 (autE_ok h))
    have hV : fromV x 0 (fun s => !rdOf false x.acc (s : Int)) = noV := by unfold fromV; rw [if_neg h0]
    rw [hV]
    rw [h80] at CK ⊢
    clear hV hr h0 h80
    go_enter Try.func26, Try.ntmps26
    go_wp2_with (refine ld_au _ rfl w.heap.size rfl (H0.out.at 1 rfl) rfl ?_)
    refine CK.out.mono ?_
    rintro e w1 ⟨rfl, hb⟩
    have H1 := Lib.hid (H0.out.keep hb)
    have HS := Lib.hid (show w1.heap[w.heap.size + 1]? = some (.cells #[.int .i64 0, .slice none 0 0, .slice none 0 0] 25 (0, 0)) from H1.out.at 0 rfl)
    clear hb CK H0
    go_wp2_with ((with_reducible refine gate_st (t := 25) rfl ?_); refine wpList_store_row rfl 25 _ _ rfl (w.heap.size + 1) #[.int .i64 0, .slice none 0 0, .slice none 0 0] rfl rfl 25 _ HS.out (by show _ = some 3; kernel_rfl) rfl (by simp [Value.oneCell']) ?_)
    refine bodyPost_ret (v := .tuple #[.agg #[.int .i64 0, .slice none 0 0, .slice none 0 0], .int .i64 80]) ?_ rfl ⟨_, _, rfl, Kd.R_nil _ _ _ _ _, Kd.R_nil _ _ _ _ _, bl_row H1.out.2 (by omega) _⟩
    refine (results_cell_tmp (p := 2) (t := 3) (by rfl) _ _ (w.heap.size + 1) 25 _ _ _ ?_ (setRow_heap _ _ _ _ _ _ HS.out) Try.underlying25 rfl (by show _ = some 3; kernel_rfl)).trans ?_ <;> rfl
end Go.Proofs.Ytjckidjljkjhfaa

namespace Go.Proofs.Ytjckidjljkjhfaa
open Go.RowKit Go.Proofs.YtjckidjljkjhfaaW.PrintWords
set_option linter.unusedSimpArgs false
set_option linter.unusedVariables false
theorem info_str : (Try.prog.info? 9).map (fun i => (i.zero, i.size, i.bytes)) = some (some (.string ByteArray.empty), 1, 16) := by kernel_rfl
section
variable {α : Type} {P : Program} {l : List Oper} {Q : Exit → Act → World → Prop} {md : Region.Mode} {o : Oper} {a : Act} {K : Act → World → Prop}
/-- append(v, x), x one value in a box of its own. -/
theorem wp_app1 (enc : α → Value) {e1 : ∀ x, (enc x).oneCell' = true} {w0 W : World} (base : Nat) (s x : Operand) (t e : TypeId) (z : Value) (bytes : Nat)
    (ho : o.op = .call { callee := .builtin .append, args := #[s, x], argTypes := #[t, t] })
    (ht : P.underlying t = some (.slice e)) (hinfo : (P.info? e).map (fun i => (i.zero, i.size, i.bytes)) = some (some z, 1, bytes)) (hz : z.cells.size = 1) (hb0 : 0 < bytes)
    (v : Value) (xs : List α) (p : α) (b : Nat) (hs : a.eval s = v) (hx : a.eval x = .slice (some ⟨b, 0, none⟩) 1 1) {e' : TypeId} {fr : Nat × Nat} (hb : W.heap[b]? = some (.cells #[enc p] e' fr))
    (HO : (Kd.scalar enc e1).R e W base (fun _ => True) v xs) (HB : Below base w0 W) (hbase : base ≤ W.heap.size) (hl : (xs.length + 1) * bytes ≤ 140737488355328)
    (h : ∀ v1 w1, (Kd.scalar enc e1).R e w1 base (fun _ => True) v1 (xs ++ [p]) → Below base w0 w1 → Appd W w1 v v1 xs.length → K (a.put o.dst v1) w1) : o.wp P a W K Q := by
  have hown := Kd.own_of_R HO
  have hcell : W.cell? ⟨b, 0, none⟩ = some (enc p) := by rw [cell_of_row _ _ _ _ _ _ hb]; rfl
  have hlen : xs.length + 1 ≤ 140737488355328 := Nat.le_trans (Nat.le_mul_of_pos_right _ hb0) hl
  obtain ⟨v1, w1, hr, ho1, ha⟩ := app_keep (P := P) W base t o.type e z bytes ht hinfo hz v xs.length _ hown ⟨b, 0, none⟩ (enc p) hcell (by simp [Addr.add]) (e1 p) (by omega) hl hbase
  have hnew : (Kd.scalar enc e1).R e w1 base (fun _ => True) v1 (xs ++ [p]) := Kd.R_of_own (by rw [List.length_append, List.length_singleton]; simpa [encs] using ho1) (fun _ _ => trivial)
  have hB1 : Below base w0 w1 := HB.grown ha.grown hbase (own_base hown)
  unfold Oper.wp execOp
  simp only [ho, resolve, invoke, builtin, Sem.run_bind, Sem.run_pure, Result.andThen_ok, List.map_toArray, List.map_cons, List.map_nil, hs, hx, hr]
  exact h v1 w1 hnew hB1 ha
theorem Appd.app {W w1 : World} {v v1 : Value} {n : Nat} (h : Appd W w1 v v1 n) : App W w1 v v1 := ⟨h.grown, h.at_⟩
/-- All blocks but the two lists' own are as they were. -/
def Off (W : World) (v u : Value) (w : World) : Prop := W.heap.size ≤ w.heap.size ∧ ∀ g, g < W.heap.size → some g ≠ v.ownBlock → some g ≠ u.ownBlock → w.heap[g]? = W.heap[g]?
end
section
variable {α β : Type} {P : Program} {l : List Oper} {Q : Exit → Act → World → Prop} {md : Region.Mode} {a : Act}
/-- The state between the operations. -/
structure Mid (encA : α → Value) (e1A : ∀ x, (encA x).oneCell' = true) (eA : TypeId) (encB : β → Value) (e1B : ∀ x, (encB x).oneCell' = true) (eB : TypeId) (w0 W : World) (v0 u0 : Value) (lb i : Nat) (cv : Value) (v : Value) (xs : List α) (u : Value) (ys : List β) (w : World) : Prop where
  A : (Kd.scalar encA e1A).R eA w w0.heap.size (fun _ => True) v xs
  B : (Kd.scalar encB e1B).R eB w w0.heap.size (fun _ => True) u ys
  bel : Below w0.heap.size w0 w
  off : Off W v0 u0 w
  atv : v.ownBlock = v0.ownBlock ∨ ∃ b, v.ownBlock = some b ∧ W.heap.size ≤ b
  atu : u.ownBlock = u0.ownBlock ∨ ∃ b, u.ownBlock = some b ∧ W.heap.size ≤ b
  cell : w.cell? ⟨lb, i, none⟩ = some cv
variable {encA : α → Value} {e1A : ∀ x, (encA x).oneCell' = true} {eA : TypeId} {encB : β → Value} {e1B : ∀ x, (encB x).oneCell' = true} {eB : TypeId} {w0 W : World} {v0 u0 : Value} {lb i : Nat} {cv : Value} {v u : Value} {xs : List α} {ys : List β} {w w1 : World}
theorem Mid.box (h : Mid encA e1A eA encB e1B eB w0 W v0 u0 lb i cv v xs u ys w) (o : Obj) : Mid encA e1A eA encB e1B eB w0 W v0 u0 lb i cv v xs u ys (w.alloc o) :=
  ⟨Kd.R_grown h.A (World.grownBy_alloc w o none) (fun _ _ => by simp), Kd.R_grown h.B (World.grownBy_alloc w o none) (fun _ _ => by simp), bl_alloc h.bel o,
    ⟨by have := h.off.1; rw [World.size_alloc]; omega, fun g hg h1 h2 => (Below.heap_alloc w o g (by have := h.off.1; omega)).trans (h.off.2 g hg h1 h2)⟩, h.atv, h.atu, alloc_cell h.cell⟩
theorem at_then {W w : World} {v0 v v1 : Value} (h : v.ownBlock = v0.ownBlock ∨ ∃ b, v.ownBlock = some b ∧ W.heap.size ≤ b) (hw : W.heap.size ≤ w.heap.size) (h1 : v1.ownBlock = v.ownBlock ∨ ∃ b, v1.ownBlock = some b ∧ w.heap.size ≤ b) :
    v1.ownBlock = v0.ownBlock ∨ ∃ b, v1.ownBlock = some b ∧ W.heap.size ≤ b := by
  rcases h1 with h1 | ⟨b, h1, h2⟩
  · rw [h1]; exact h
  · exact .inr ⟨b, h1, by omega⟩
theorem Mid.appA (h : Mid encA e1A eA encB e1B eB w0 W v0 u0 lb i cv v xs u ys w) (hne : eA ≠ eB) (hcu : some lb = u0.ownBlock) (hlt : lb < W.heap.size) (hv0 : v0.ownBlock ≠ some lb) {v1 : Value} {x : α}
    (hR : (Kd.scalar encA e1A).R eA w1 w0.heap.size (fun _ => True) v1 (xs ++ [x])) (hb : Below w0.heap.size w0 w1) (ha : Appd w w1 v v1 xs.length) : Mid encA e1A eA encB e1B eB w0 W v0 u0 lb i cv v1 (xs ++ [x]) u ys w1 := by
  refine ⟨hR, (ha.app.own rfl h.B (sep_type h.B h.A (Ne.symm hne))).1, hb, ⟨Nat.le_trans h.off.1 ha.grown.size, fun g hg h1 h2 => ?_⟩, at_then h.atv h.off.1 ha.at_, h.atu, ?_⟩
  · refine (ha.grown.block g (Nat.lt_of_lt_of_le hg h.off.1) ?_).trans (h.off.2 g hg h1 h2)
    rcases h.atv with h3 | ⟨b, h3, h4⟩
    · rw [h3]; exact h1
    · rw [h3]; intro he; injection he with he; omega
  · have hb2 : w1.heap[lb]? = w.heap[lb]? := ha.grown.block _ (Nat.lt_of_lt_of_le hlt h.off.1) (by
      rcases h.atv with h3 | ⟨b, h3, h4⟩
      · rw [h3]; exact fun he => hv0 he.symm
      · rw [h3]; intro he; injection he with he; omega)
    have hc := h.cell
    unfold World.cell? at hc ⊢
    rw [hb2]; exact hc
theorem Mid.appB (h : Mid encA e1A eA encB e1B eB w0 W v0 u0 lb i cv v xs u ys w) (hne : eA ≠ eB) (hcu : some lb = u0.ownBlock) (hi : i < ys.length) (hlt : lb < W.heap.size) {u1 : Value} {y : β}
    (hR : (Kd.scalar encB e1B).R eB w1 w0.heap.size (fun _ => True) u1 (ys ++ [y])) (hb : Below w0.heap.size w0 w1) (ha : Appd w w1 u u1 ys.length) : Mid encA e1A eA encB e1B eB w0 W v0 u0 lb i cv v xs u1 (ys ++ [y]) w1 := by
  refine ⟨(ha.app.own rfl h.A (sep_type h.A h.B hne)).1, hR, hb, ⟨Nat.le_trans h.off.1 ha.grown.size, fun g hg h1 h2 => ?_⟩, h.atv, at_then h.atu h.off.1 ha.at_, ?_⟩
  · refine (ha.grown.block g (Nat.lt_of_lt_of_le hg h.off.1) ?_).trans (h.off.2 g hg h1 h2)
    rcases h.atu with h3 | ⟨b, h3, h4⟩
    · rw [h3]; exact h2
    · rw [h3]; intro he; injection he with he; omega
  · rcases h.atu with h3 | ⟨b, h3, h4⟩
    · exact (ha.pre lb (by rw [h3, hcu]) i hi).trans h.cell
    · have hb2 : w1.heap[lb]? = w.heap[lb]? := ha.grown.block _ (Nat.lt_of_lt_of_le hlt h.off.1) (by rw [h3]; intro he; injection he with he; omega)
      have hc := h.cell
      unfold World.cell? at hc ⊢
      rw [hb2]; exact hc
theorem put_comm (a : Act) {n m : Nat} (h : n ≠ m) (x y : Value) : (a.put (some n) x).put (some m) y = (a.put (some m) y).put (some n) x := by
  simp only [Act.put]
  rw [Array.setIfInBounds_comm _ _ h]
theorem set_comm (L : Array Bool) {n m : Nat} (h : n ≠ m) : (L.setIfInBounds n true).setIfInBounds m true = (L.setIfInBounds m true).setIfInBounds n true := Array.setIfInBounds_comm _ _ h
theorem eval_skip {a : Act} {n : Nat} {v : Value} {x : Operand} (h : x ≠ .tmp n) : (a.put (some n) v).eval x = a.eval x := Act.eval_put (fun d hd => by injection hd with hd; subst hd; exact h)
theorem eval_new {a : Act} {n : Nat} {v : Value} (h : n < a.tmps.size) : (a.put (some n) v).eval (.tmp n) = v := by
  simp [Act.put, Act.eval, h]
theorem put_size (a : Act) (d : Option Tmp) (v : Value) : (a.put d v).tmps.size = a.tmps.size := by
  cases d <;> simp [Act.put]
set_option maxHeartbeats 1000000 in
/-- Both boxes and both appends (these in the text's order), in whatever order they are drawn. -/
theorem any_apps2 {fuel : Nat} {listed : Array Bool} {i1 i2 j1 j2 n1 n2 n3 n4 : Nat} {o1 o2 o3 o4 : Oper}
    (h1 : l[i1]? = some o1) (h2 : l[i2]? = some o2) (h3 : l[j1]? = some o3) (h4 : l[j2]? = some o4)
    (g1 : o1.guard = none) (g2 : o2.guard = none) (g3 : o3.guard = none) (g4 : o4.guard = none)
    (d1 : o1.dst = some n1) (d2 : o2.dst = some n2) (d3 : o3.dst = some n3) (d4 : o4.dst = some n4)
    (ne12 : i1 ≠ i2) (ne13 : i1 ≠ j1) (ne14 : i1 ≠ j2) (ne23 : i2 ≠ j1) (ne24 : i2 ≠ j2) (ne34 : j1 ≠ j2)
    (m13 : n1 ≠ n3) (m14 : n1 ≠ n4) (m23 : n2 ≠ n3) (m24 : n2 ≠ n4) (s1 : n1 < a.tmps.size) (s3 : n3 < a.tmps.size)
    (r00 : Region.ready md l.toArray listed = [i1, j1])
    (r10 : Region.ready md l.toArray (listed.setIfInBounds i1 true) = [i2, j1]) (r01 : Region.ready md l.toArray (listed.setIfInBounds j1 true) = [i1])
    (r11 : Region.ready md l.toArray ((listed.setIfInBounds i1 true).setIfInBounds j1 true) = [i2])
    (r20 : Region.ready md l.toArray ((listed.setIfInBounds i1 true).setIfInBounds i2 true) = [j1])
    (r21 : Region.ready md l.toArray (((listed.setIfInBounds i1 true).setIfInBounds i2 true).setIfInBounds j1 true) = [j2])
    (tA : TypeId) (zA : Value) (bA : Nat) (tB : TypeId) (zB : Value) (bB : Nat) {x1 x2 x3 x4 : Operand}
    (p1 : o1.op = .buildSlice tA 1 #[(0, x1)]) (p2 : o2.op = .call { callee := .builtin .append, args := #[x2, .tmp n1], argTypes := #[tA, tA] })
    (p3 : o3.op = .buildSlice tB 1 #[(0, x3)]) (p4 : o4.op = .call { callee := .builtin .append, args := #[x4, .tmp n3], argTypes := #[tB, tB] })
    (k13 : x1 ≠ .tmp n3) (k14 : x1 ≠ .tmp n4) (k21 : x2 ≠ .tmp n1) (k23 : x2 ≠ .tmp n3) (k24 : x2 ≠ .tmp n4)
    (k31 : x3 ≠ .tmp n1) (k32 : x3 ≠ .tmp n2) (k41 : x4 ≠ .tmp n1) (k42 : x4 ≠ .tmp n2) (k43 : x4 ≠ .tmp n3)
    (htA : P.underlying tA = some (.slice eA)) (hiA : (P.info? eA).map (fun i => (i.zero, i.size, i.bytes)) = some (some zA, 1, bA)) (hzA : zA.cells = #[zA]) (hbA : 0 < bA)
    (htB : P.underlying tB = some (.slice eB)) (hiB : (P.info? eB).map (fun i => (i.zero, i.size, i.bytes)) = some (some zB, 1, bB)) (hzB : zB.cells = #[zB]) (hbB : 0 < bB)
    (hne : eA ≠ eB) (x : α) (y : β) (cA : (encA x).cells = #[encA x]) (cB : (encB y).cells = #[encB y])
    (e1 : a.eval x1 = encA x) (e2 : a.eval x2 = v) (e3 : a.eval x3 = encB y) (e4 : a.eval x4 = u)
    (hcu : some lb = u.ownBlock) (hlt : lb < W.heap.size) (hi : i < ys.length) (hlA : (xs.length + 1) * bA ≤ 140737488355328) (hlB : (ys.length + 1) * bB ≤ 140737488355328)
    (hA : (Kd.scalar encA e1A).R eA W w0.heap.size (fun _ => True) v xs) (hB : (Kd.scalar encB e1B).R eB W w0.heap.size (fun _ => True) u ys) (hbel : Below w0.heap.size w0 W) (hcell : W.cell? ⟨lb, i, none⟩ = some cv)
    (h : ∀ v1 u1 w1 p q, Mid encA e1A eA encB e1B eB w0 W v u lb i cv v1 (xs ++ [x]) u1 (ys ++ [y]) w1 →
      wpAnyH P md l.toArray Q (fun w' => w'.cell? ⟨lb, i, none⟩ = some cv) fuel ((((listed.setIfInBounds i1 true).setIfInBounds i2 true).setIfInBounds j1 true).setIfInBounds j2 true) ((((a.put (some n1) p).put (some n2) v1).put (some n3) q).put (some n4) u1) w1) :
    wpAnyH P md l.toArray Q (fun w' => w'.cell? ⟨lb, i, none⟩ = some cv) (fuel + 1 + 1 + 1 + 1) listed a W := by
  have hv0 : v.ownBlock ≠ some lb := fun he => sep_type hA hB hne lb he hcu.symm
  have M0 : Mid encA e1A eA encB e1B eB w0 W v u lb i cv v xs u ys W := ⟨hA, hB, hbel, ⟨Nat.le_refl _, fun _ _ _ _ => rfl⟩, .inl rfl, .inl rfl, hcell⟩
  have boxA : ∀ (w : World) (a' : Act) (K : Act → World → Prop), a'.eval x1 = encA x → K (a'.put (some n1) (.slice (some ⟨w.heap.size, 0, none⟩) 1 1)) (w.alloc (.cells #[encA x] eA)) → o1.wp P a' w K Q := fun w a' K he hk =>
    wp_box tA eA x1 p1 (encA x) [encA x] he (run_box1 tA eA htA hiA hzA cA w) (by rw [d1]; exact hk)
  have boxB : ∀ (w : World) (a' : Act) (K : Act → World → Prop), a'.eval x3 = encB y → K (a'.put (some n3) (.slice (some ⟨w.heap.size, 0, none⟩) 1 1)) (w.alloc (.cells #[encB y] eB)) → o3.wp P a' w K Q := fun w a' K he hk =>
    wp_box tB eB x3 p3 (encB y) [encB y] he (run_box1 tB eB htB hiB hzB cB w) (by rw [d3]; exact hk)
  have appA : ∀ (w : World) (a' : Act) (K : Act → World → Prop) (b : Nat) (uu : Value) (yy : List β), Mid encA e1A eA encB e1B eB w0 W v u lb i cv v xs uu yy w → w.heap[b]? = some (.cells #[encA x] eA (0, 0)) → a'.eval x2 = v → a'.eval (.tmp n1) = .slice (some ⟨b, 0, none⟩) 1 1 →
      (∀ v1 w1, Mid encA e1A eA encB e1B eB w0 W v u lb i cv v1 (xs ++ [x]) uu yy w1 → (∀ g : Nat, w.heap[g]? = some (.cells #[encB y] eB (0, 0)) → w1.heap[g]? = some (.cells #[encB y] eB (0, 0))) → K (a'.put (some n2) v1) w1) → o2.wp P a' w K Q := fun w a' K b uu yy hm hb he1 he2 hk =>
    wp_app1 encA w0.heap.size _ _ tA eA zA bA p2 htA hiA (by rw [hzA]; rfl) hbA v xs x b he1 he2 hb hm.A hm.bel hm.bel.size hlA (fun v1 w1 hR hbl ha => by
      rw [d2]
      exact hk v1 w1 (hm.appA hne hcu hlt hv0 hR hbl ha) (fun g hg => ha.app.cells hg hm.A hne))
  have appB : ∀ (w : World) (a' : Act) (K : Act → World → Prop) (b : Nat) (vv : Value) (xx : List α), Mid encA e1A eA encB e1B eB w0 W v u lb i cv vv xx u ys w → w.heap[b]? = some (.cells #[encB y] eB (0, 0)) → a'.eval x4 = u → a'.eval (.tmp n3) = .slice (some ⟨b, 0, none⟩) 1 1 →
      (∀ u1 w1, Mid encA e1A eA encB e1B eB w0 W v u lb i cv vv xx u1 (ys ++ [y]) w1 → (∀ g : Nat, w.heap[g]? = some (.cells #[encA x] eA (0, 0)) → w1.heap[g]? = some (.cells #[encA x] eA (0, 0))) → K (a'.put (some n4) u1) w1) → o4.wp P a' w K Q := fun w a' K b vv xx hm hb he1 he2 hk =>
    wp_app1 encB w0.heap.size _ _ tB eB zB bB p4 htB hiB (by rw [hzB]; rfl) hbB u ys y b he1 he2 hb hm.B hm.bel hm.bel.size hlB (fun u1 w1 hR hbl ha => by
      rw [d4]
      exact hk u1 w1 (hm.appB hne hcu hi hlt hR hbl ha) (fun g hg => ha.app.cells hg hm.B (Ne.symm hne)))
  have k21' : ∀ (w : World) (p v1 : Value) (b : Nat), Mid encA e1A eA encB e1B eB w0 W v u lb i cv v1 (xs ++ [x]) u ys w → w.heap[b]? = some (.cells #[encB y] eB (0, 0)) →
      wpAnyH P md l.toArray Q (fun w' => w'.cell? ⟨lb, i, none⟩ = some cv) (fuel + 1) (((listed.setIfInBounds i1 true).setIfInBounds i2 true).setIfInBounds j1 true) (((a.put (some n1) p).put (some n2) v1).put (some n3) (.slice (some ⟨b, 0, none⟩) 1 1)) w := fun w p v1 b hm hb =>
    any_one h4 r21 (want_none g4 _) (appB w _ _ b v1 _ hm hb (by rw [eval_skip k43, eval_skip k42, eval_skip k41]; exact e4) (eval_new (by rw [put_size, put_size]; exact s3)) (fun u1 w1 hm1 _ => ⟨hm1.cell, h v1 u1 w1 p _ hm1⟩))
  have k20' : ∀ (w : World) (p v1 : Value), Mid encA e1A eA encB e1B eB w0 W v u lb i cv v1 (xs ++ [x]) u ys w →
      wpAnyH P md l.toArray Q (fun w' => w'.cell? ⟨lb, i, none⟩ = some cv) (fuel + 1 + 1) ((listed.setIfInBounds i1 true).setIfInBounds i2 true) ((a.put (some n1) p).put (some n2) v1) w := fun w p v1 hm =>
    any_one h3 r20 (want_none g3 _) (boxB w _ _ (by rw [eval_skip k32, eval_skip k31]; exact e3) ⟨(hm.box _).cell, k21' _ p v1 _ (hm.box _) (hp_new rfl)⟩)
  have k11' : ∀ (w : World) (b c : Nat), Mid encA e1A eA encB e1B eB w0 W v u lb i cv v xs u ys w → w.heap[b]? = some (.cells #[encA x] eA (0, 0)) → w.heap[c]? = some (.cells #[encB y] eB (0, 0)) →
      wpAnyH P md l.toArray Q (fun w' => w'.cell? ⟨lb, i, none⟩ = some cv) (fuel + 1 + 1) ((listed.setIfInBounds i1 true).setIfInBounds j1 true) ((a.put (some n1) (.slice (some ⟨b, 0, none⟩) 1 1)).put (some n3) (.slice (some ⟨c, 0, none⟩) 1 1)) w := fun w b c hm hb hc =>
    any_one h2 r11 (want_none g2 _)
      (appA w _ _ b u _ hm hb (by rw [eval_skip k23, eval_skip k21]; exact e2) (by rw [eval_skip (by simp; exact m13)]; exact eval_new s1) (fun v1 w1 hm1 hk => ⟨hm1.cell, by
        rw [put_comm _ (Ne.symm m23), set_comm _ (Ne.symm ne23)]
        exact k21' w1 _ v1 c hm1 (hk c hc)⟩))
  have k10' : ∀ (w : World) (b : Nat), Mid encA e1A eA encB e1B eB w0 W v u lb i cv v xs u ys w → w.heap[b]? = some (.cells #[encA x] eA (0, 0)) →
      wpAnyH P md l.toArray Q (fun w' => w'.cell? ⟨lb, i, none⟩ = some cv) (fuel + 1 + 1 + 1) (listed.setIfInBounds i1 true) (a.put (some n1) (.slice (some ⟨b, 0, none⟩) 1 1)) w := fun w b hm hb =>
    any_two r10 h2 h3 (want_none g2 _) (want_none g3 _)
      (appA w _ _ b u _ hm hb (by rw [eval_skip k21]; exact e2) (eval_new s1) (fun v1 w1 hm1 _ => ⟨hm1.cell, k20' w1 _ v1 hm1⟩))
      (boxB w _ _ (by rw [eval_skip k31]; exact e3) ⟨(hm.box _).cell, k11' _ b _ (hm.box _) (hp_old hb) (hp_new rfl)⟩)
  have k01' : ∀ (w : World) (c : Nat), Mid encA e1A eA encB e1B eB w0 W v u lb i cv v xs u ys w → w.heap[c]? = some (.cells #[encB y] eB (0, 0)) →
      wpAnyH P md l.toArray Q (fun w' => w'.cell? ⟨lb, i, none⟩ = some cv) (fuel + 1 + 1 + 1) (listed.setIfInBounds j1 true) (a.put (some n3) (.slice (some ⟨c, 0, none⟩) 1 1)) w := fun w c hm hc =>
    any_one h1 r01 (want_none g1 _)
      (boxA w _ _ (by rw [eval_skip k13]; exact e1) ⟨(hm.box _).cell, by
        rw [put_comm _ (Ne.symm m13), set_comm _ (Ne.symm ne13)]
        exact k11' _ _ c (hm.box _) (hp_new rfl) (hp_old hc)⟩)
  exact any_two r00 h1 h3 (want_none g1 _) (want_none g3 _)
    (boxA W _ _ e1 ⟨(M0.box _).cell, k10' _ _ (M0.box _) (hp_new rfl)⟩)
    (boxB W _ _ e3 ⟨(M0.box _).cell, k01' _ _ (M0.box _) (hp_new rfl)⟩)
end
end Go.Proofs.Ytjckidjljkjhfaa

