/- Plain: what auto.search answers: the states that are met, in order; an error where there are more than 4096; and what its answer does with a word. -/
import Derived.Test.YtjckidjljkjhfaaA1
namespace Go.Proofs.Ytjckidjljkjhfaa
open Go.RowKit Go.Proofs.YtjckidjljkjhfaaW.PrintWords
set_option linter.unusedVariables false
set_option linter.unusedSectionVars false
section
variable {σ : Type} [DecidableEq σ]
/-- The states, once no more than 4096 places have been asked. -/
def srL (k : Nat) (step : σ → Nat → σ) (first : σ) : List σ := bs k step first (4096 * k)
def srE (k : Nat) (step : σ → Nat → σ) (first : σ) : Int := if (srL k step first).length ≤ 4096 then 0 else 81
def srV (k : Nat) (step : σ → Nat → σ) (first : σ) (good : σ → Bool) : AutV :=
  if (srL k step first).length ≤ 4096 then ⟨(k : Int), (nx k step first ((srL k step first).length * k)).map (fun (n : Nat) => (n : Int)), (srL k step first).map good⟩ else ⟨0, [], []⟩
variable {k : Nat} {step : σ → Nat → σ} {first : σ} {good : σ → Bool}
/-- All is closed, or there are more. -/
theorem sr_closed (hk : 0 < k) (h : (srL k step first).length ≤ 4096) : Closed k step first (srL k step first).length ∧ bs k step first ((srL k step first).length * k) = srL k step first := by
  have key : ∀ i, (∃ n, n ≤ i ∧ Closed k step first n) ∨ i < (bw k step first (i * k)).length := by
    intro i
    induction i with
    | zero => exact .inr (bw_len_pos _)
    | succ i ih =>
      rcases ih with ⟨n, h1, h2⟩ | ih
      · exact .inl ⟨n, by omega, h2⟩
      · have h1 := bw_le (k := k) (step := step) (first := first) (Nat.mul_le_mul_right k (Nat.le_add_right i 1))
        by_cases e : (bw k step first ((i + 1) * k)).length = i + 1
        · exact .inl ⟨i + 1, Nat.le_refl _, e⟩
        · exact .inr (by omega)
  rcases key 4096 with ⟨n, hn, hc⟩ | h1
  · have e : srL k step first = bs k step first (n * k) := hc.stay hk (Nat.mul_le_mul_right k hn)
    have hl : (srL k step first).length = n := by rw [e, bs_len]; exact hc
    rw [hl]
    exact ⟨hc, e.symm⟩
  · unfold srL at h
    rw [bs_len] at h
    omega
theorem sr_of_closed (hk : 0 < k) {n : Nat} (hn : n ≤ 4096) (hc : Closed k step first n) : srL k step first = bs k step first (n * k) ∧ (srL k step first).length = n := by
  have e : srL k step first = bs k step first (n * k) := hc.stay hk (Nat.mul_le_mul_right k hn)
  exact ⟨e, by rw [e, bs_len]; exact hc⟩
/-- Where a new state is met beside 4096 others there are too many. -/
theorem sr_many (hk : 0 < k) {m : Nat} (hm : m ≤ 4096 * k) (h : 4096 < (bs k step first m).length) : srE k step first = 81 := by
  unfold srE
  rw [if_neg]
  intro hle
  have h1 := bw_le (k := k) (step := step) (first := first) hm
  unfold srL at hle
  rw [bs_len] at h hle
  omega
theorem srE_ok (h : srE k step first = 0) : (srL k step first).length ≤ 4096 := by
  unfold srE at h
  split at h
  · assumption
  · cases h
theorem srE_cases : srE k step first = 0 ∨ srE k step first = 81 := by unfold srE; split <;> simp
theorem srV_ok (good : σ → Bool) (h : srE k step first = 0) : srV k step first good = ⟨(k : Int), (nx k step first ((srL k step first).length * k)).map (fun (n : Nat) => (n : Int)), (srL k step first).map good⟩ := by
  unfold srV; rw [if_pos (srE_ok h)]
theorem srV_no (good : σ → Bool) (h : srE k step first ≠ 0) : srV k step first good = ⟨0, [], []⟩ := by
  unfold srV
  rw [if_neg]
  intro hle
  exact h (by unfold srE; rw [if_pos hle])
theorem srL_pos : 0 < (srL k step first).length := by unfold srL; rw [bs_len]; exact bw_len_pos _
/-- The answer is an automaton. -/
theorem sr_aut (hk : 0 < k) (hk8 : k ≤ 8) (good : σ → Bool) (h : srE k step first = 0) : AutOk (srV k step first good) := by
  have hle := srE_ok h
  obtain ⟨hc, hb⟩ := sr_closed hk hle
  have hn := nx_len (k := k) (step := step) (first := first) (n := (srL k step first).length) (m := (srL k step first).length * k) (Nat.le_of_eq hc.symm) (Nat.le_refl _)
  rw [srV_ok good h]
  refine ⟨by show (1 : Int) ≤ (k : Int); omega, by show (k : Int) ≤ 8; omega, by show 1 ≤ ((srL k step first).map good).length; rw [List.length_map]; exact srL_pos, by show ((srL k step first).map good).length ≤ 4096; rw [List.length_map]; exact hle, ?_, fun i hi => ?_⟩
  · show (((nx k step first ((srL k step first).length * k)).map _).length : Int) = (((srL k step first).map good).length : Int) * (k : Int)
    rw [List.length_map, List.length_map, hn]; push_cast; rfl
  · have hi' : i < (nx k step first ((srL k step first).length * k)).length := by simpa using hi
    have h1 : rd ((nx k step first ((srL k step first).length * k)).map (fun (n : Nat) => (n : Int))) (i : Int) = ((nx k step first ((srL k step first).length * k))[i] : Int) := by
      unfold rd; rw [Int.toNat_natCast]; simp [List.getD_eq_getElem?_getD, hi']
    show 0 ≤ rd ((nx k step first ((srL k step first).length * k)).map (fun (n : Nat) => (n : Int))) (i : Int) ∧ rd ((nx k step first ((srL k step first).length * k)).map (fun (n : Nat) => (n : Int))) (i : Int) < ((((srL k step first).map good).length : Nat) : Int)
    rw [h1]
    have h2 := nx_lt _ (List.getElem_mem hi')
    rw [← bs_len, hb] at h2
    rw [List.length_map]
    omega
/-- One step of the answer: the place of the state that the letter leads to. -/
theorem sr_stp (hk : 0 < k) (good : σ → Bool) (h : srE k step first = 0) {i c : Nat} {s : σ} (hi : (srL k step first)[i]? = some s) (hc : c < k) : stp (srV k step first good) i c = (srL k step first).idxOf (step s c) ∧ step s c ∈ srL k step first := by
  obtain ⟨hcl, hb⟩ := sr_closed hk (srE_ok h)
  have hi' : (bs k step first ((srL k step first).length * k))[i]? = some s := by rw [hb]; exact hi
  have h1 := nx_get hcl hc hi'
  rw [hb] at h1
  refine ⟨?_, by rw [← hb]; exact hcl.move hc (List.mem_of_getElem? hi')⟩
  rw [srV_ok good h]
  unfold stp
  show (rd ((nx k step first ((srL k step first).length * k)).map (fun (n : Nat) => (n : Int))) ((i * ((k : Int)).toNat + c : Nat) : Int)).toNat = _
  rw [Int.toNat_natCast]
  unfold rd
  rw [Int.toNat_natCast, List.getD_eq_getElem?_getD, List.getElem?_map, h1]
  rfl
/-- A word of the answer: the place of the state that it leads to. -/
theorem sr_run (hk : 0 < k) (good : σ → Bool) (h : srE k step first = 0) : ∀ (w : List Nat), (∀ c ∈ w, c < k) → ∀ {i : Nat} {s : σ}, (srL k step first)[i]? = some s → (srL k step first)[rn (stp (srV k step first good)) i w]? = some (rn step s w)
  | [], _, _, _, hi => hi
  | c :: r, hw, i, s, hi => by
    obtain ⟨h1, h2⟩ := sr_stp hk good h hi (hw c List.mem_cons_self)
    have h3 : (srL k step first)[stp (srV k step first good) i c]? = some (step s c) := by
      rw [h1]; exact bs_at_idx h2
    exact sr_run hk good h r (fun d hd => hw d (List.mem_cons_of_mem _ hd)) h3
theorem sr_first : (srL k step first)[0]? = some first := bs_pos _
theorem sr_acc (good : σ → Bool) (h : srE k step first = 0) {i : Nat} {s : σ} (hi : (srL k step first)[i]? = some s) : rdOf false (srV k step first good).acc (i : Int) = good s := by
  rw [srV_ok good h]
  unfold rdOf
  rw [Int.toNat_natCast, List.getD_eq_getElem?_getD]
  show ((((srL k step first).map good))[i]?).getD false = _
  rw [List.getElem?_map, hi]; rfl
/-- A word is accepted by the answer just if the state that it leads to is looked for. -/
theorem sr_word (hk : 0 < k) (good : σ → Bool) (h : srE k step first = 0) (w : List Nat) (hw : ∀ c ∈ w, c < k) : rdOf false (srV k step first good).acc ((rn (stp (srV k step first good)) 0 w : Nat) : Int) = good (rn step first w) :=
  sr_acc good h (sr_run hk good h w hw sr_first)
end
/-- Two spaces in which the same words lead to one state, and the same words are looked for, have one answer. -/
theorem sr_same {σ τ : Type} [DecidableEq σ] [DecidableEq τ] {k : Nat} {step : σ → Nat → σ} {first : σ} {good : σ → Bool} {step' : τ → Nat → τ} {first' : τ} {good' : τ → Bool} (hk : 0 < k)
    (h : ∀ u v : List Nat, (∀ c ∈ u, c < k) → (∀ c ∈ v, c < k) → (rn step first u = rn step first v ↔ rn step' first' u = rn step' first' v)) (hg : ∀ u : List Nat, (∀ c ∈ u, c < k) → good (rn step first u) = good' (rn step' first' u)) :
    srE k step first = srE k step' first' ∧ srV k step first good = srV k step' first' good' := by
  have hw := bw_same hk h
  have hl : (srL k step first).length = (srL k step' first').length := by unfold srL; rw [bs_len, bs_len, hw]
  have hmap : (srL k step first).map good = (srL k step' first').map good' := by
    unfold srL bs
    rw [List.map_map, List.map_map, ← hw]
    exact List.map_congr_left fun u hu => hg u (bw_let hk u hu)
  refine ⟨by unfold srE; rw [hl], ?_⟩
  unfold srV
  rw [hl, hmap, nx_same hk h]
end Go.Proofs.Ytjckidjljkjhfaa
