/- Plain: the reverse of the reverse is the minimal automaton. -/
import Derived.Test.YtjedippbjjedlaaOnP
import Derived.Test.YtjedippbjjedlaaE1
namespace Go.Proofs.Ytjedippbjjedlaa
open Go.RowKit Go.Proofs.YtjedippbjjedlaaW.PrintWords
theorem rn_snoc2 {σ : Type} [DecidableEq σ] (step : σ → Nat → σ) (s : σ) (u : List Nat) (c : Nat) : rn step s (u ++ [c]) = step (rn step s u) c := by rw [rn_app]; rfl
theorem rv_bit {x : AutV} (hx : AutOk x) : ∀ (u : List Nat) (m : Sta) (i : Nat), (∀ c ∈ u, c < mK x) → i < x.acc.length → (∀ j, m.getLsbD j = true → j < x.acc.length) → (rn (rvSt x) m u).getLsbD i = m.getLsbD (rn (stp x) i u.reverse)
  | [], m, i, _, _, _ => rfl
  | c :: r, m, i, hu, hi, hm => by
    have hn := hx.2.2.2.1
    have hc := hu c List.mem_cons_self
    have hr : ∀ d ∈ r, d < mK x := fun d hd => hu d (List.mem_cons_of_mem _ hd)
    have hm2 : ∀ j, (rvSt x m c).getLsbD j = true → j < x.acc.length := fun j hj => by
      unfold rvSt at hj
      rw [rvS_bit x m c j _ hn] at hj
      simp only [Bool.and_eq_true, decide_eq_true_eq] at hj
      exact hj.1
    rw [rn_cons, rv_bit hx r (rvSt x m c) i hr hi hm2, List.reverse_cons, rn_snoc2]
    have hl := rn_in hx.stpIn r.reverse i hi (fun d hd => hr d (List.mem_reverse.1 hd))
    unfold rvSt
    rw [rvS_bit x m c _ _ hn, decide_eq_true hl, Bool.true_and]
theorem accS_in {x : AutV} (hx : AutOk x) : ∀ j, (accS x x.acc.length).getLsbD j = true → j < x.acc.length := fun j hj => by
  rw [accS_bit x j _ hx.2.2.2.1] at hj
  simp only [Bool.and_eq_true, decide_eq_true_eq] at hj
  exact hj.1
/-- What is met from the accepted states, by what is accepted behind. -/
theorem rv_acc {x : AutV} (hx : AutOk x) {u : List Nat} (hu : ∀ c ∈ u, c < mK x) {i : Nat} (hi : i < x.acc.length) : (rn (rvSt x) (accS x x.acc.length) u).getLsbD i = acN x (rn (stp x) i u.reverse) := by
  rw [rv_bit hx u _ i hu hi (accS_in hx)]
  have hl := rn_in hx.stpIn u.reverse i hi (fun d hd => hu d (List.mem_reverse.1 hd))
  rw [accS_bit x _ _ hx.2.2.2.1, decide_eq_true hl, Bool.true_and]
theorem rv_in {x : AutV} (hx : AutOk x) (u : List Nat) : ∀ (m : Sta), (∀ j, m.getLsbD j = true → j < x.acc.length) → ∀ j, (rn (rvSt x) m u).getLsbD j = true → j < x.acc.length := by
  induction u with
  | nil => exact fun m hm => hm
  | cons c r ih =>
    intro m hm
    rw [rn_cons]
    refine ih _ (fun j hj => ?_)
    unfold rvSt at hj
    rw [rvS_bit x m c j _ hx.2.2.2.1] at hj
    simp only [Bool.and_eq_true, decide_eq_true_eq] at hj
    exact hj.1
theorem rv_ker {x : AutV} (hx : AutOk x) {u v : List Nat} (hu : ∀ c ∈ u, c < mK x) (hv : ∀ c ∈ v, c < mK x) :
    rn (rvSt x) (accS x x.acc.length) u = rn (rvSt x) (accS x x.acc.length) v ↔ ∀ i, i < x.acc.length → acN x (rn (stp x) i u.reverse) = acN x (rn (stp x) i v.reverse) := by
  constructor
  · intro e i hi
    rw [← rv_acc hx hu hi, ← rv_acc hx hv hi, e]
  · intro h
    apply sta_ext
    intro i _
    by_cases hi : i < x.acc.length
    · rw [rv_acc hx hu hi, rv_acc hx hv hi, h i hi]
    · have h1 := rv_in hx u (accS x x.acc.length) (accS_in hx) i
      have h2 := rv_in hx v (accS x x.acc.length) (accS_in hx) i
      cases e1 : (rn (rvSt x) (accS x x.acc.length) u).getLsbD i
      · cases e2 : (rn (rvSt x) (accS x x.acc.length) v).getLsbD i
        · rfl
        · exact absurd (h2 e2) hi
      · exact absurd (h1 e1) hi
theorem rv_ok {x : AutV} (hx : AutOk x) (h : rvE x = 0) : srE (mK x) (rvSt x) (accS x x.acc.length) = 0 ∧ rvV x = srV (mK x) (rvSt x) (accS x x.acc.length) rvG ∧ AutOk (rvV x) ∧ mK (rvV x) = mK x := by
  have h1 := hx.2.1
  have h0 : srE (mK x) (rvSt x) (accS x x.acc.length) = 0 := by unfold rvE at h; rw [if_pos (autE_ok hx)] at h; exact h
  have hv : rvV x = srV (mK x) (rvSt x) (accS x x.acc.length) rvG := by unfold rvV; rw [if_pos (autE_ok hx)]; rfl
  rw [hv]
  exact ⟨h0, rfl, sr_aut (mK_pos hx) (by unfold mK; omega) _ h0, by rw [srV_ok _ h0]; unfold mK; exact Int.toNat_natCast _⟩
theorem rv_word {x : AutV} (hx : AutOk x) (h : rvE x = 0) {u : List Nat} (hu : ∀ c ∈ u, c < mK x) : lng (rvV x) u = lng x u.reverse := by
  obtain ⟨h0, h1, _, _⟩ := rv_ok hx h
  unfold lng
  rw [h1]
  refine (sr_word (mK_pos hx) rvG h0 u hu).trans ?_
  exact rv_acc hx hu (n_pos hx)
/-- From behind, and again: the minimal automaton. -/
theorem rv_rv {x : AutV} (hx : AutOk x) (h : rvE x = 0) : rvE (rvV x) = 0 ∧ rvV (rvV x) = mAut x := by
  obtain ⟨h0, h1, h2, h3⟩ := rv_ok hx h
  obtain ⟨m0, m1, _⟩ := min_sr hx
  have hrev : ∀ {u : List Nat}, (∀ c ∈ u, c < mK x) → ∀ c ∈ u.reverse, c < mK x := fun hu c hc => hu c (List.mem_reverse.1 hc)
  have key : srE (mK x) (rvSt (rvV x)) (accS (rvV x) (rvV x).acc.length) = srE (mK x) (mst x) (mfi x) ∧ srV (mK x) (rvSt (rvV x)) (accS (rvV x) (rvV x).acc.length) rvG = srV (mK x) (mst x) (mfi x) (acN x) := by
    refine sr_same (mK_pos hx) (fun u v hu hv => ?_) (fun u hu => ?_)
    · rw [rv_ker h2 (by rw [h3]; exact hu) (by rw [h3]; exact hv), min_ker hx hu hv]
      constructor
      · intro e w hw
        have hwr := hrev hw
        have hi : rn (stp (rvV x)) 0 w.reverse < (rvV x).acc.length := rn_in h2.stpIn _ 0 (n_pos h2) (by rw [h3]; exact hwr)
        have e1 := e _ hi
        rw [← rn_app, ← rn_app] at e1
        have a1 := rv_word hx h (let_app hwr (hrev hu))
        have a2 := rv_word hx h (let_app hwr (hrev hv))
        rw [List.reverse_append, List.reverse_reverse, List.reverse_reverse] at a1 a2
        rw [← a1, ← a2]
        exact e1
      · intro e i hi
        have hl : (rvV x).acc.length = (srL (mK x) (rvSt x) (accS x x.acc.length)).length := by rw [h1, srV_ok _ h0]; exact List.length_map ..
        obtain ⟨w, _, hw, ew⟩ := sr_own (mK_pos hx) rvG h0 (i := i) (by rw [← hl]; exact hi)
        rw [← h1] at ew
        have a1 := rv_word hx h (let_app hw (hrev hu))
        have a2 := rv_word hx h (let_app hw (hrev hv))
        rw [List.reverse_append, List.reverse_reverse] at a1 a2
        unfold lng at a1 a2
        rw [rn_app, ew] at a1 a2
        rw [a1, a2]
        exact e w.reverse (hrev hw)
    · have e1 : rvG (rn (rvSt (rvV x)) (accS (rvV x) (rvV x).acc.length) u) = lng (rvV x) u.reverse := rv_acc h2 (by rw [h3]; exact hu) (n_pos h2)
      have e2 := rv_word hx h (hrev hu)
      rw [List.reverse_reverse] at e2
      have e3 : rn (mst x) (mfi x) u = (mcl x).getD (rn (stp x) 0 u) 0 := mrn_cls hx u 0 (n_pos hx) hu
      rw [e1, e2, e3]
      exact (mcl_rep hx (rn_in hx.stpIn u 0 (n_pos hx) hu) (w := []) (fun c hc => by cases hc)).symm
  have hE : rvE (rvV x) = 0 := by
    unfold rvE
    rw [if_pos (autE_ok h2)]
    show srE (mK (rvV x)) _ _ = 0
    rw [h3, key.1, m0]
  refine ⟨hE, ?_⟩
  rw [(rv_ok h2 hE).2.1, h3, key.2, m1]
end Go.Proofs.Ytjedippbjjedlaa
