/- Plain: what the levels of Moore's rounds say: two states stand in one class of level k just if no word of up to k letters tells them apart; how soon nothing parts any more. -/
import Derived.Test.YtjedippbjjedlaaA2
namespace Go.Proofs.Ytjedippbjjedlaa
open Go.RowKit Go.Proofs.YtjedippbjjedlaaW.PrintWords
set_option linter.unusedVariables false
theorem cls_step (x : AutV) (k : Nat) : cls x (k + 1) = rnd x (cls x k) := by
  unfold cls
  rw [itr_succ]
  split
  · rename_i h; exact h.symm
  · rfl
theorem krf_iff {α : Type} [DecidableEq α] (f : Nat → α) (s t : Nat) : krf f s = krf f t ↔ f s = f t := by
  obtain ⟨h1, h2, h3⟩ := krf_spec f s
  obtain ⟨g1, g2, g3⟩ := krf_spec f t
  constructor
  · intro e; rw [← h2, ← g2, e]
  · intro e
    rcases Nat.lt_trichotomy (krf f s) (krf f t) with h | h | h
    · exact absurd (h2.trans e) (g3 _ h)
    · exact h
    · exact absurd (g2.trans e.symm) (h3 _ h)
theorem rnd_iff (x : AutV) (l : List Nat) {s t : Nat} (hs : s < l.length) (ht : t < l.length) : (rnd x l).getD s 0 = (rnd x l).getD t 0 ↔ sgn x l s = sgn x l t := by
  rw [rnd_getD _ _ _ hs, rnd_getD _ _ _ ht]; exact krf_iff _ _ _
theorem sgn_iff2 {x : AutV} (hk : x.k ≤ 8) (L : List Nat) (s t : Nat) : sgn x L s = sgn x L t ↔ L.getD s 0 = L.getD t 0 ∧ ∀ c, c < mK x → L.getD (stp x s c) 0 = L.getD (stp x t c) 0 := by
  unfold mK
  constructor
  · intro e
    refine ⟨sgn_head e, fun i hi => ?_⟩
    have e2 := (List.cons.inj e).2
    have := congrArg (fun l : List Nat => l[i]?) e2
    simpa [show i < 8 by omega, hi, show (i : Int) < x.k by omega] using this
  · rintro ⟨e1, e2⟩
    unfold sgn
    rw [e1]
    congr 1
    apply List.map_congr_left
    intro i hi
    by_cases hik : i < x.k.toNat
    · rw [if_pos hik, if_pos hik]; exact e2 i hik
    · rw [if_neg hik, if_neg hik]
/-- Is a state accepted? -/
abbrev acN (x : AutV) (s : Nat) : Bool := rdOf false x.acc (s : Int)
theorem kr_iff (l : List Nat) (s t : Nat) : kr l s = kr l t ↔ l.getD s 0 = l.getD t 0 := by
  obtain ⟨h1, h2, h3⟩ := kr_spec l s
  obtain ⟨g1, g2, g3⟩ := kr_spec l t
  constructor
  · intro e; rw [← h2, ← g2, e]
  · intro e
    rcases Nat.lt_trichotomy (kr l s) (kr l t) with h | h | h
    · exact absurd (h2.trans e) (g3 _ h)
    · exact h
    · exact absurd (g2.trans e.symm) (h3 _ h)
theorem cls_zero_iff (x : AutV) {s t : Nat} (hs : s < x.acc.length) (ht : t < x.acc.length) : (cls x 0).getD s 0 = (cls x 0).getD t 0 ↔ acN x s = acN x t := by
  have hg : ∀ i, i < x.acc.length → (cls x 0).getD i 0 = kr (st0 x) i := fun i hi => by
    show (krl (st0 x)).getD i 0 = _
    simp [krl, List.getD_eq_getElem?_getD, st0_len, hi]
  have hv : ∀ i, i < x.acc.length → (st0 x).getD i 0 = if acN x i then 1 else 0 := fun i hi => by
    simp [st0, acN, rdOf, List.getD_eq_getElem?_getD, hi]
  rw [hg s hs, hg t ht, kr_iff, hv s hs, hv t ht]
  cases acN x s <;> cases acN x t <;> simp
/-- Steps stay inside. -/
def StpIn (x : AutV) : Prop := ∀ s c, s < x.acc.length → c < mK x → stp x s c < x.acc.length
theorem AutOk.stpIn {x : AutV} (h : AutOk x) : StpIn x := fun s c hs hc => (stp_lt h hs (by have := h.1; unfold mK at hc; omega)).1
theorem rn_in {x : AutV} (h : StpIn x) : ∀ (w : List Nat) (s : Nat), s < x.acc.length → (∀ c ∈ w, c < mK x) → rn (stp x) s w < x.acc.length
  | [], s, hs, _ => hs
  | c :: r, s, hs, hw => rn_in h r (stp x s c) (h s c hs (hw c List.mem_cons_self)) (fun d hd => hw d (List.mem_cons_of_mem _ hd))
theorem cls_iff {x : AutV} (hk : x.k ≤ 8) (h : StpIn x) : ∀ (k : Nat) {s t : Nat}, s < x.acc.length → t < x.acc.length →
    ((cls x k).getD s 0 = (cls x k).getD t 0 ↔ ∀ w : List Nat, w.length ≤ k → (∀ c ∈ w, c < mK x) → acN x (rn (stp x) s w) = acN x (rn (stp x) t w))
  | 0, s, t, hs, ht => by
    rw [cls_zero_iff x hs ht]
    constructor
    · intro e w hw _
      obtain rfl : w = [] := List.length_eq_zero_iff.1 (by omega)
      exact e
    · intro e; exact e [] (Nat.le_refl _) (fun _ h => by cases h)
  | k + 1, s, t, hs, ht => by
    rw [cls_step, rnd_iff x _ (by rw [(cls_cls x k).len]; exact hs) (by rw [(cls_cls x k).len]; exact ht), sgn_iff2 hk, cls_iff hk h k hs ht]
    constructor
    · rintro ⟨e1, e2⟩ w hw hc
      match w, hw, hc with
      | [], _, _ => exact e1 [] (Nat.zero_le _) (fun _ h => by cases h)
      | c :: r, hw, hc =>
        have hck := hc c List.mem_cons_self
        exact (cls_iff hk h k (h s c hs hck) (h t c ht hck)).1 (e2 c hck) r (by simpa using hw) (fun d hd => hc d (List.mem_cons_of_mem _ hd))
    · intro e
      refine ⟨fun w hw hc => e w (by omega) hc, fun c hc => (cls_iff hk h k (h s c hs hc) (h t c ht hc)).2 fun w hw hcw => ?_⟩
      exact e (c :: w) (by simpa using hw) (fun d hd => by
        rcases List.mem_cons.1 hd with rfl | hd
        · exact hc
        · exact hcw d hd)
/-- While rounds part, the classes grow in number. -/
theorem reps_grow (x : AutV) : ∀ k, rnd x (cls x k) ≠ cls x k → (reps x.acc.length (cls x 0)).length + k + 1 ≤ (reps x.acc.length (cls x (k + 1))).length
  | 0, h => by
    have := (cls_cls x 0).more x h
    rw [cls_step]; omega
  | k + 1, h => by
    have h1 := (cls_cls x (k + 1)).more x h
    have h2 : rnd x (cls x k) ≠ cls x k := fun e => h (by rw [cls_step, e, e])
    have := reps_grow x k h2
    rw [cls_step x (k + 1)]; omega
theorem cls_stop {x : AutV} {k : Nat} (h : rnd x (cls x k) = cls x k) (j : Nat) (hj : k ≤ j) : cls x j = cls x k := by
  have := itr_stop x (krl (st0 x)) k h (j - k)
  rw [show k + (j - k) = j by omega] at this
  exact this
/-- Where there is more than one state, nothing parts any more after two rounds fewer than there are states. -/
theorem cls_last (x : AutV) (hk : x.k ≤ 8) (hs : StpIn x) (hn : 1 ≤ x.acc.length) : rnd x (cls x (x.acc.length - 2)) = cls x (x.acc.length - 2) := by
  apply Classical.byContradiction
  intro hne
  have hg := reps_grow x _ hne
  have hle := reps_le x.acc.length (cls x (x.acc.length - 2 + 1))
  have h0 : 0 ∈ reps x.acc.length (cls x 0) := List.mem_filter.2 ⟨List.mem_range.2 (by omega), by have := (cls_cls x 0).le 0 (by omega); exact beq_iff_eq.2 (by omega)⟩
  have hp : 1 ≤ (reps x.acc.length (cls x 0)).length := List.length_pos_of_mem h0
  by_cases h1 : x.acc.length = 1
  · omega
  · have e1 : (reps x.acc.length (cls x 0)).length = 1 := by omega
    -- one class alone: nothing parts
    obtain ⟨r, hr⟩ := List.length_eq_one_iff.1 e1
    have hz : ∀ t, t < x.acc.length → (cls x 0).getD t 0 = 0 := fun t ht => by
      have hm : (cls x 0).getD t 0 ∈ reps x.acc.length (cls x 0) := List.mem_filter.2 ⟨List.mem_range.2 (Nat.lt_of_le_of_lt ((cls_cls x 0).le t ht) ht), by have := (cls_cls x 0).own t ht; simpa using this⟩
      rw [hr] at hm h0
      simp only [List.mem_singleton] at hm h0
      omega
    have hst : rnd x (cls x 0) = cls x 0 := by
      refine (cls_cls x 0).same x fun t ht htr => ?_
      rw [hz t ht]
      rw [rnd_getD _ _ _ (by rw [(cls_cls x 0).len]; exact ht)] at htr
      have : krf (sgn x (cls x 0)) t = krf (sgn x (cls x 0)) 0 := (krf_iff _ _ _).2 ((sgn_iff2 hk _ _ _).2 ⟨by rw [hz t ht, hz 0 (by omega)], fun c hc => by rw [hz _ (hs t c ht hc), hz _ (hs 0 c (by omega) hc)]⟩)
      have h00 := (krf_spec (sgn x (cls x 0)) 0).1
      omega
    exact hne (by rw [cls_stop hst _ (Nat.zero_le _)]; exact hst)
/-- The classes: no word at all tells two states apart; a word that does is not needed longer than two letters fewer than there are states. -/
theorem mcl_iff {x : AutV} (h : AutOk x) {s t : Nat} (hs : s < x.acc.length) (ht : t < x.acc.length) : (mcl x).getD s 0 = (mcl x).getD t 0 ↔ ∀ w : List Nat, (∀ c ∈ w, c < mK x) → acN x (rn (stp x) s w) = acN x (rn (stp x) t w) := by
  have hst := cls_last x h.2.1 h.stpIn h.2.2.1
  have e : mcl x = cls x (x.acc.length - 2) := cls_stop hst _ (by omega)
  rw [e]
  constructor
  · intro hc w hw
    have h2 : (cls x (x.acc.length - 2 + w.length)).getD s 0 = (cls x (x.acc.length - 2 + w.length)).getD t 0 := by rw [cls_stop hst _ (by omega)]; exact hc
    exact (cls_iff h.2.1 h.stpIn _ hs ht).1 h2 w (by omega) hw
  · intro hw
    exact (cls_iff h.2.1 h.stpIn _ hs ht).2 fun w _ hc => hw w hc
end Go.Proofs.Ytjedippbjjedlaa
