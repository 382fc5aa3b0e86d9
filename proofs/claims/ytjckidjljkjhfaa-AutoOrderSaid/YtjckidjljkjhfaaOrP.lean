/- Plain: what was made is in order; Not of Not; de Morgan. -/
import Derived.Test.YtjckidjljkjhfaaQtP
import Derived.Test.YtjckidjljkjhfaaPrX
namespace Go.Proofs.Ytjckidjljkjhfaa
open Go.Proofs.YtjckidjljkjhfaaW.PrintWords
theorem sr_kk {σ : Type} [DecidableEq σ] {k : Nat} {step : σ → Nat → σ} {first : σ} {good : σ → Bool} (h : srE k step first = 0) : (srV k step first good).k = (k : Int) := by rw [srV_ok good h]
theorem sr_eqv {σ : Type} [DecidableEq σ] {k : Nat} {step : σ → Nat → σ} {first : σ} (hk : 0 < k) (good : σ → Bool) (h : srE k step first = 0) {u v : List Nat} (hu : ∀ c ∈ u, c < k) (hv : ∀ c ∈ v, c < k) :
    rn (stp (srV k step first good)) 0 u = rn (stp (srV k step first good)) 0 v ↔ rn step first u = rn step first v := by
  have h1 := sr_run hk good h u hu sr_first
  have h2 := sr_run hk good h v hv sr_first
  constructor
  · intro e
    rw [e, h2] at h1
    injection h1 with h1
    exact h1.symm
  · intro e
    rw [e] at h1
    exact bs_uniq h1 h2
theorem rn_pst (x y : AutV) : ∀ (u : List Nat) (s : Nat × Nat), rn (pst x y) s u = (rn (stp x) s.1 u, rn (stp y) s.2 u)
  | [], _ => rfl
  | c :: r, s => rn_pst x y r (pst x y s c)
theorem from_ok {x : AutV} (hx : AutOk x) (g : Nat → Bool) : fromV x 0 g = srV x.k.toNat (stp x) 0 g := by unfold fromV; rw [if_pos (autE_ok hx)]
theorem k_pos {x : AutV} (hx : AutOk x) : 0 < x.k.toNat ∧ x.k.toNat ≤ 8 ∧ ((x.k.toNat : Nat) : Int) = x.k ∧ srE x.k.toNat (stp x) 0 = 0 := by
  have h1 := hx.1; have h2 := hx.2.1
  exact ⟨by omega, by omega, by omega, sr_small hx (by have := hx.2.2.1; omega)⟩
theorem reach_good {x : AutV} (hx : AutOk x) (g : Nat → Bool) : AutOk (fromV x 0 g) ∧ (fromV x 0 g).k = x.k := by
  obtain ⟨h1, h2, h3, h4⟩ := k_pos hx
  rw [from_ok hx]
  exact ⟨sr_aut h1 h2 g h4, by rw [sr_kk h4, h3]⟩
theorem reach_again {x : AutV} (hx : AutOk x) (g : Nat → Bool) (g1 : Bool → Bool) : fromV (fromV x 0 g) 0 (fun s => g1 (rdOf false (fromV x 0 g).acc (s : Int))) = fromV x 0 (fun s => g1 (g s)) := by
  obtain ⟨h1, h2, h3, h4⟩ := k_pos hx
  obtain ⟨r1, r2⟩ := reach_good hx g
  rw [from_ok r1, from_ok hx (fun s => g1 (g s)), r2, from_ok hx]
  exact sr_again h1 g h4 sr_first _ _ (fun i s hi => by rw [sr_acc g h4 hi])
theorem two_ok {x y : AutV} (hx : AutOk x) (hy : AutOk y) (hk : x.k = y.k) : twoE x y = 0 := by unfold twoE; rw [if_pos (autE_ok hx), if_pos (autE_ok hy), if_pos hk]
theorem pr_cases {x y : AutV} (h : twoE x y = 0) : prE x y = 0 ∨ prE x y = 81 := by
  unfold prE; rw [if_pos h]; exact srE_cases
theorem pr_good {x y : AutV} (h : twoE x y = 0) (g : Bool → Bool → Bool) (h0 : prE x y = 0) : AutOk (prV g x y) ∧ (prV g x y).k = x.k ∧ srE x.k.toNat (pst x y) (0, 0) = 0 ∧ prV g x y = srV x.k.toNat (pst x y) (0, 0) (pgd g x y) := by
  obtain ⟨hx, hy, hk⟩ := two_is h
  obtain ⟨h1, h2, h3, _⟩ := k_pos hx
  have hs : srE x.k.toNat (pst x y) (0, 0) = 0 := by unfold prE at h0; rw [if_pos h] at h0; exact h0
  have hv : prV g x y = srV x.k.toNat (pst x y) (0, 0) (pgd g x y) := by unfold prV; rw [if_pos h]
  rw [hv]
  exact ⟨sr_aut h1 h2 _ hs, by rw [sr_kk hs, h3], hs, rfl⟩
/-- What stands for a product's answer, looked for in another way. -/
theorem pr_again {x y : AutV} (h : twoE x y = 0) (g : Bool → Bool → Bool) (h0 : prE x y = 0) (g1 : Bool → Bool) : fromV (prV g x y) 0 (fun s => g1 (rdOf false (prV g x y).acc (s : Int))) = srV x.k.toNat (pst x y) (0, 0) (fun s => g1 (pgd g x y s)) := by
  obtain ⟨hx, hy, hk⟩ := two_is h
  obtain ⟨h1, h2, h3, _⟩ := k_pos hx
  obtain ⟨r1, r2, r3, r4⟩ := pr_good h g h0
  rw [from_ok r1, r2, r4]
  exact sr_again h1 _ r3 sr_first _ _ (fun i s hi => by rw [sr_acc _ r3 hi])
/-- The product of two answers is the answer of the product. -/
theorem pr_not {x y : AutV} (h : twoE x y = 0) (g h' : Nat → Bool) (q : Bool → Bool → Bool) :
    twoE (fromV x 0 g) (fromV y 0 h') = 0 ∧ prE (fromV x 0 g) (fromV y 0 h') = prE x y ∧ prV q (fromV x 0 g) (fromV y 0 h') = srV x.k.toNat (pst x y) (0, 0) (fun s => q (g s.1) (h' s.2)) := by
  obtain ⟨hx, hy, hk⟩ := two_is h
  obtain ⟨h1, h2, h3, h4⟩ := k_pos hx
  obtain ⟨_, _, _, h5⟩ := k_pos hy
  obtain ⟨r1, r2⟩ := reach_good hx g
  obtain ⟨s1, s2⟩ := reach_good hy h'
  have ht := two_ok r1 s1 (by rw [r2, s2, hk])
  have hs : srE x.k.toNat (pst (fromV x 0 g) (fromV y 0 h')) (0, 0) = srE x.k.toNat (pst x y) (0, 0) ∧ srV x.k.toNat (pst (fromV x 0 g) (fromV y 0 h')) (0, 0) (pgd q (fromV x 0 g) (fromV y 0 h')) = srV x.k.toNat (pst x y) (0, 0) (fun s => q (g s.1) (h' s.2)) := by
    have hky : y.k.toNat = x.k.toNat := by rw [hk]
    rw [hky] at h5
    refine sr_same h1 (fun u v hu hv => ?_) (fun u hu => ?_)
    · rw [rn_pst, rn_pst, rn_pst, rn_pst]
      have e1 := sr_eqv h1 g h4 hu hv
      have e2 := sr_eqv h1 h' h5 hu hv
      rw [from_ok hx, from_ok hy, hky]
      simp only [Prod.mk.injEq]
      exact and_congr e1 e2
    · rw [rn_pst, rn_pst]
      show q (rdOf false (fromV x 0 g).acc ((rn (stp (fromV x 0 g)) 0 u : Nat) : Int)) (rdOf false (fromV y 0 h').acc ((rn (stp (fromV y 0 h')) 0 u : Nat) : Int)) = q (g (rn (stp x) 0 u)) (h' (rn (stp y) 0 u))
      rw [from_ok hx, from_ok hy, hky, sr_word h1 g h4 u hu, sr_word h1 h' h5 u hu]
  refine ⟨ht, ?_, ?_⟩
  · have e1 : prE (fromV x 0 g) (fromV y 0 h') = srE (fromV x 0 g).k.toNat (pst (fromV x 0 g) (fromV y 0 h')) (0, 0) := by unfold prE; rw [if_pos ht]
    have e2 : prE x y = srE x.k.toNat (pst x y) (0, 0) := by unfold prE; rw [if_pos h]
    rw [e1, e2, r2]
    exact hs.1
  · have e1 : prV q (fromV x 0 g) (fromV y 0 h') = srV (fromV x 0 g).k.toNat (pst (fromV x 0 g) (fromV y 0 h')) (0, 0) (pgd q (fromV x 0 g) (fromV y 0 h')) := by unfold prV; rw [if_pos ht]
    rw [e1, r2]
    exact hs.2
/-- The statement's laws. -/
theorem order_laws {x y : AutV} (h : twoE x y = 0) :
    (autE x = 0 ∧ autE y = 0 ∧ autE (fromV x 0 (fun s => rdOf false x.acc (s : Int))) = 0 ∧ autE (fromV x 0 (fun s => !rdOf false x.acc (s : Int))) = 0) ∧
    fromV (fromV x 0 (fun s => rdOf false x.acc (s : Int))) 0 (fun s => rdOf false (fromV x 0 (fun s => rdOf false x.acc (s : Int))).acc (s : Int)) = fromV x 0 (fun s => rdOf false x.acc (s : Int)) ∧
    fromV (fromV x 0 (fun s => !rdOf false x.acc (s : Int))) 0 (fun s => !rdOf false (fromV x 0 (fun s => !rdOf false x.acc (s : Int))).acc (s : Int)) = fromV x 0 (fun s => rdOf false x.acc (s : Int)) ∧
    prE (fromV x 0 (fun s => !rdOf false x.acc (s : Int))) (fromV y 0 (fun s => !rdOf false y.acc (s : Int))) = prE x y ∧
    (prE x y = 0 → autE (prV andB x y) = 0 ∧ fromV (prV andB x y) 0 (fun s => !rdOf false (prV andB x y).acc (s : Int)) = prV orB (fromV x 0 (fun s => !rdOf false x.acc (s : Int))) (fromV y 0 (fun s => !rdOf false y.acc (s : Int))) ∧
      fromV (prV andB x y) 0 (fun s => rdOf false (prV andB x y).acc (s : Int)) = prV andB x y) := by
  obtain ⟨hx, hy, hk⟩ := two_is h
  obtain ⟨n1, n2, n3⟩ := pr_not h (fun s => !rdOf false x.acc (s : Int)) (fun s => !rdOf false y.acc (s : Int)) orB
  refine ⟨⟨autE_ok hx, autE_ok hy, autE_ok (reach_good hx _).1, autE_ok (reach_good hx _).1⟩, reach_again hx _ (fun b => b), ?_, n2, fun h0 => ?_⟩
  · have := reach_again hx (fun s => !rdOf false x.acc (s : Int)) (fun b => !b)
    simp only [Bool.not_not] at this ⊢
    exact this
  · obtain ⟨r1, r2, r3, r4⟩ := pr_good h andB h0
    refine ⟨autE_ok r1, ?_, ?_⟩
    · rw [n3, pr_again h andB h0 (fun b => !b)]
      obtain ⟨h1, _⟩ := k_pos hx
      refine srV_ext h1 (fun u hu => ?_)
      show (!(andB _ _)) = orB _ _
      unfold andB orB
      rw [Bool.not_and]
    · rw [pr_again h andB h0 (fun b => b)]
      exact r4.symm
end Go.Proofs.Ytjckidjljkjhfaa
