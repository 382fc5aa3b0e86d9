/- Powers of a good transformation and its index and period, in plain Lean; Cycle at good ones. -/
import Derived.Test.YtpebnldoimoahaaGoodC
namespace Go.Proofs.Ytpebnldoimoahaa
open Go.RowKit Go.Proofs.YtpebnldoimoahaaW.PrintWords
theorem Tail.congr {L M : List Nat} {n v m p : Nat} (h : ∀ i, i < n → L.getD i 0 = M.getD i 0) (hL : Inn L n) (hv : v < n) (ht : Tail L v m p) : Tail M v m p := by
  have e := cyc_orb h hL hv
  exact ⟨fun i j h1 h2 => by rw [← e i, ← e j]; exact ht.fr i j h1 h2, ht.one, by rw [← e, ← e]; exact ht.back⟩
theorem cyc_congr {L M : List Nat} {n : Nat} (h : ∀ i, i < n → L.getD i 0 = M.getD i 0) (hL : Inn L n) : ∀ k, k ≤ n → cyc L n k = cyc M n k
  | 0, _ => rfl
  | k + 1, hk => by
    have hM : Inn M n := fun i hi => by rw [← h i hi]; exact hL i hi
    have hv : k < n := by omega
    have e : tlp M n k = tlp L n k := tlp_eq hM hv ((tlp_tail hL hv).congr h hL hv)
    show (max (cyc L n k).1 (tlp L n k).1, (cyc L n k).2 / Nat.gcd (cyc L n k).2 (tlp L n k).2 * (tlp L n k).2) = (max (cyc M n k).1 (tlp M n k).1, (cyc M n k).2 / Nat.gcd (cyc M n k).2 (tlp M n k).2 * (tlp M n k).2)
    rw [e, cyc_congr h hL k (by omega)]
/-- The index is the longest tail; the period the least common multiple. -/
theorem cyc_max {L : List Nat} {n : Nat} (hL : Inn L n) : ∀ k, k ≤ n → (∀ v, v < k → (tlp L n v).1 ≤ (cyc L n k).1) ∧ ((cyc L n k).1 = 0 ∨ ∃ v, v < k ∧ (tlp L n v).1 = (cyc L n k).1) ∧ (∀ q, (cyc L n k).2 ∣ q ↔ ∀ v, v < k → (tlp L n v).2 ∣ q)
  | 0, _ => ⟨by omega, .inl rfl, fun q => ⟨fun _ => by omega, fun _ => Nat.one_dvd _⟩⟩
  | k + 1, hk => by
    obtain ⟨h1, h2, h3⟩ := cyc_max hL k (by omega)
    have e1 : (cyc L n (k + 1)).1 = max (cyc L n k).1 (tlp L n k).1 := rfl
    have e2 : (cyc L n (k + 1)).2 = Nat.lcm (cyc L n k).2 (tlp L n k).2 := lcm_form _ _
    rw [e1, e2]
    refine ⟨fun v hv => ?_, ?_, fun q => ?_⟩
    · by_cases e : v = k
      · subst e; omega
      · have := h1 v (by omega); omega
    · by_cases hm : (cyc L n k).1 ≤ (tlp L n k).1
      · right; exact ⟨k, by omega, by omega⟩
      · rcases h2 with h2 | ⟨v, hv, h2⟩
        · omega
        · right; exact ⟨v, by omega, by omega⟩
    · rw [Nat.lcm_dvd_iff, h3 q]
      constructor
      · rintro ⟨g1, g2⟩ v hv
        by_cases e : v = k
        · subst e; exact g2
        · exact g1 v (by omega)
      · intro g; exact ⟨fun v hv => g v (by omega), g k (by omega)⟩
theorem cyc_index {L : List Nat} {n : Nat} (hL : Inn L n) (hn : 1 ≤ n) : (cyc L n n).1 < n := by
  obtain ⟨_, h2, _⟩ := cyc_max hL n (Nat.le_refl _)
  rcases h2 with h2 | ⟨v, hv, h2⟩
  · omega
  · have ht := tlp_tail hL hv
    have := fresh_le hL hv ht.fr
    have := ht.one
    omega
/-- Two powers are the same just behind the index, a multiple of the period apart. -/
theorem pwr_same {n : Nat} {L : List Nat} (h : Gd n L) {q : Nat} (hq : 0 < q) : pwr n L ((cyc L n n).1 + q) = pwr n L (cyc L n n).1 ↔ (cyc L n n).2 ∣ q := by
  obtain ⟨h1, _, h3⟩ := cyc_max h.lt n (Nat.le_refl _)
  rw [h3 q]
  constructor
  · intro e v hv
    have := congrArg (fun l => l.getD v 0) e
    simp only [pwr_getD _ _ _ _ hv] at this
    exact (((tlp_tail h.lt hv).eq_iff hq).1 this).2
  · intro g
    refine (h.pwr _).ext (h.pwr _) fun v hv => ?_
    rw [pwr_getD _ _ _ _ hv, pwr_getD _ _ _ _ hv]
    exact ((tlp_tail h.lt hv).eq_iff hq).2 ⟨h1 v hv, g v hv⟩
theorem pwr_less {n : Nat} {L : List Nat} (h : Gd n L) (hi : 0 < (cyc L n n).1) {q : Nat} (hq : 0 < q) : pwr n L ((cyc L n n).1 - 1 + q) ≠ pwr n L ((cyc L n n).1 - 1) := by
  obtain ⟨_, h2, _⟩ := cyc_max h.lt n (Nat.le_refl _)
  rcases h2 with h2 | ⟨v, hv, h2⟩
  · omega
  · intro e
    have := congrArg (fun l => l.getD v 0) e
    simp only [pwr_getD _ _ _ _ hv] at this
    have := (((tlp_tail h.lt hv).eq_iff hq).1 this).1
    omega
theorem cycle_g {n : Nat} {L : List Nat} (h : Gd n L) (w : World) :
    Calls Try.prog 23 #[.agg (tvv n (pks L n))] w fun e w' => e = .returned (.tuple #[.int .i64 (cyc L n n).1, .int .i64 (cyc L n n).2, .int .i64 0]) ∧ Below w.heap.size w w' := by
  have hc := cycle_any n (pks L n) (pks_len _ _) (Lib.hid h.words) w
  refine hc.mono ?_
  rintro e w' ⟨he, hb⟩
  refine ⟨?_, hb⟩
  rw [he, h.good, if_pos rfl, Int.toNat_natCast, h.ims]
  have e : cyc (padk n L) n n = cyc L n n := (cyc_congr (fun i hi => by rw [padk_getD, if_pos ⟨hi, by have := h.max; omega⟩]) h.lt n (Nat.le_refl _)).symm
  rw [e]
end Go.Proofs.Ytpebnldoimoahaa
