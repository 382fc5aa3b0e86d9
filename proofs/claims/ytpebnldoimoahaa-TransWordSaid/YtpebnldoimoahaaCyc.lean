/- Plain Lean: the orbit of a point under a list of images: its tail and its round; the longest tail and the least common multiple of the rounds. -/
namespace Go.Proofs.Ytpebnldoimoahaa

/-- Where k steps lead from v. -/
def orb (L : List Nat) (v : Nat) : Nat → Nat
  | 0 => v
  | k + 1 => L.getD (orb L v k) 0
def Inn (L : List Nat) (n : Nat) : Prop := ∀ i, i < n → L.getD i 0 < n
theorem orb_lt {L : List Nat} {n v : Nat} (h : Inn L n) (hv : v < n) : ∀ k, orb L v k < n
  | 0 => hv
  | k + 1 => h _ (orb_lt h hv k)
theorem orb_add (L : List Nat) (v a : Nat) : ∀ b, orb L v (a + b) = orb L (orb L v a) b
  | 0 => rfl
  | b + 1 => by show L.getD (orb L v (a + b)) 0 = _; rw [orb_add L v a b]; rfl
theorem orb_same {L : List Nat} {u v a b : Nat} (h : orb L u a = orb L v b) (c : Nat) : orb L u (a + c) = orb L v (b + c) := by
  rw [orb_add, orb_add, h]

/-- A list of different numbers below n is no longer than n. -/
theorem nodup_le : ∀ (n : Nat) (l : List Nat), l.Nodup → (∀ x ∈ l, x < n) → l.length ≤ n
  | 0, l, _, h => by
    cases l with
    | nil => simp
    | cons x l => exact absurd (h x (by simp)) (by omega)
  | n + 1, l, hd, h => by
    have h1 : (l.erase n).Nodup := hd.erase _
    have h2 : ∀ x ∈ l.erase n, x < n := fun x hx => by
      have := (List.Nodup.mem_erase_iff hd).1 hx
      have := h x this.2
      omega
    have := nodup_le n _ h1 h2
    have h3 := List.length_erase (a := n) (l := l)
    split at h3 <;> omega

/-- The first t points are different. -/
def fresh (L : List Nat) (v t : Nat) : Prop := ∀ i j, i < j → j < t → orb L v i ≠ orb L v j
theorem fresh_zero (L : List Nat) (v : Nat) : fresh L v 0 := fun _ _ _ h => absurd h (by omega)
theorem fresh_succ {L : List Nat} {v t : Nat} (h : fresh L v t) (h1 : ∀ i, i < t → orb L v i ≠ orb L v t) : fresh L v (t + 1) := fun i j hij hj => by
  by_cases e : j = t
  · subst e; exact h1 i hij
  · exact h i j hij (by omega)
theorem fresh_le {L : List Nat} {n v t : Nat} (h : Inn L n) (hv : v < n) (hf : fresh L v t) : t ≤ n := by
  have h1 : ((List.range t).map (orb L v)).Nodup := by
    rw [List.nodup_iff_pairwise_ne, List.pairwise_map]
    refine List.Pairwise.imp_of_mem ?_ (List.pairwise_lt_range (n := t))
    intro i j _ hj hij
    exact hf i j hij (List.mem_range.1 hj)
  have := nodup_le n _ h1 (fun x hx => by
    obtain ⟨k, _, rfl⟩ := List.mem_map.1 hx
    exact orb_lt h hv k)
  simpa using this

/-- m steps of tail, a round of p. -/
structure Tail (L : List Nat) (v m p : Nat) : Prop where
  fr : fresh L v (m + p)
  one : 1 ≤ p
  back : orb L v (m + p) = orb L v m
theorem Tail.unique {L : List Nat} {v m p m' p' : Nat} (h : Tail L v m p) (h' : Tail L v m' p') : m = m' ∧ p = p' := by
  have key : ∀ {a b c d : Nat}, Tail L v a b → Tail L v c d → ¬ (a + b < c + d) := fun {a b c d} h1 h2 hlt => by
    exact h2.fr a (a + b) (by have := h1.one; omega) hlt h1.back.symm
  have e : m + p = m' + p' := by
    have := key h h'; have := key h' h; omega
  have e2 : orb L v m = orb L v m' := by rw [← h.back, ← h'.back, e]
  have : m = m' := by
    rcases Nat.lt_trichotomy m m' with hl | hl | hl
    · exact absurd e2 (h.fr m m' hl (by have := h'.one; omega))
    · exact hl
    · exact absurd e2.symm (h.fr m' m hl (by have := h.one; omega))
  exact ⟨this, by omega⟩
/-- The tail and the round, found by search. -/
def hit (L : List Nat) (v t : Nat) : Bool := (List.range t).any fun s => orb L v s == orb L v t
def tlp (L : List Nat) (n v : Nat) : Nat × Nat :=
  match (List.range (n + 1)).find? (hit L v) with
  | some t => match (List.range t).find? (fun s => orb L v s == orb L v t) with
    | some s => (s, t - s)
    | none => (0, 1)
  | none => (0, 1)
theorem fresh_iff {L : List Nat} {v : Nat} : ∀ t, fresh L v t ↔ ∀ j, j < t → hit L v j = false
  | t => by
    constructor
    · intro h j hj
      rw [Bool.eq_false_iff]
      intro hh
      obtain ⟨s, hs, he⟩ := List.any_eq_true.1 hh
      exact h s j (List.mem_range.1 hs) hj (by simpa using he)
    · intro h i j hij hj he
      have := h j hj
      rw [Bool.eq_false_iff] at this
      exact this (List.any_eq_true.2 ⟨i, List.mem_range.2 hij, by simpa using he⟩)
theorem tlp_tail {L : List Nat} {n v : Nat} (h : Inn L n) (hv : v < n) : Tail L v (tlp L n v).1 (tlp L n v).2 := by
  have hex : ∃ t, t < n + 1 ∧ hit L v t = true := by
    apply Classical.byContradiction
    intro hno
    have hf : fresh L v (n + 1) := (fresh_iff _).2 fun j hj => by
      rw [Bool.eq_false_iff]; intro hh; exact hno ⟨j, hj, hh⟩
    have := fresh_le h hv hf
    omega
  unfold tlp
  cases hc : (List.range (n + 1)).find? (hit L v) with
  | none =>
    obtain ⟨t, ht, hh⟩ := hex
    rw [List.find?_eq_none] at hc
    exact absurd hh (hc t (List.mem_range.2 ht))
  | some t =>
    obtain ⟨h1, h2, h3⟩ := List.find?_range_eq_some.1 hc
    have hf : fresh L v t := (fresh_iff _).2 fun j hj => by simpa using h3 j hj
    cases hd : (List.range t).find? (fun s => orb L v s == orb L v t) with
    | none =>
      obtain ⟨s, hs, he⟩ := List.any_eq_true.1 h1
      rw [List.find?_eq_none] at hd
      exact absurd he (hd s hs)
    | some s =>
      obtain ⟨g1, g2, g3⟩ := List.find?_range_eq_some.1 hd
      have hs := List.mem_range.1 g2
      simp only [hd]
      refine ⟨?_, ?_, ?_⟩
      · rw [show s + (t - s) = t by omega]; exact hf
      · omega
      · rw [show s + (t - s) = t by omega]; simpa using Eq.symm (eq_of_beq g1)
theorem tlp_eq {L : List Nat} {n v m p : Nat} (h : Inn L n) (hv : v < n) (ht : Tail L v m p) : tlp L n v = (m, p) := by
  obtain ⟨e1, e2⟩ := (tlp_tail h hv).unique ht
  exact Prod.ext e1 e2

/-- Over the points below k: the longest tail, the least common multiple of the rounds. -/
def cyc (L : List Nat) (n : Nat) : Nat → Nat × Nat
  | 0 => (0, 1)
  | v + 1 => (max (cyc L n v).1 (tlp L n v).1, (cyc L n v).2 / Nat.gcd (cyc L n v).2 (tlp L n v).2 * (tlp L n v).2)
theorem lcm_form (a b : Nat) : a / Nat.gcd a b * b = Nat.lcm a b := by
  unfold Nat.lcm
  rw [Nat.mul_comm, ← Nat.mul_div_assoc b (Nat.gcd_dvd_left a b), Nat.mul_comm]

/-- Behind its tail a point comes round. -/
theorem Tail.round {L : List Nat} {v m p : Nat} (h : Tail L v m p) : ∀ c k, m ≤ k → orb L v (k + c * p) = orb L v k
  | 0, k, _ => by simp
  | c + 1, k, hk => by
    have e : orb L v (k + p) = orb L v k := by
      have := orb_same (c := k - m) h.back
      rw [show m + p + (k - m) = k + p by omega, show m + (k - m) = k by omega] at this
      exact this
    rw [show k + (c + 1) * p = (k + p) + c * p by rw [Nat.succ_mul]; omega, Tail.round h c (k + p) (by omega), e]
/-- And only so: two steps that lead to one point. -/
theorem Tail.eq_iff {L : List Nat} {v m p : Nat} (h : Tail L v m p) {k q : Nat} (hq : 0 < q) : orb L v (k + q) = orb L v k ↔ m ≤ k ∧ p ∣ q := by
  have hp := h.one
  constructor
  · intro he
    have hm : m ≤ k := by
      apply Classical.byContradiction
      intro hlt
      -- k < m: the point k comes again, beyond any length: reduce k + q into the first round
      have hk : k < m := by omega
      by_cases hs : k + q < m + p
      · exact h.fr k (k + q) (by omega) hs he.symm
      · have hr := h.round ((k + q - m) / p) (m + (k + q - m) % p) (by omega)
        have e1 : m + (k + q - m) % p + (k + q - m) / p * p = k + q := by
          have := Nat.div_add_mod (k + q - m) p
          rw [Nat.mul_comm] at this
          omega
        rw [e1, he] at hr
        have hlt2 : (k + q - m) % p < p := Nat.mod_lt _ (by omega)
        exact h.fr k (m + (k + q - m) % p) (by omega) (by omega) hr
    refine ⟨hm, ?_⟩
    apply Nat.dvd_of_mod_eq_zero
    apply Classical.byContradiction
    intro hne
    have hlt : q % p < p := Nat.mod_lt _ (by omega)
    have e1 : k + q = (k + q % p) + q / p * p := by
      have := Nat.div_add_mod q p
      rw [Nat.mul_comm] at this
      omega
    rw [e1, h.round (q / p) (k + q % p) (by omega)] at he
    -- both within the round: bring k into the first round
    have hr1 := h.round ((k - m) / p) (m + (k - m) % p) (by omega)
    have e2 : m + (k - m) % p + (k - m) / p * p = k := by
      have := Nat.div_add_mod (k - m) p
      rw [Nat.mul_comm] at this
      omega
    have hlt2 : (k - m) % p < p := Nat.mod_lt _ (by omega)
    have he2 := orb_same (c := (p - (k - m) % p)) he
    -- at k' = m + 0 round start
    have a1 : orb L v (k + (p - (k - m) % p)) = orb L v m := by
      have := h.round ((k - m) / p + 1) m (Nat.le_refl _)
      rw [show m + ((k - m) / p + 1) * p = k + (p - (k - m) % p) by rw [Nat.succ_mul]; omega] at this
      exact this
    have a2 : orb L v (k + q % p + (p - (k - m) % p)) = orb L v (m + q % p) := by
      have := h.round ((k - m) / p + 1) (m + q % p) (by omega)
      rw [show m + q % p + ((k - m) / p + 1) * p = k + q % p + (p - (k - m) % p) by rw [Nat.succ_mul]; omega] at this
      exact this
    rw [a1, a2] at he2
    exact h.fr m (m + q % p) (by omega) (by omega) he2.symm
  · rintro ⟨hm, c, rfl⟩
    rw [Nat.mul_comm]
    exact h.round c k hm

theorem three_pow (x : Nat) : x ^ 3 ≤ 3 ^ x := by
  match x with
  | 0 => decide
  | 1 => decide
  | 2 => decide
  | x + 3 =>
    induction x with
    | zero => decide
    | succ x ih =>
      have h : (x + 1 + 3) ^ 3 ≤ 3 * (x + 3) ^ 3 := by
        have e : 3 * (x + 3) ^ 3 = (x + 1 + 3) ^ 3 + (2 * x ^ 3 + 15 * x ^ 2 + 33 * x + 17) := by grind
        omega
      rw [show x + 1 + 3 = (x + 3) + 1 by omega, Nat.pow_succ 3]
      rw [show x + 1 + 3 = (x + 3) + 1 by omega] at h
      omega
/-- The rounds met so far: their points, all different; the multiple so far brings each of them back. -/
structure Met (L : List Nat) (n v p : Nat) (U : List Nat) : Prop where
  nd : U.Nodup
  lt : ∀ x ∈ U, x < n
  cl : ∀ x ∈ U, L.getD x 0 ∈ U
  back : ∀ x ∈ U, orb L x p = x
  pos : 1 ≤ p
  small : p ^ 3 ≤ 3 ^ U.length
theorem Met.orb {L : List Nat} {n v p : Nat} {U : List Nat} (h : Met L n v p U) {x : Nat} (hx : x ∈ U) : ∀ k, orb L x k ∈ U
  | 0 => hx
  | k + 1 => h.cl _ (h.orb hx k)
theorem orb_mul {L : List Nat} {x p : Nat} (h : orb L x p = x) : ∀ c, orb L x (p * c) = x
  | 0 => rfl
  | c + 1 => by rw [Nat.mul_succ, orb_add, orb_mul h c, h]
theorem met_step {L : List Nat} {n v p m r : Nat} {U : List Nat} (h : Inn L n) (hv : v < n) (hm : Met L n v p U) (ht : Tail L v m r) : ∃ U', Met L n (v + 1) (Nat.lcm p r) U' := by
  have hr := ht.one
  have hc : orb L (orb L v m) r = orb L v m := by rw [← orb_add]; exact ht.back
  by_cases hU : orb L v m ∈ U
  · have hd : r ∣ p := by
      have h1 := hm.back _ hU
      rw [← orb_add] at h1
      exact ((ht.eq_iff (by have := hm.pos; omega)).1 h1).2
    have e : Nat.lcm p r = p := by
      apply Nat.dvd_antisymm
      · exact Nat.lcm_dvd (Nat.dvd_refl _) hd
      · exact Nat.dvd_lcm_left _ _
    exact ⟨U, by rw [e]; exact ⟨hm.nd, hm.lt, hm.cl, hm.back, hm.pos, hm.small⟩⟩
  · have hnew : ∀ i, orb L v (m + i) ∉ U := fun i hi => by
      have h1 := hm.orb hi (i * r - i)
      rw [← orb_add] at h1
      have h2 : i ≤ i * r := Nat.le_mul_of_pos_right _ (by omega)
      rw [show m + i + (i * r - i) = m + i * r by omega, ht.round i m (Nat.le_refl _)] at h1
      exact hU h1
    refine ⟨U ++ (List.range r).map (fun i => orb L v (m + i)), ?_, ?_, ?_, ?_, ?_, ?_⟩
    · rw [List.nodup_append]
      refine ⟨hm.nd, ?_, ?_⟩
      · rw [List.nodup_iff_pairwise_ne, List.pairwise_map]
        refine List.Pairwise.imp_of_mem ?_ (List.pairwise_lt_range (n := r))
        intro i j _ hj hij
        exact ht.fr (m + i) (m + j) (by omega) (by have := List.mem_range.1 hj; omega)
      · intro a ha b hb hab
        obtain ⟨i, _, rfl⟩ := List.mem_map.1 hb
        exact hnew i (hab ▸ ha)
    · intro x hx
      rcases List.mem_append.1 hx with hx | hx
      · exact hm.lt x hx
      · obtain ⟨i, _, rfl⟩ := List.mem_map.1 hx
        exact orb_lt h hv _
    · intro x hx
      rcases List.mem_append.1 hx with hx | hx
      · exact List.mem_append_left _ (hm.cl x hx)
      · obtain ⟨i, hi, rfl⟩ := List.mem_map.1 hx
        have hi := List.mem_range.1 hi
        refine List.mem_append_right _ (List.mem_map.2 ?_)
        by_cases e : i + 1 = r
        · refine ⟨0, List.mem_range.2 (by omega), ?_⟩
          show orb L v m = orb L v (m + i + 1)
          rw [show m + i + 1 = m + r by omega]; exact ht.back.symm
        · exact ⟨i + 1, List.mem_range.2 (by omega), rfl⟩
    · intro x hx
      rcases List.mem_append.1 hx with hx | hx
      · obtain ⟨c, hc'⟩ := Nat.dvd_lcm_left p r
        rw [hc']; exact orb_mul (hm.back x hx) c
      · obtain ⟨i, _, rfl⟩ := List.mem_map.1 hx
        obtain ⟨c, hc'⟩ := Nat.dvd_lcm_right p r
        rw [hc']
        refine orb_mul ?_ c
        rw [← orb_add]
        have := ht.round 1 (m + i) (by omega)
        rwa [Nat.one_mul] at this
    · exact Nat.lcm_pos hm.pos hr
    · rw [List.length_append, List.length_map, List.length_range, Nat.pow_add]
      have h1 : Nat.lcm p r ≤ p * r := Nat.le_of_dvd (Nat.mul_pos hm.pos hr) (Nat.lcm_dvd (Nat.dvd_mul_right _ _) (Nat.dvd_mul_left _ _))
      calc (Nat.lcm p r) ^ 3 ≤ (p * r) ^ 3 := Nat.pow_le_pow_left h1 3
        _ = p ^ 3 * r ^ 3 := Nat.mul_pow ..
        _ ≤ 3 ^ U.length * 3 ^ r := Nat.mul_le_mul hm.small (three_pow r)
theorem cyc_met {L : List Nat} {n : Nat} (h : Inn L n) : ∀ k, k ≤ n → ∃ U, Met L n k (cyc L n k).2 U
  | 0, _ => ⟨[], List.nodup_nil, by simp, by simp, by simp, by simp [cyc], by simp [cyc]⟩
  | k + 1, hk => by
    obtain ⟨U, hU⟩ := cyc_met h k (by omega)
    have ht := tlp_tail h (show k < n by omega)
    show ∃ U, Met L n (k + 1) ((cyc L n k).2 / Nat.gcd (cyc L n k).2 (tlp L n k).2 * (tlp L n k).2) U
    rw [lcm_form]
    exact met_step h (by omega) hU ht
/-- The multiple is never large: no number of Go's overflows. -/
theorem cyc_small {L : List Nat} {n k : Nat} (h : Inn L n) (hk : k ≤ n) (hn : n ≤ 64) : 1 ≤ (cyc L n k).2 ∧ (cyc L n k).2 < 17179869184 := by
  obtain ⟨U, hU⟩ := cyc_met h k hk
  refine ⟨hU.pos, ?_⟩
  apply Classical.byContradiction
  intro hge
  have h1 : 17179869184 ^ 3 ≤ (cyc L n k).2 ^ 3 := Nat.pow_le_pow_left (by omega) 3
  have h2 : 3 ^ U.length ≤ 3 ^ 64 := Nat.pow_le_pow_right (by omega) (by have := nodup_le n U hU.nd hU.lt; omega)
  have h3 := hU.small
  have h4 : 3 ^ 64 < 17179869184 ^ 3 := by decide
  omega

/-- The marks: how far from v each point was met, and 1. -/
def atl (L : List Nat) (v n : Nat) : Nat → List Nat
  | 0 => List.replicate n 0
  | t + 1 => (atl L v n t).set (orb L v t) (t + 1)
theorem atl_len (L : List Nat) (v n : Nat) : ∀ t, (atl L v n t).length = n
  | 0 => by simp [atl]
  | t + 1 => by simp [atl, atl_len L v n t]
theorem atl_miss {L : List Nat} {v n x : Nat} : ∀ t, (∀ s, s < t → orb L v s ≠ x) → (atl L v n t).getD x 0 = 0
  | 0, _ => by
    simp only [atl, List.getD_eq_getElem?_getD, List.getElem?_replicate]
    split <;> rfl
  | t + 1, h => by
    have ih := atl_miss (L := L) (v := v) (n := n) (x := x) t (fun s hs => h s (by omega))
    simp only [atl, List.getD_eq_getElem?_getD]
    rw [List.getElem?_set_ne (h t (by omega)), ← List.getD_eq_getElem?_getD]
    exact ih
theorem atl_hit {L : List Nat} {v n : Nat} (h : Inn L n) (hv : v < n) : ∀ t, fresh L v t → ∀ s, s < t → (atl L v n t).getD (orb L v s) 0 = s + 1
  | 0, _, s, hs => absurd hs (by omega)
  | t + 1, hf, s, hs => by
    simp only [atl, List.getD_eq_getElem?_getD]
    by_cases e : s = t
    · subst e
      rw [List.getElem?_set_self (by rw [atl_len]; exact orb_lt h hv _)]; rfl
    · rw [List.getElem?_set_ne (fun e2 => hf s t (by omega) (by omega) e2.symm), ← List.getD_eq_getElem?_getD]
      exact atl_hit h hv t (fun i j hij hj => hf i j hij (by omega)) s (by omega)
/-- At a point that was met: the tail and the round are found. -/
theorem atl_tail {L : List Nat} {v n t c : Nat} (h : Inn L n) (hv : v < n) (hf : fresh L v t) (hc : (atl L v n t).getD (orb L v t) 0 = c) (hc0 : c ≠ 0) :
    1 ≤ c ∧ c ≤ t ∧ Tail L v (c - 1) (t + 1 - c) := by
  have hex : ∃ s, s < t ∧ orb L v s = orb L v t := by
    apply Classical.byContradiction
    intro hno
    apply hc0
    rw [← hc]
    exact atl_miss t fun s hs he => hno ⟨s, hs, he⟩
  obtain ⟨s, hs, he⟩ := hex
  have := atl_hit h hv t hf s hs
  rw [he, hc] at this
  refine ⟨by omega, by omega, ?_, by omega, ?_⟩
  · rw [show c - 1 + (t + 1 - c) = t by omega]; exact hf
  · rw [show c - 1 + (t + 1 - c) = t by omega, show c - 1 = s by omega]; exact he.symm
theorem atl_fresh {L : List Nat} {v n t : Nat} (h : Inn L n) (hv : v < n) (hf : fresh L v t) (hc : (atl L v n t).getD (orb L v t) 0 = 0) : fresh L v (t + 1) :=
  fresh_succ hf fun i hi he => by
    have := atl_hit h hv t hf i hi
    rw [he, hc] at this
    omega
end Go.Proofs.Ytpebnldoimoahaa
