/- Good transformations as lists: what the calls answer, in plain Lean. -/
import Derived.Test.YtpebnldoimoahaaRfG
import Derived.Test.YtpebnldoimoahaaTrF
namespace Go.Proofs.Ytpebnldoimoahaa
open Go.RowKit Go.Proofs.YtpebnldoimoahaaW.PrintWords
/-- n images below n, 1 ≤ n ≤ 64. -/
structure Gd (n : Nat) (L : List Nat) : Prop where
  one : 1 ≤ n
  max : n ≤ 64
  len : L.length = n
  lt : Inn L n
theorem Gd.lt64 {n : Nat} {L : List Nat} (h : Gd n L) (i : Nat) : L.getD i 0 < 64 := by
  by_cases hi : i < n
  · have := h.lt i hi; have := h.max; omega
  · rw [List.getD_eq_getElem?_getD, List.getElem?_eq_none (by rw [h.len]; omega)]; decide
theorem Gd.ext {n : Nat} {L M : List Nat} (h : Gd n L) (h' : Gd n M) (he : ∀ i, i < n → L.getD i 0 = M.getD i 0) : L = M := by
  apply List.ext_getElem (by rw [h.len, h'.len])
  intro i h1 h2
  have := he i (by rw [← h.len]; exact h1)
  simpa [List.getD_eq_getElem?_getD, List.getElem?_eq_getElem h1, List.getElem?_eq_getElem h2] using this
theorem pw_digit (l : List Nat) (lo : Nat) (h : ∀ i, l.getD i 0 < 64) (j : Nat) : ∀ c, j < c → pw l lo c / 64 ^ j % 64 = l.getD (lo + j) 0
  | 0, hj => absurd hj (by omega)
  | c + 1, hj => by
    simp only [pw]
    by_cases e : j = c
    · subst e
      rw [Nat.add_mul_div_right _ _ (Nat.pow_pos (by decide)), Nat.div_eq_of_lt (pw_lt l lo h j), Nat.zero_add, Nat.mod_eq_of_lt (h _)]
    · have ih := pw_digit l lo h j c (by omega)
      obtain ⟨d, rfl⟩ : ∃ d, c = j + 1 + d := ⟨c - j - 1, by omega⟩
      rw [show l.getD (lo + (j + 1 + d)) 0 * 64 ^ (j + 1 + d) = (l.getD (lo + (j + 1 + d)) 0 * 64 ^ d * 64) * 64 ^ j by
        rw [Nat.pow_add, Nat.pow_add, Nat.pow_one]; ac_rfl]
      rw [Nat.add_mul_div_right _ _ (Nat.pow_pos (by decide)), Nat.add_mul_mod_self_right]
      exact ih
theorem im_pks {l : List Nat} {n i : Nat} (h : ∀ i, l.getD i 0 < 64) (hn : n ≤ 64) (hi : i < n) : im (pks l n) i = l.getD i 0 := by
  unfold im
  rw [pks_getD _ _ _ (by omega), pw_digit l _ h (i % 10) _ (by omega)]
  congr 1; omega
theorem Gd.im {n : Nat} {L : List Nat} (h : Gd n L) {i : Nat} (hi : i < n) : im (pks L n) i = L.getD i 0 := im_pks h.lt64 h.max hi
/-- Two good ones are the same value just if their lists are. -/
theorem Gd.inj {n : Nat} {L M : List Nat} (h : Gd n L) (h' : Gd n M) : pks L n = pks M n ↔ L = M :=
  ⟨fun e => h.ext h' fun i hi => by rw [← h.im hi, ← h'.im hi, e], fun e => by rw [e]⟩
theorem Gd.ims {n : Nat} {L : List Nat} (h : Gd n L) : ims n (pks L n) = padk n L := by
  apply List.ext_getElem (by simp [ims_len, padk_len])
  intro i h1 h2
  have hi : i < 64 := by rw [padk_len] at h2; exact h2
  have e1 : (Ytpebnldoimoahaa.ims n (pks L n)).getD i 0 = (padk n L).getD i 0 := by
    rw [ims_getD, padk_getD]
    by_cases hin : i < n
    · rw [if_pos ⟨hin, hi⟩, if_pos ⟨hin, hi⟩, h.im hin]
    · rw [if_neg (by omega), if_neg (by omega)]
  simpa [List.getD_eq_getElem?_getD, List.getElem?_eq_getElem h1, List.getElem?_eq_getElem h2] using e1
theorem Gd.imk {n : Nat} {L : List Nat} (h : Gd n L) : imk n (pks L n) = L := by
  apply List.ext_getElem (by rw [imk_len, h.len])
  intro i h1 h2
  have hi : i < n := by rw [imk_len] at h1; exact h1
  have e1 : (Ytpebnldoimoahaa.imk n (pks L n)).getD i 0 = L.getD i 0 := by rw [imk_getD _ _ _ hi, h.im hi]
  simpa [List.getD_eq_getElem?_getD, List.getElem?_eq_getElem h1, List.getElem?_eq_getElem h2] using e1
theorem Gd.good {n : Nat} {L : List Nat} (h : Gd n L) : goodT n (pks L n) = true := by
  rw [goodT_all h.one h.max (fun i hi => by rw [h.im hi]; exact h.lt i hi), decide_eq_true_iff, h.ims, pks_padk _ _ h.max]
theorem Gd.words {n : Nat} {L : List Nat} (h : Gd n L) (i : Nat) : (pks L n).getD i 0 < 18446744073709551616 := pks_lt _ _ h.lt64 i
theorem Gd.range {n : Nat} (h1 : 1 ≤ n) (h : n ≤ 64) : Gd n (List.range n) := ⟨h1, h, by simp, fun i hi => by simp [hi]⟩
theorem Gd.thn {n : Nat} {L M : List Nat} (h : Gd n L) (h' : Gd n M) : Gd n (thn L M) :=
  ⟨h.one, h.max, by rw [thn_len, h.len], fun i hi => by rw [thn_getD _ _ _ (by rw [h.len]; exact hi)]; exact h'.lt _ (h.lt i hi)⟩
/-- The k-th power. -/
def pwr (n : Nat) (L : List Nat) (k : Nat) : List Nat := (List.range n).map fun i => orb L i k
theorem pwr_getD (n : Nat) (L : List Nat) (k i : Nat) (h : i < n) : (pwr n L k).getD i 0 = orb L i k := by simp [pwr, List.getD_eq_getElem?_getD, h]
theorem Gd.pwr {n : Nat} {L : List Nat} (h : Gd n L) (k : Nat) : Gd n (pwr n L k) :=
  ⟨h.one, h.max, by simp [Ytpebnldoimoahaa.pwr], fun i hi => by rw [pwr_getD _ _ _ _ hi]; exact orb_lt h.lt hi k⟩
/-- Products, lists of one length. -/
theorem thn_assoc {n : Nat} {L M N : List Nat} (h : Gd n L) (h' : Gd n M) (h'' : Gd n N) : thn (thn L M) N = thn L (thn M N) :=
  ((h.thn h').thn h'').ext (h.thn (h'.thn h'')) fun i hi => by
    rw [thn_getD _ _ _ (by rw [thn_len, h.len]; exact hi), thn_getD _ _ _ (by rw [h.len]; exact hi), thn_getD _ _ _ (by rw [h.len]; exact hi), thn_getD _ _ _ (by rw [h'.len]; exact h.lt i hi)]
theorem thn_left {n : Nat} {L : List Nat} (h : Gd n L) : thn (List.range n) L = L :=
  ((Gd.range h.one h.max).thn h).ext h fun i hi => by rw [thn_getD _ _ _ (by simpa using hi)]; simp [hi]
theorem thn_right {n : Nat} {L : List Nat} (h : Gd n L) : thn L (List.range n) = L :=
  (h.thn (Gd.range h.one h.max)).ext h fun i hi => by
    have := h.lt i hi
    rw [thn_getD _ _ _ (by rw [h.len]; exact hi)]
    generalize L.getD i 0 = x at *
    simp [this]
theorem thn_pwr {n : Nat} {L : List Nat} (h : Gd n L) (a b : Nat) : thn (pwr n L a) (pwr n L b) = pwr n L (a + b) :=
  ((h.pwr a).thn (h.pwr b)).ext (h.pwr (a + b)) fun i hi => by
    rw [thn_getD _ _ _ (by rw [(h.pwr a).len]; exact hi), pwr_getD _ _ _ _ hi, pwr_getD _ _ _ _ (orb_lt h.lt hi a), pwr_getD _ _ _ _ hi, orb_add]
theorem pwr_one {n : Nat} {L : List Nat} (h : Gd n L) : pwr n L 1 = L := (h.pwr 1).ext h fun i hi => by rw [pwr_getD _ _ _ _ hi]; rfl
theorem orb_sq {n : Nat} {L : List Nat} (h : Gd n L) {v : Nat} (hv : v < n) : ∀ k, orb (thn L L) v k = orb L v (2 * k)
  | 0 => rfl
  | k + 1 => by
    show (thn L L).getD (orb (thn L L) v k) 0 = _
    rw [thn_getD _ _ _ (by rw [h.len]; exact orb_lt (h.thn h).lt hv k), orb_sq h hv k]
    rfl
theorem rpl_pwr {n : Nat} : ∀ (k : Nat) {o l : List Nat}, Gd n o → Gd n l → Gd n (rpl o l k) ∧ ∀ i, i < n → (rpl o l k).getD i 0 = orb l (o.getD i 0) k := by
  intro k
  induction k using Nat.strongRecOn with
  | ind k ih =>
    intro o l ho hl
    rw [rpl]
    by_cases hk : k = 0
    · subst hk; rw [dif_pos rfl]; exact ⟨ho, fun i _ => rfl⟩
    · rw [dif_neg hk]
      by_cases hodd : k % 2 = 1
      · rw [if_pos hodd]
        obtain ⟨h1, h2⟩ := ih (k / 2) (by omega) (ho.thn hl) (hl.thn hl)
        refine ⟨h1, fun i hi => ?_⟩
        have hx := ho.lt i hi
        rw [h2 i hi, thn_getD _ _ _ (by rw [ho.len]; exact hi), orb_sq hl (hl.lt _ hx)]
        have h3 := orb_add l (o.getD i 0) 1 (2 * (k / 2))
        rw [show 1 + 2 * (k / 2) = k by omega] at h3
        exact h3.symm
      · rw [if_neg hodd]
        obtain ⟨h1, h2⟩ := ih (k / 2) (by omega) ho (hl.thn hl)
        refine ⟨h1, fun i hi => ?_⟩
        rw [h2 i hi, orb_sq hl (ho.lt i hi), show 2 * (k / 2) = k by omega]
theorem rpl_range {n : Nat} {L : List Nat} (h : Gd n L) (k : Nat) : rpl (List.range n) L k = pwr n L k := by
  obtain ⟨h1, h2⟩ := rpl_pwr k (Gd.range h.one h.max) h
  exact h1.ext (h.pwr k) fun i hi => by rw [h2 i hi, pwr_getD _ _ _ _ hi]; simp [hi]
/-- What the calls answer at good ones. -/
theorem cmpT_good {n : Nat} {L M : List Nat} (h : Gd n L) (h' : Gd n M) : cmpT n (pks L n) n (pks M n) = ((n : Int), pks (thn L M) n, 0) := by
  unfold cmpT
  rw [h.good, h'.good, if_pos (show (true && true) = true from rfl), if_pos rfl, Int.toNat_natCast, ← thn_bhd h.max (fun i hi => by rw [h.im hi]; exact h.lt i hi), h.imk, h'.imk]
theorem powT_good {n : Nat} {L : List Nat} (h : Gd n L) (k : Nat) : powT n (pks L n) k = ((n : Int), pks (pwr n L k) n, 0) := by
  unfold powT
  rw [h.good, if_pos rfl, Int.toNat_natCast, ← (Agr.pow h.max k (agr_range h.max) (agr_imk h.max (fun i hi => by rw [h.im hi]; exact h.lt i hi))).pks, h.imk, rpl_range h]
theorem idT_good {n : Nat} (h1 : 1 ≤ n) (h : n ≤ 64) : idT n = ((n : Int), pks (List.range n) n, 0) := by
  unfold idT
  rw [if_neg (by omega), Int.toNat_natCast, pks_ext (List.range 64) (List.range n) n (fun i hi => by simp [hi, show i < 64 by omega])]
theorem makeT_gd {n : Nat} {L : List Nat} (h : Gd n L) : makeT (zl L) = ((n : Int), pks L n, 0) := by
  have e : nats (zl L) = L := by unfold nats zl; rw [List.map_map]; conv => rhs; rw [← List.map_id L]
                                 congr 1
  rw [makeT_good (by rw [zl_len, h.len]; have := h.one; have := h.max; omega) (fun i hi => by
    have hz := zl_rd L i
    unfold rd at hz
    rw [Int.toNat_natCast] at hz
    rw [zl_len, h.len] at *
    rw [hz]; have := h.lt i hi; omega), e, zl_len, h.len]
theorem cyc_orb {L M : List Nat} {n : Nat} (h : ∀ i, i < n → L.getD i 0 = M.getD i 0) (hL : Inn L n) {v : Nat} (hv : v < n) : ∀ k, orb L v k = orb M v k
  | 0 => rfl
  | k + 1 => by
    have ih := cyc_orb h hL hv k
    show L.getD (orb L v k) 0 = M.getD (orb M v k) 0
    rw [← ih]; exact h _ (orb_lt hL hv k)
end Go.Proofs.Ytpebnldoimoahaa
