/- Packing lists of numbers below 64 into seven words, in plain Lean: what word j holds after i points, and how one point more changes it. -/
import Derived.Laws.Bits64b
import Derived.IntWalk
namespace Go.Proofs.Ytpebnldoimoahaa

/-- c digits of a list from lo on, to the base 64. -/
def pw (l : List Nat) (lo : Nat) : Nat → Nat
  | 0 => 0
  | c + 1 => pw l lo c + l.getD (lo + c) 0 * 64 ^ c
theorem pw_lt (l : List Nat) (lo : Nat) (h : ∀ i, l.getD i 0 < 64) : ∀ c, pw l lo c < 64 ^ c
  | 0 => by simp [pw]
  | c + 1 => by
    have ih := pw_lt l lo h c
    have hd := h (lo + c)
    have : l.getD (lo + c) 0 * 64 ^ c ≤ 63 * 64 ^ c := Nat.mul_le_mul_right _ (by omega)
    simp only [pw, Nat.pow_succ]
    omega
/-- The words of the first i numbers. -/
def pks (l : List Nat) (i : Nat) : List Nat := (List.range 7).map fun j => pw l (10 * j) (min 10 (i - 10 * j))
theorem pks_len (l : List Nat) (i : Nat) : (pks l i).length = 7 := by simp [pks]
theorem pks_zero (l : List Nat) : pks l 0 = List.replicate 7 0 := by simp [pks, pw, List.range_succ, List.replicate]
theorem pks_getD (l : List Nat) (i j : Nat) (hj : j < 7) : (pks l i).getD j 0 = pw l (10 * j) (min 10 (i - 10 * j)) := by simp [pks, hj]
theorem pks_at (l : List Nat) (k : Nat) (hk : k < 64) : (pks l k).getD (k / 10) 0 = pw l (10 * (k / 10)) (k % 10) := by
  rw [pks_getD l k _ (by omega)]
  congr 1
  omega
theorem pks_set (l : List Nat) (k : Nat) : (pks l k).set (k / 10) (pw l (10 * (k / 10)) (k % 10) + l.getD k 0 * 64 ^ (k % 10)) = pks l (k + 1) := by
  apply List.ext_getElem (by simp [pks])
  intro j h1 h2
  simp only [pks, List.length_map, List.length_range] at h2
  simp only [pks, List.getElem_set, List.getElem_map, List.getElem_range]
  by_cases e : k / 10 = j
  · rw [if_pos e, ← e]
    have : min 10 (k + 1 - 10 * (k / 10)) = k % 10 + 1 := by omega
    rw [this]
    simp only [pw]
    rw [show 10 * (k / 10) + k % 10 = k by omega]
  · rw [if_neg e]
    congr 1
    omega
theorem pks_lt (l : List Nat) (i : Nat) (h : ∀ i, l.getD i 0 < 64) (j : Nat) : (pks l i).getD j 0 < 18446744073709551616 := by
  by_cases hj : j < 7
  · rw [pks_getD l i j hj]
    have h1 := pw_lt l (10 * j) h (min 10 (i - 10 * j))
    have h2 : 64 ^ (min 10 (i - 10 * j)) ≤ 64 ^ 10 := Nat.pow_le_pow_right (by omega) (by omega)
    have h3 : 64 ^ 10 = 1152921504606846976 := by decide
    omega
  · simp [pks, hj]
theorem shl_in (y m : Nat) (hy : y < 64) (hm : m < 10) : IntKind.u64.wrap ((y : Int) * 2 ^ (6 * m)) = ((y * 64 ^ m : Nat) : Int) := by
  have e : (2 : Int) ^ (6 * m) = ((64 ^ m : Nat) : Int) := by
    rw [Int.pow_mul]; norm_cast
  rw [e]
  have h2 : 64 ^ m ≤ 64 ^ 9 := Nat.pow_le_pow_right (by omega) (by omega)
  have h3 : 64 ^ 9 = 18014398509481984 := by decide
  have h4 : y * 64 ^ m ≤ 63 * 18014398509481984 := Nat.mul_le_mul (by omega) (by omega)
  have h5 : (y : Int) * ((64 ^ m : Nat) : Int) = ((y * 64 ^ m : Nat) : Int) := by push_cast; rfl
  rw [h5]
  exact IntWalk.u64_in _ ⟨by omega, by omega⟩
/-- The walk's step: a digit is laid over what is below it. -/
theorem or_in (x y m : Nat) (hx : x < 64 ^ m) (hy : y < 64) (hm : m < 10) :
    bits .or .u64 (x : Int) (IntKind.u64.wrap ((y : Int) * 2 ^ (6 * m))) = ((x + y * 64 ^ m : Nat) : Int) := by
  rw [shl_in y m hy hm]
  have h2 : 64 ^ m ≤ 64 ^ 9 := Nat.pow_le_pow_right (by omega) (by omega)
  have h3 : 64 ^ 9 = 18014398509481984 := by decide
  have h4 : y * 64 ^ m ≤ 63 * 18014398509481984 := Nat.mul_le_mul (by omega) (by omega)
  rw [bits_or_u64_nat _ _ (by omega) (by omega)]
  congr 1
  rw [show (64 : Nat) ^ m = 2 ^ (6 * m) by rw [Nat.pow_mul]] at hx ⊢
  rw [Nat.or_comm, Nat.mul_comm y, ← Nat.two_pow_add_eq_or_of_lt hx, Nat.add_comm]

/-- Point i's image, as the words tell it. -/
def im (ws : List Nat) (i : Nat) : Nat := ws.getD (i / 10) 0 / 64 ^ (i % 10) % 64
theorem im_lt (ws : List Nat) (i : Nat) : im ws i < 64 := Nat.mod_lt _ (by omega)
/-- The first k images, the others 0. -/
def ims (k : Nat) (ws : List Nat) : List Nat := (List.range 64).map fun i => if i < k then im ws i else 0
theorem ims_len (k : Nat) (ws : List Nat) : (ims k ws).length = 64 := by simp [ims]
theorem ims_zero (ws : List Nat) : ims 0 ws = List.replicate 64 0 := by
  apply List.ext_getElem (by simp [ims])
  intro i h1 h2
  rw [List.getElem_replicate]
  simp [ims]
theorem ims_getD (k : Nat) (ws : List Nat) (i : Nat) : (ims k ws).getD i 0 = if i < k ∧ i < 64 then im ws i else 0 := by
  by_cases h : i < 64
  · simp [ims, h]
  · simp [ims, h]
theorem ims_lt (k : Nat) (ws : List Nat) (i : Nat) : (ims k ws).getD i 0 < 64 := by
  rw [ims_getD]; split
  · exact im_lt _ _
  · omega
theorem ims_set (k : Nat) (ws : List Nat) : (ims k ws).set k (im ws k) = ims (k + 1) ws := by
  apply List.ext_getElem (by simp [ims])
  intro i h1 h2
  simp only [ims, List.getElem_set, List.getElem_map, List.getElem_range]
  by_cases e : k = i
  · subst e; simp
  · rw [if_neg e]
    by_cases h : i < k
    · rw [if_pos h, if_pos (by omega)]
    · rw [if_neg h, if_neg (by omega)]
/-- Is it a transformation? -/
def goodT (n : Int) (ws : List Nat) : Bool := decide (1 ≤ n) && decide (n ≤ 64) && (List.range n.toNat).all (fun i => decide (im ws i < n.toNat)) && decide (pks (ims n.toNat ws) n.toNat = ws)
theorem shr_in (x m : Nat) (hx : x < 18446744073709551616) : bits .and .u64 ((x : Int) / 2 ^ (6 * m)) 63 = ((x / 64 ^ m % 64 : Nat) : Int) := by
  have e : (2 : Int) ^ (6 * m) = ((64 ^ m : Nat) : Int) := by
    rw [Int.pow_mul]; norm_cast
  rw [e, show (x : Int) / ((64 ^ m : Nat) : Int) = ((x / 64 ^ m : Nat) : Int) by norm_cast]
  have : x / 64 ^ m ≤ x := Nat.div_le_self _ _
  have h := bits_and_u64_nat (x / 64 ^ m) 63 (by omega) (by omega)
  rw [show ((63 : Nat) : Int) = 63 by rfl] at h
  rw [h]
  congr 1
  exact Nat.and_two_pow_sub_one_eq_mod _ 6
theorem goodT_spec {n : Int} {ws : List Nat} (h : goodT n ws = true) : 1 ≤ n ∧ n ≤ 64 ∧ (∀ i, i < n.toNat → im ws i < n.toNat) ∧ pks (ims n.toNat ws) n.toNat = ws := by
  unfold goodT at h
  simp only [Bool.and_eq_true, decide_eq_true_eq, List.all_eq_true, List.mem_range] at h
  exact ⟨h.1.1.1, h.1.1.2, h.1.2, h.2⟩
end Go.Proofs.Ytpebnldoimoahaa
