/- Plain: the automaton of one word. -/
import Derived.Test.YtjckidjljkjhfaaC4
namespace Go.Proofs.Ytjckidjljkjhfaa
open Go.Proofs.YtjckidjljkjhfaaW.PrintWords
/-- A word's letter. -/
def wlt (v : ByteArray) (s : Nat) : Nat := (bt v (s : Int)).toNat - 97
/-- Where a letter leads: along the word, or to the lost state. -/
def wst (v : ByteArray) (s l : Nat) : Nat := if s < v.size ∧ wlt v s = l then s + 1 else v.size + 1
theorem wst_le (v : ByteArray) (s l : Nat) : wst v s l ≤ v.size + 1 := by
  unfold wst; split <;> omega
def wgd (v : ByteArray) (s : Nat) : Bool := decide (s = v.size)
def wrE (k : Int) (v : ByteArray) : Int := if wrdE k v = 0 then (if 4094 < v.size then 6 else 0) else wrdE k v
noncomputable def wrV (k : Int) (v : ByteArray) : AutV := if wrE k v = 0 then srV k.toNat (wst v) 0 (wgd v) else noV
theorem wrd_cases (k : Int) (v : ByteArray) : wrdE k v = 0 ∧ 1 ≤ k ∧ k ≤ 8 ∧ letB k v = true ∨ wrdE k v ≠ 0 := by
  unfold wrdE
  by_cases h : k < 1 ∨ 8 < k
  · rw [if_pos h]; exact .inr (by decide)
  · rw [if_neg h]
    cases hb : letB k v
    · exact .inr (by decide)
    · exact .inl ⟨rfl, by omega, by omega, rfl⟩
theorem w_all {v : ByteArray} {k : Nat} (hk : 0 < k) (m : Nat) : ∀ s ∈ bs k (wst v) 0 m, s ≤ v.size + 1 := bs_all hk (fun s => s ≤ v.size + 1) (Nat.zero_le _) (fun s c _ _ => wst_le v s c) m
theorem w_small {v : ByteArray} {k : Nat} (hk : 0 < k) (hv : v.size ≤ 4094) : srE k (wst v) 0 = 0 := by
  unfold srE
  rw [if_pos]
  have := nodup_le (n := v.size + 2) (bs_nodup (k := k) (step := wst v) (first := 0) (4096 * k)) (fun s hs => by have := w_all (v := v) hk _ s hs; omega)
  unfold srL
  omega
/-- The reference's automaton, the first m places of the letters' list. -/
def wnl (v : ByteArray) (k m : Nat) : List Nat := (List.range m).map fun j => wst v (j / k) (j % k)
def wal (v : ByteArray) (m : Nat) : List Bool := (List.range m).map (wgd v)
theorem wnl_len (v : ByteArray) (k m : Nat) : (wnl v k m).length = m := by simp [wnl]
theorem wal_len (v : ByteArray) (m : Nat) : (wal v m).length = m := by simp [wal]
theorem wnl_next {v : ByteArray} {k s c : Nat} (hc : c < k) : wnl v k (s * k + (c + 1)) = wnl v k (s * k + c) ++ [wst v s c] := by
  have e1 : (s * k + c) / k = s := by rw [Nat.add_comm, Nat.add_mul_div_right _ _ (by omega), Nat.div_eq_of_lt hc, Nat.zero_add]
  have e2 : (s * k + c) % k = c := by rw [Nat.add_comm, Nat.add_mul_mod_self_right, Nat.mod_eq_of_lt hc]
  unfold wnl
  rw [← Nat.add_assoc, List.range_succ, List.map_append, List.map_cons, List.map_nil, e1, e2]
theorem wal_next (v : ByteArray) (m : Nat) : wal v (m + 1) = wal v m ++ [wgd v m] := by
  unfold wal
  rw [List.range_succ, List.map_append]; rfl
/-- The whole of it. -/
def wAut (k : Nat) (v : ByteArray) : AutV := ⟨(k : Int), zl (wnl v k ((v.size + 2) * k)), wal v (v.size + 2)⟩
theorem wAut_get {k : Nat} {v : ByteArray} {j : Nat} (h : j < (v.size + 2) * k) : rd (wAut k v).next (j : Int) = ((wst v (j / k) (j % k) : Nat) : Int) := by
  show rd (zl (wnl v k ((v.size + 2) * k))) (j : Int) = _
  rw [zl_rd]
  congr 1
  unfold wnl
  rw [List.getD_eq_getElem?_getD, List.getElem?_map, List.getElem?_range h]
  rfl
theorem wAut_ok {k : Nat} {v : ByteArray} (hk : 0 < k) (hk8 : k ≤ 8) (hv : v.size ≤ 4094) : AutOk (wAut k v) := by
  have hl : (wAut k v).next.length = (v.size + 2) * k := by
    show (zl (wnl v k ((v.size + 2) * k))).length = _
    rw [zl_len, wnl_len]
  have ha : (wAut k v).acc.length = v.size + 2 := wal_len _ _
  refine ⟨by show (1 : Int) ≤ (k : Int); omega, by show (k : Int) ≤ 8; omega, by rw [ha]; omega, by rw [ha]; omega, by rw [hl, ha]; push_cast; rfl, fun i hi => ?_⟩
  rw [hl] at hi
  rw [wAut_get hi, ha]
  have := wst_le v (i / k) (i % k)
  omega
theorem wAut_stp {k : Nat} {v : ByteArray} {s c : Nat} (hs : s < v.size + 2) (hc : c < k) : stp (wAut k v) s c = wst v s c := by
  have e1 : (s * k + c) / k = s := by rw [Nat.add_comm, Nat.add_mul_div_right _ _ (by omega), Nat.div_eq_of_lt hc, Nat.zero_add]
  have e2 : (s * k + c) % k = c := by rw [Nat.add_comm, Nat.add_mul_mod_self_right, Nat.mod_eq_of_lt hc]
  have hlt : s * k + c < (v.size + 2) * k := by
    have : (s + 1) * k ≤ (v.size + 2) * k := Nat.mul_le_mul_right k hs
    rw [Nat.succ_mul] at this; omega
  unfold stp
  rw [show (wAut k v).k.toNat = k from Int.toNat_natCast k, wAut_get hlt, e1, e2, Int.toNat_natCast]
theorem wAut_acc {k : Nat} {v : ByteArray} {s : Nat} (hs : s < v.size + 2) : rdOf false (wAut k v).acc (s : Int) = wgd v s := by
  show rdOf false (wal v (v.size + 2)) (s : Int) = _
  unfold rdOf wal
  rw [Int.toNat_natCast, List.getD_eq_getElem?_getD, List.getElem?_map, List.getElem?_range hs]
  rfl
theorem wAut_run {k : Nat} {v : ByteArray} : ∀ (u : List Nat) (s : Nat), s < v.size + 2 → (∀ c ∈ u, c < k) → rn (stp (wAut k v)) s u = rn (wst v) s u ∧ rn (wst v) s u < v.size + 2
  | [], s, hs, _ => ⟨rfl, hs⟩
  | c :: r, s, hs, hu => by
    have h1 := wAut_stp (v := v) hs (hu c List.mem_cons_self)
    have h2 := wst_le v s c
    have ih := wAut_run (k := k) (v := v) r (wst v s c) (by omega) (fun d hd => hu d (List.mem_cons_of_mem _ hd))
    show rn (stp (wAut k v)) (stp (wAut k v) s c) r = _ ∧ _
    rw [h1]
    exact ih
theorem from_word {k : Nat} {v : ByteArray} (hk : 0 < k) (hk8 : k ≤ 8) (hv : v.size ≤ 4094) : fromV (wAut k v) 0 (fun s => rdOf false (wAut k v).acc (s : Int)) = srV k (wst v) 0 (wgd v) := by
  unfold fromV
  rw [if_pos (autE_ok (wAut_ok hk hk8 hv)), show (wAut k v).k.toNat = k from Int.toNat_natCast k]
  refine (sr_same (good' := wgd v) hk (fun u u' hu hu' => ?_) (fun u hu => ?_)).2
  · rw [(wAut_run u 0 (by omega) hu).1, (wAut_run u' 0 (by omega) hu').1]
  · rw [(wAut_run u 0 (by omega) hu).1]
    exact wAut_acc (wAut_run u 0 (by omega) hu).2
end Go.Proofs.Ytjckidjljkjhfaa
