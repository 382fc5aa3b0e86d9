/- Images and kernels of good transformations, in plain Lean; the calls at good ones. -/
import Derived.Test.YtpebnldoimoahaaKer
import Derived.Test.YtpebnldoimoahaaGoodC
import Derived.Laws.BitsAllLaws
namespace Go.Proofs.Ytpebnldoimoahaa
open Go.RowKit Go.Proofs.YtpebnldoimoahaaW.PrintWords
theorem fold_bit (i : Nat) : ∀ (l : List Nat) (x : Nat), (l.foldl (fun x i => x ||| 2 ^ i) x).testBit i = (x.testBit i || decide (i ∈ l))
  | [], x => by simp
  | j :: l, x => by
    rw [List.foldl_cons, fold_bit i l]
    rw [Nat.testBit_or, Nat.testBit_two_pow, Bool.or_assoc]
    congr 1
    by_cases e : j = i
    · subst e; simp
    · simp [e, show ¬ i = j from fun h => e h.symm]
theorem bo_bit (l : List Nat) (i : Nat) : (bo l).testBit i = decide (i ∈ l) := by
  have := fold_bit i l 0
  simpa [bo] using this
theorem sub_bit {a b : Nat} (ha : a < 18446744073709551616) (hb : b < 18446744073709551616) (h : ∀ i, a.testBit i = true → b.testBit i = true) : bits .andNot .u64 (a : Int) (b : Int) = 0 := by
  rw [u64_andNot_nat a b ha hb]
  have e : a &&& (18446744073709551615 - b) = 0 := by
    apply Nat.eq_of_testBit_eq
    intro i
    rw [Nat.testBit_and, show 18446744073709551615 - b = 2 ^ 64 - (b + 1) by omega, Nat.testBit_two_pow_sub_succ (by omega), Nat.zero_testBit]
    by_cases hi : a.testBit i = true
    · rw [h i hi]; simp
    · simp at hi; rw [hi]; simp
  rw [e]; rfl
theorem mem_thn {n : Nat} {L M : List Nat} (h : Gd n L) (h' : Gd n M) {i : Nat} (hi : i ∈ thn L M) : i ∈ M := by
  obtain ⟨x, hx, rfl⟩ := List.mem_map.1 hi
  obtain ⟨j, hj, rfl⟩ := List.mem_iff_getElem.1 hx
  have h1 := h.lt j (by rw [← h.len]; exact hj)
  rw [List.getD_eq_getElem?_getD, List.getElem?_eq_getElem hj] at h1
  have h2 : L[j] < M.length := by rw [h'.len]; exact h1
  rw [List.getD_eq_getElem?_getD, List.getElem?_eq_getElem h2]
  exact List.getElem_mem _
theorem Gd.mem {n : Nat} {L : List Nat} (h : Gd n L) : ∀ i ∈ L, i < 64 := fun i hi => by
  obtain ⟨j, hj, rfl⟩ := List.mem_iff_getElem.1 hi
  have := h.lt64 j
  rwa [List.getD_eq_getElem?_getD, List.getElem?_eq_getElem hj] at this
theorem bo_thn {n : Nat} {L M : List Nat} (h : Gd n L) (h' : Gd n M) : bits .andNot .u64 ((bo (thn L M) : Nat) : Int) ((bo M : Nat) : Int) = 0 :=
  sub_bit (bo_lt _ (h.thn h').mem) (bo_lt _ h'.mem) fun i hi => by
    rw [bo_bit, decide_eq_true_iff] at hi ⊢
    exact mem_thn h h' hi
theorem kr_same {L : List Nat} {x y : Nat} (h : L.getD x 0 = L.getD y 0) : kr L x = kr L y := by
  obtain ⟨h1, h2, h3⟩ := kr_spec L y
  refine kr_eq ?_ (fun k hk => by rw [h]; exact h3 k hk) (by rw [h]; exact h2)
  apply Classical.byContradiction
  intro hlt
  exact h3 x (by omega) h
theorem krl_getD (l : List Nat) (i : Nat) (h : i < l.length) : (krl l).getD i 0 = kr l i := by simp [krl, List.getD_eq_getElem?_getD, h]
/-- What the first one joins stays joined. -/
theorem krl_thn {n : Nat} {L M : List Nat} (h : Gd n L) (_h' : Gd n M) {x y : Nat} (hx : x < n) (hy : y < n) (he : (krl L).getD x 0 = (krl L).getD y 0) : (krl (thn L M)).getD x 0 = (krl (thn L M)).getD y 0 := by
  rw [krl_getD _ _ (by rw [h.len]; exact hx), krl_getD _ _ (by rw [h.len]; exact hy)] at he
  rw [krl_getD _ _ (by rw [thn_len, h.len]; exact hx), krl_getD _ _ (by rw [thn_len, h.len]; exact hy)]
  apply kr_same
  rw [thn_getD _ _ _ (by rw [h.len]; exact hx), thn_getD _ _ _ (by rw [h.len]; exact hy), ← (kr_spec L x).2.1, he, (kr_spec L y).2.1]
theorem lsT_gd {n : Nat} {L : List Nat} (h : Gd n L) : lsT (goodT n (pks L n)) (n : Int).toNat (pks L n) = L := by
  rw [h.good, Int.toNat_natCast]; exact h.imk
theorem image_g {n : Nat} {L : List Nat} (h : Gd n L) (w : World) :
    Calls Try.prog 35 #[.agg (tvv n (pks L n))] w fun e w' => e = .returned (.tuple #[.agg (sv (bo L)), .int .i64 0]) ∧ Below w.heap.size w w' := by
  have hc := image_any n (pks L n) (pks_len _ _) (Lib.hid h.words) w
  rw [lsT_gd h, h.good] at hc
  exact hc
theorem kernel_g {n : Nat} {L : List Nat} (h : Gd n L) (w : World) :
    Calls Try.prog 36 #[.agg (tvv n (pks L n))] w (RlR (krl L) 0 w) := by
  have hc := kernel_any n (pks L n) (pks_len _ _) (Lib.hid h.words) w
  rw [lsT_gd h, h.good] at hc
  exact hc
end Go.Proofs.Ytpebnldoimoahaa
