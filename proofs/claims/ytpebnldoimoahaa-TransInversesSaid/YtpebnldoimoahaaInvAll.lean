/- Permutations as lists, in plain Lean: their set of images, their inverses. -/
import Derived.Test.YtpebnldoimoahaaGoodE
import Derived.Test.YtpebnldoimoahaaSet
import Derived.Test.YtpebnldoimoahaaGoodD
namespace Go.Proofs.Ytpebnldoimoahaa
open Go.RowKit
structure Prm (n : Nat) (L : List Nat) : Prop extends Gd n L where
  inj : ∀ i j, i < n → j < n → L.getD i 0 = L.getD j 0 → i = j
theorem Prm.nodup {n : Nat} {L : List Nat} (h : Prm n L) : L.Nodup := by
  rw [List.nodup_iff_pairwise_ne, List.pairwise_iff_getElem]
  intro i j hi hj hij e
  have h1 : i < n := by rw [← h.len]; exact hi
  have h2 : j < n := by rw [← h.len]; exact hj
  have := h.inj i j h1 h2 (by simpa [List.getD_eq_getElem?_getD, List.getElem?_eq_getElem hi, List.getElem?_eq_getElem hj] using e)
  omega
theorem Prm.all {n : Nat} {L : List Nat} (h : Prm n L) {j : Nat} (hj : j < n) : ∃ i, i < n ∧ L.getD i 0 = j := by
  apply Classical.byContradiction
  intro hno
  have hnot : j ∉ L := fun hm => by
    obtain ⟨i, hi, e⟩ := List.mem_iff_getElem.1 hm
    exact hno ⟨i, by rw [← h.len]; exact hi, by simp [List.getD_eq_getElem?_getD, List.getElem?_eq_getElem hi, e]⟩
  have := nodup_le n (j :: L) (List.nodup_cons.2 ⟨hnot, h.nodup⟩) (fun x hx => by
    rcases List.mem_cons.1 hx with rfl | hx
    · exact hj
    · obtain ⟨i, hi, rfl⟩ := List.mem_iff_getElem.1 hx
      have := h.lt i (by rw [← h.len]; exact hi)
      simpa [List.getD_eq_getElem?_getD, List.getElem?_eq_getElem hi] using this)
  rw [List.length_cons, h.len] at this
  omega
theorem Prm.bo {n : Nat} {L : List Nat} (h : Prm n L) : bo L = 2 ^ n - 1 := by
  apply Nat.eq_of_testBit_eq
  intro i
  rw [bo_bit, Nat.testBit_two_pow_sub_one]
  congr 1
  apply propext
  constructor
  · intro hm
    obtain ⟨k, hk, rfl⟩ := List.mem_iff_getElem.1 hm
    have := h.lt k (by rw [← h.len]; exact hk)
    simpa [List.getD_eq_getElem?_getD, List.getElem?_eq_getElem hk] using this
  · intro hi
    obtain ⟨k, hk, e⟩ := h.all hi
    have hk' : k < L.length := by rw [h.len]; exact hk
    rw [← e, List.getD_eq_getElem?_getD, List.getElem?_eq_getElem hk']
    exact List.getElem_mem _
/-- The point that goes to j. -/
def src (L : List Nat) (n j : Nat) : Nat := ((List.range n).find? fun i => L.getD i 0 == j).getD 0
def inv (n : Nat) (L : List Nat) : List Nat := (List.range n).map (src L n)
theorem Prm.src {n : Nat} {L : List Nat} (h : Prm n L) {i : Nat} (hi : i < n) : src L n (L.getD i 0) = i := by
  have : (List.range n).find? (fun k => L.getD k 0 == L.getD i 0) = some i := by
    rw [List.find?_range_eq_some]
    refine ⟨by simp, by simpa using hi, fun k hk => ?_⟩
    have : L.getD k 0 ≠ L.getD i 0 := fun e => by have := h.inj k i (by omega) hi e; omega
    simpa using this
  unfold Ytpebnldoimoahaa.src
  rw [this]; rfl
theorem inv_getD (n : Nat) (L : List Nat) (j : Nat) (hj : j < n) : (inv n L).getD j 0 = src L n j := by simp [inv, List.getD_eq_getElem?_getD, hj]
theorem Prm.left {n : Nat} {L : List Nat} (h : Prm n L) {i : Nat} (hi : i < n) : (inv n L).getD (L.getD i 0) 0 = i := by rw [inv_getD _ _ _ (h.lt i hi), h.src hi]
theorem Prm.right {n : Nat} {L : List Nat} (h : Prm n L) {j : Nat} (hj : j < n) : L.getD ((inv n L).getD j 0) 0 = j ∧ (inv n L).getD j 0 < n := by
  obtain ⟨i, hi, rfl⟩ := h.all hj
  rw [h.left hi]; exact ⟨rfl, hi⟩
theorem Prm.inv {n : Nat} {L : List Nat} (h : Prm n L) : Prm n (inv n L) :=
  ⟨⟨h.one, h.max, by simp [Ytpebnldoimoahaa.inv], fun j hj => (h.right hj).2⟩, fun i j hi hj e => by rw [← (h.right hi).1, e, (h.right hj).1]⟩
theorem Prm.thn {n : Nat} {L M : List Nat} (h : Prm n L) (h' : Prm n M) : Prm n (thn L M) :=
  ⟨h.toGd.thn h'.toGd, fun i j hi hj e => by
    rw [thn_getD _ _ _ (by rw [h.len]; exact hi), thn_getD _ _ _ (by rw [h.len]; exact hj)] at e
    exact h.inj i j hi hj (h'.inj _ _ (h.lt i hi) (h.lt j hj) e)⟩
theorem Prm.uniq {n : Nat} {L N : List Nat} (h : Prm n L) (hN : Gd n N) (he : ∀ i, i < n → N.getD (L.getD i 0) 0 = i) : N = Ytpebnldoimoahaa.inv n L :=
  hN.ext h.inv.toGd fun j hj => by
    obtain ⟨i, hi, rfl⟩ := h.all hj
    rw [he i hi, h.left hi]
theorem Prm.twice {n : Nat} {L : List Nat} (h : Prm n L) : Ytpebnldoimoahaa.inv n (Ytpebnldoimoahaa.inv n L) = L :=
  (h.inv.uniq h.toGd fun _ hj => (h.right hj).1).symm
theorem Prm.both {n : Nat} {L M : List Nat} (h : Prm n L) (h' : Prm n M) : Ytpebnldoimoahaa.inv n (Ytpebnldoimoahaa.thn L M) = Ytpebnldoimoahaa.thn (Ytpebnldoimoahaa.inv n M) (Ytpebnldoimoahaa.inv n L) :=
  ((h.thn h').uniq (h'.inv.toGd.thn h.inv.toGd) fun i hi => by
    rw [thn_getD _ _ _ (by rw [h'.inv.len]; exact (h.thn h').lt i hi), thn_getD _ _ _ (by rw [h.len]; exact hi), h'.left (h.lt i hi), h.left hi]).symm
theorem Prm.unit {n : Nat} {L : List Nat} (h : Prm n L) : Ytpebnldoimoahaa.thn L (Ytpebnldoimoahaa.inv n L) = List.range n :=
  (h.toGd.thn h.inv.toGd).ext (Gd.range h.one h.max) fun i hi => by
    rw [thn_getD _ _ _ (by rw [h.len]; exact hi), h.left hi]; simp [hi]
theorem Prm.range {n : Nat} (h1 : 1 ≤ n) (h : n ≤ 64) : Prm n (List.range n) := ⟨Gd.range h1 h, fun i j hi hj e => by simpa [hi, hj] using e⟩
end Go.Proofs.Ytpebnldoimoahaa

namespace Go.Proofs.Ytpebnldoimoahaa
open Go.RowKit Go.Proofs.YtpebnldoimoahaaW.PrintWords
def ocF (x : Int) : Int := (bits .and .i64 (wrap64 (IntKind.u64.wrap ((IntKind.u64.wrap ((IntKind.u64.wrap ((bits .and .u64 (IntKind.u64.wrap (((IntKind.u64.wrap ((bits .and .u64 ((IntKind.u64.wrap ((bits .and .u64 (x / 2) 6148914691236517205) + (bits .and .u64 x 6148914691236517205))) / 4) 3689348814741910323) + (bits .and .u64 (IntKind.u64.wrap ((bits .and .u64 (x / 2) 6148914691236517205) + (bits .and .u64 x 6148914691236517205))) 3689348814741910323))) / 16) + (IntKind.u64.wrap ((bits .and .u64 ((IntKind.u64.wrap ((bits .and .u64 (x / 2) 6148914691236517205) + (bits .and .u64 x 6148914691236517205))) / 4) 3689348814741910323) + (bits .and .u64 (IntKind.u64.wrap ((bits .and .u64 (x / 2) 6148914691236517205) + (bits .and .u64 x 6148914691236517205))) 3689348814741910323))))) 1085102592571150095) + ((bits .and .u64 (IntKind.u64.wrap (((IntKind.u64.wrap ((bits .and .u64 ((IntKind.u64.wrap ((bits .and .u64 (x / 2) 6148914691236517205) + (bits .and .u64 x 6148914691236517205))) / 4) 3689348814741910323) + (bits .and .u64 (IntKind.u64.wrap ((bits .and .u64 (x / 2) 6148914691236517205) + (bits .and .u64 x 6148914691236517205))) 3689348814741910323))) / 16) + (IntKind.u64.wrap ((bits .and .u64 ((IntKind.u64.wrap ((bits .and .u64 (x / 2) 6148914691236517205) + (bits .and .u64 x 6148914691236517205))) / 4) 3689348814741910323) + (bits .and .u64 (IntKind.u64.wrap ((bits .and .u64 (x / 2) 6148914691236517205) + (bits .and .u64 x 6148914691236517205))) 3689348814741910323))))) 1085102592571150095) / 256))) + ((IntKind.u64.wrap ((bits .and .u64 (IntKind.u64.wrap (((IntKind.u64.wrap ((bits .and .u64 ((IntKind.u64.wrap ((bits .and .u64 (x / 2) 6148914691236517205) + (bits .and .u64 x 6148914691236517205))) / 4) 3689348814741910323) + (bits .and .u64 (IntKind.u64.wrap ((bits .and .u64 (x / 2) 6148914691236517205) + (bits .and .u64 x 6148914691236517205))) 3689348814741910323))) / 16) + (IntKind.u64.wrap ((bits .and .u64 ((IntKind.u64.wrap ((bits .and .u64 (x / 2) 6148914691236517205) + (bits .and .u64 x 6148914691236517205))) / 4) 3689348814741910323) + (bits .and .u64 (IntKind.u64.wrap ((bits .and .u64 (x / 2) 6148914691236517205) + (bits .and .u64 x 6148914691236517205))) 3689348814741910323))))) 1085102592571150095) + ((bits .and .u64 (IntKind.u64.wrap (((IntKind.u64.wrap ((bits .and .u64 ((IntKind.u64.wrap ((bits .and .u64 (x / 2) 6148914691236517205) + (bits .and .u64 x 6148914691236517205))) / 4) 3689348814741910323) + (bits .and .u64 (IntKind.u64.wrap ((bits .and .u64 (x / 2) 6148914691236517205) + (bits .and .u64 x 6148914691236517205))) 3689348814741910323))) / 16) + (IntKind.u64.wrap ((bits .and .u64 ((IntKind.u64.wrap ((bits .and .u64 (x / 2) 6148914691236517205) + (bits .and .u64 x 6148914691236517205))) / 4) 3689348814741910323) + (bits .and .u64 (IntKind.u64.wrap ((bits .and .u64 (x / 2) 6148914691236517205) + (bits .and .u64 x 6148914691236517205))) 3689348814741910323))))) 1085102592571150095) / 256))) / 65536))) + ((IntKind.u64.wrap ((IntKind.u64.wrap ((bits .and .u64 (IntKind.u64.wrap (((IntKind.u64.wrap ((bits .and .u64 ((IntKind.u64.wrap ((bits .and .u64 (x / 2) 6148914691236517205) + (bits .and .u64 x 6148914691236517205))) / 4) 3689348814741910323) + (bits .and .u64 (IntKind.u64.wrap ((bits .and .u64 (x / 2) 6148914691236517205) + (bits .and .u64 x 6148914691236517205))) 3689348814741910323))) / 16) + (IntKind.u64.wrap ((bits .and .u64 ((IntKind.u64.wrap ((bits .and .u64 (x / 2) 6148914691236517205) + (bits .and .u64 x 6148914691236517205))) / 4) 3689348814741910323) + (bits .and .u64 (IntKind.u64.wrap ((bits .and .u64 (x / 2) 6148914691236517205) + (bits .and .u64 x 6148914691236517205))) 3689348814741910323))))) 1085102592571150095) + ((bits .and .u64 (IntKind.u64.wrap (((IntKind.u64.wrap ((bits .and .u64 ((IntKind.u64.wrap ((bits .and .u64 (x / 2) 6148914691236517205) + (bits .and .u64 x 6148914691236517205))) / 4) 3689348814741910323) + (bits .and .u64 (IntKind.u64.wrap ((bits .and .u64 (x / 2) 6148914691236517205) + (bits .and .u64 x 6148914691236517205))) 3689348814741910323))) / 16) + (IntKind.u64.wrap ((bits .and .u64 ((IntKind.u64.wrap ((bits .and .u64 (x / 2) 6148914691236517205) + (bits .and .u64 x 6148914691236517205))) / 4) 3689348814741910323) + (bits .and .u64 (IntKind.u64.wrap ((bits .and .u64 (x / 2) 6148914691236517205) + (bits .and .u64 x 6148914691236517205))) 3689348814741910323))))) 1085102592571150095) / 256))) + ((IntKind.u64.wrap ((bits .and .u64 (IntKind.u64.wrap (((IntKind.u64.wrap ((bits .and .u64 ((IntKind.u64.wrap ((bits .and .u64 (x / 2) 6148914691236517205) + (bits .and .u64 x 6148914691236517205))) / 4) 3689348814741910323) + (bits .and .u64 (IntKind.u64.wrap ((bits .and .u64 (x / 2) 6148914691236517205) + (bits .and .u64 x 6148914691236517205))) 3689348814741910323))) / 16) + (IntKind.u64.wrap ((bits .and .u64 ((IntKind.u64.wrap ((bits .and .u64 (x / 2) 6148914691236517205) + (bits .and .u64 x 6148914691236517205))) / 4) 3689348814741910323) + (bits .and .u64 (IntKind.u64.wrap ((bits .and .u64 (x / 2) 6148914691236517205) + (bits .and .u64 x 6148914691236517205))) 3689348814741910323))))) 1085102592571150095) + ((bits .and .u64 (IntKind.u64.wrap (((IntKind.u64.wrap ((bits .and .u64 ((IntKind.u64.wrap ((bits .and .u64 (x / 2) 6148914691236517205) + (bits .and .u64 x 6148914691236517205))) / 4) 3689348814741910323) + (bits .and .u64 (IntKind.u64.wrap ((bits .and .u64 (x / 2) 6148914691236517205) + (bits .and .u64 x 6148914691236517205))) 3689348814741910323))) / 16) + (IntKind.u64.wrap ((bits .and .u64 ((IntKind.u64.wrap ((bits .and .u64 (x / 2) 6148914691236517205) + (bits .and .u64 x 6148914691236517205))) / 4) 3689348814741910323) + (bits .and .u64 (IntKind.u64.wrap ((bits .and .u64 (x / 2) 6148914691236517205) + (bits .and .u64 x 6148914691236517205))) 3689348814741910323))))) 1085102592571150095) / 256))) / 65536))) / 4294967296)))) 127)
theorem oc_all : ∀ n : Fin 65, ocF (((2 ^ n.val - 1 : Nat) : Int)) = (n.val : Int) := by decide +kernel
set_option maxRecDepth 100000 in
set_option maxHeartbeats 4000000 in
theorem ones_any (x : Int) (w : World) : Calls Try.prog 81 #[.int .u64 x] w fun e w' => e = .returned (.int .i64 (ocF x)) ∧ w = w' := by
  go_enter Try.func81, Try.ntmps81
  go_wp2
  go_ret
  exact ⟨rfl, rfl⟩
theorem oc_zero : ocF 0 = 0 := by decide +kernel
theorem sv_at2 (x j : Nat) (h : j < 8) : (sv x)[j]? = some (.int .u64 ((if j = 0 then x else 0 : Nat) : Int)) := by
  match j, h with
  | 0, _ => simp [sv]
  | 1, _ => simp [sv]
  | 2, _ => simp [sv]
  | 3, _ => simp [sv]
  | 4, _ => simp [sv]
  | 5, _ => simp [sv]
  | 6, _ => simp [sv]
  | 7, _ => simp [sv]
theorem idx_sv (x j : Nat) (h : j < 8) (W : World) : (Instr.index 69 (.agg (sv x)) (.int .i64 (j : Int))).run Try.prog W = .ok (.int .u64 ((if j = 0 then x else 0 : Nat) : Int)) W := by
  have hu := Try.underlying69
  have hv := Try.underlying23
  have hc : Try.prog.cellsOf 23 = 1 := by kernel_rfl
  match j, h with
  | 0, _ => simp [Instr.index, run_underlying hu, asIntOf, go_sem, part, sv]
  | 1, _ => simp [Instr.index, run_underlying hu, asIntOf, go_sem, part, sv]
  | 2, _ => simp [Instr.index, run_underlying hu, asIntOf, go_sem, part, sv]
  | 3, _ => simp [Instr.index, run_underlying hu, asIntOf, go_sem, part, sv]
  | 4, _ => simp [Instr.index, run_underlying hu, asIntOf, go_sem, part, sv]
  | 5, _ => simp [Instr.index, run_underlying hu, asIntOf, go_sem, part, sv]
  | 6, _ => simp [Instr.index, run_underlying hu, asIntOf, go_sem, part, sv]
  | 7, _ => simp [Instr.index, run_underlying hu, asIntOf, go_sem, part, sv]
set_option maxRecDepth 100000 in
set_option maxHeartbeats 800000 in
theorem size_any (x m : Nat) (hm : m ≤ 64) (ho : ocF x = m) (w : World) : Calls Try.prog 72 #[.agg (sv x)] w fun e w' => e = .returned (.int .i64 m) ∧ Below w.heap.size w w' := by
  have HO := Lib.hid ho; clear ho
  go_enter Try.func72, Try.ntmps72
  go_wp2_with (refine ld_sv _ rfl w.heap.size rfl (hp_new rfl) rfl ?_)
  go_loopw [3, 7] (fun s i wr => ∃ j : Nat, j ≤ 8 ∧ i = .int .i64 j ∧ s = .int .i64 ((if j = 0 then 0 else m : Nat) : Int) ∧ Hid (Below w.heap.size w wr)) (fun _ i _ => 8 - (intOf i).toNat)
  case atStart => exact ⟨0, by omega, rfl, rfl, Lib.hid (bl_alloc (Below.refl _ _) _)⟩
  case round =>
    obtain ⟨j, hj, rfl, rfl, H⟩ := hrel
    by_cases hj8 : j < 8
    · have hv := idx_sv x j hj8
      have HN : Hid (((if j = 0 then 0 else m : Nat) : Int) + ocF ((if j = 0 then x else 0 : Nat) : Int) = (m : Int)) := Lib.hid (by
        by_cases e : j = 0
        · subst e; simp [HO.out]
        · rw [if_neg e, if_neg e]; have := oc_zero; simp only [Int.natCast_zero]; rw [this]; omega)
      have HM : Hid ((if j = 0 then 0 else m : Nat) ≤ 64) := Lib.hid (by split <;> omega)
      generalize (if j = 0 then 0 else m : Nat) = s at *
      generalize (if j = 0 then x else 0 : Nat) = y at *
      go_wp2_with fail
      refine (ones_any _ _).mono ?_
      rintro e w' ⟨rfl, rfl⟩
      have hsum : wrap64 ((s : Int) + ocF y) = m := by rw [HN.out]; exact IntWalk.wrap64_in _ ⟨by omega, by omega⟩
      go_wp2
      go_roundw
      case rel => exact ⟨j + 1, by omega, by go_num, by rw [if_neg (by omega), hsum], H⟩
      case measure => simp [intOf]; omega
    · have e8 : j = 8 := by omega
      subst e8
      go_wp2
      go_ret
      exact ⟨rfl, H.out⟩
end Go.Proofs.Ytpebnldoimoahaa

namespace Go.Proofs.Ytpebnldoimoahaa
open Go.RowKit Go.Proofs.YtpebnldoimoahaaW.PrintWords
set_option linter.unusedSimpArgs false
/-- The images so far: point i at place L i, i below k. -/
def bk (L : List Nat) (n k : Nat) : List Nat := (List.range 64).map fun j => if j < n ∧ src L n j < k then src L n j else 0
theorem bk_len (L : List Nat) (n k : Nat) : (bk L n k).length = 64 := by simp [bk]
theorem bk_zero (L : List Nat) (n : Nat) : bk L n 0 = List.replicate 64 0 := by
  apply List.ext_getElem (by simp [bk])
  intro i h1 h2
  rw [List.getElem_replicate]
  simp [bk]
theorem bk_set {n : Nat} {L : List Nat} (h : Prm n L) {k : Nat} (hk : k < n) : (bk L n k).set (L.getD k 0) k = bk L n (k + 1) := by
  apply List.ext_getElem (by simp [bk])
  intro j h1 h2
  have hj : j < 64 := by simp [bk] at h2; exact h2
  simp only [bk, List.getElem_set, List.getElem_map, List.getElem_range]
  by_cases e : L.getD k 0 = j
  · subst e
    rw [if_pos rfl, h.src hk, if_pos ⟨h.lt k hk, by omega⟩]
  · rw [if_neg e]
    by_cases hjn : j < n
    · obtain ⟨i, hi, rfl⟩ := h.all hjn
      rw [h.src hi]
      have hik : i ≠ k := fun e' => e (by rw [e'])
      by_cases hlt : i < k
      · rw [if_pos ⟨hjn, hlt⟩, if_pos ⟨hjn, by omega⟩]
      · rw [if_neg (by omega), if_neg (by omega)]
    · rw [if_neg (by omega), if_neg (by omega)]
theorem bk_end {n : Nat} {L : List Nat} (h : Prm n L) : pks (bk L n n) n = pks (inv n L) n := pks_ext _ _ _ fun j hj => by
  have h64 : j < 64 := by have := h.max; omega
  have h2 := (h.right hj).2
  rw [inv_getD _ _ _ hj] at h2 ⊢
  simp [bk, List.getD_eq_getElem?_getD, h64, hj, h2]
theorem bk_lt {n : Nat} {L : List Nat} (h : n ≤ 64) (k : Nat) (hk : k ≤ n) (i : Nat) : (bk L n k).getD i 0 < 64 := by
  by_cases hi : i < 64
  · simp only [bk, List.getD_eq_getElem?_getD, List.getElem?_map, List.getElem?_range hi, Option.map_some, Option.getD_some]
    split <;> omega
  · rw [List.getD_eq_getElem?_getD, List.getElem?_eq_none (by rw [bk_len]; omega)]; decide
set_option maxRecDepth 100000 in
set_option maxHeartbeats 2000000 in
theorem inverse_g {n : Nat} {L : List Nat} (h : Prm n L) (w : World) :
    Calls Try.prog 43 #[.agg (tvv n (pks L n))] w fun e w' => e = .returned (.tuple #[.agg (tvv n (pks (inv n L) n)), .int .i64 0]) ∧ Below w.heap.size w w' := by
  have HL := Lib.hid (pks_len L n)
  have HZ := Lib.hid (tvv_zero n (pks L n))
  have HW := Lib.hid h.words
  have HG := Lib.hid h.good
  have HE := Lib.hid h.ims
  have HBO := Lib.hid h.bo
  have HP := Lib.hid h
  have HEND := Lib.hid (bk_end h)
  have hn1 := h.one; have hn := h.max
  clear h
  generalize pks L n = ws at *
  go_enter Try.func43, Try.ntmps43
  go_wp2_with (refine ld_tr w.heap.size HL.out (hp_old (hp_new rfl)) rfl _ rfl rfl ?_)
  refine (open_any n ws HL.out HW _).mono ?_
  rintro e w1 ⟨l, hl, rfl, hi, hb⟩
  obtain rfl : l = padk n L := by rw [hi HG.out, Int.toNat_natCast, HE.out]
  rw [HG.out]
  have HLL := Lib.hid hl
  have A1 := Lib.hid (hp_below' hb (hp_old (hp_new (w := w) (o := .cells (tvv n ws) 26) rfl)))
  have A2 := Lib.hid (hp_below' hb (hp_new (w := w.alloc (.cells (tvv n ws) 26)) rfl))
  have HB := Lib.hid (bl_then (bl_alloc (bl_alloc (Below.refl _ w) _) _) hb)
  rw [World.size_alloc] at A2
  clear hi hl hb
  generalize hLL : padk n L = LL at *
  have HPL := Lib.hid hLL; clear hLL
  go_wp2_with (refine st_im_new HLL.out rfl rfl _ _ rfl rfl rfl ?_)
  refine wp_region_held_drew (S := fun w' => (w'.heap[w.heap.size]? = some (.cells (tvv n ws) 26 (0, 0)) ∧ w'.heap[w1.heap.size]? = some (.cells (img LL) 98 (0, 0)) ∧ (∃ c, w'.heap[w.heap.size + 1]? = some (.cells c 26 (0, 0)) ∧ c.size = 8) ∧ Below w.heap.size w w')) (by kernel_rfl) ⟨hp_old A1.out, hp_new rfl, ⟨_, hp_old A2.out, rfl⟩, (bl_alloc HB.out _).drew⟩ (fun hS => ?_)
  have keep : ∀ {u v : World}, Below u.heap.size u v → (u.heap[w.heap.size]? = some (.cells (tvv n ws) 26 (0, 0)) ∧ u.heap[w1.heap.size]? = some (.cells (img LL) 98 (0, 0)) ∧ (∃ c, u.heap[w.heap.size + 1]? = some (.cells c 26 (0, 0)) ∧ c.size = 8) ∧ Below w.heap.size w u) → (v.heap[w.heap.size]? = some (.cells (tvv n ws) 26 (0, 0)) ∧ v.heap[w1.heap.size]? = some (.cells (img LL) 98 (0, 0)) ∧ (∃ c, v.heap[w.heap.size + 1]? = some (.cells c 26 (0, 0)) ∧ c.size = 8) ∧ Below w.heap.size w v) :=
    fun hb ⟨h1, h2, ⟨c, h3, h3'⟩, h4⟩ => ⟨hp_below' hb h1, hp_below' hb h2, ⟨c, hp_below' hb h3, h3'⟩, bl_then h4 hb⟩
  have hcut := cut_img w1.heap.size n hn
  refine any_take (i := 0) (v := ?v2) rfl (by kernel_rfl) (by kernel_rfl) (by kernel_rfl) (fun _ _ _ h => h) hS (.inl ⟨by rfl, ?y2⟩) ?_
  case y2 => (intro w' h'; go_simp; with_reducible rfl)
  (try simp only [Act.put, List.setIfInBounds_toArray, List.set_cons_zero, List.set_cons_succ])
  refine any_take (i := 1) (v := ?v3) rfl (by kernel_rfl) (by kernel_rfl) (by kernel_rfl) (fun _ _ _ h => h) hS (.inl ⟨by rfl, ?y3⟩) ?_
  case y3 => (intro w' h'; go_simp; with_reducible rfl)
  (try simp only [Act.put, List.setIfInBounds_toArray, List.set_cons_zero, List.set_cons_succ])
  refine any_take (i := 2) (v := ?v4) rfl (by kernel_rfl) (by kernel_rfl) (by kernel_rfl) (fun _ _ _ h => h) hS (.inl ⟨by rfl, ?y4⟩) ?_
  case y4 => (intro w' h'; go_simp; with_reducible rfl)
  (try simp only [Act.put, List.setIfInBounds_toArray, List.set_cons_zero, List.set_cons_succ])
  refine any_take (i := 3) (v := .pointer (some ⟨w.heap.size, 0, none⟩)) rfl (by kernel_rfl) (by kernel_rfl) (by kernel_rfl) (fun _ _ _ h => h) hS (yi_val (by rfl) (fun w' h' => ?y5)) ?_
  case y5 => first | rfl | (go_simp; done) | (go_simp; omega)
  (try simp only [Act.put, List.setIfInBounds_toArray, List.set_cons_zero, List.set_cons_succ])
  refine any_take (i := 4) (v := .int .i64 n) rfl (by kernel_rfl) (by kernel_rfl) (by kernel_rfl) (fun _ _ _ h => h) hS (yi_cell _ _ rfl (by rfl) ⟨w.heap.size, 0, none⟩ rfl _ Try.underlying3 rfl (fun w' h' => (cell_of_row _ _ _ _ _ _ h'.1).trans (tvv_zero _ _))) ?_
  (try simp only [Act.put, List.setIfInBounds_toArray, List.set_cons_zero, List.set_cons_succ])
  have hmin : min (n : Int) 64 = n := by omega
  have hmax : max 0 (n : Int) = n := by omega
  refine any_take (i := 5) (v := .int .i64 n) rfl (by kernel_rfl) (by kernel_rfl) (by kernel_rfl) (fun _ _ _ h => h) hS (yi_val (by rfl) (fun w' h' => ?y7)) ?_
  case y7 => first | rfl | (go_simp; done) | (go_simp; omega)
  (try simp only [Act.put, List.setIfInBounds_toArray, List.set_cons_zero, List.set_cons_succ])
  refine any_take (i := 6) (v := .int .i64 n) rfl (by kernel_rfl) (by kernel_rfl) (by kernel_rfl) (fun _ _ _ h => h) hS (yi_val (by rfl) (fun w' h' => ?y8)) ?_
  case y8 => first | rfl | (go_simp; done) | (go_simp; omega)
  (try simp only [Act.put, List.setIfInBounds_toArray, List.set_cons_zero, List.set_cons_succ])
  refine any_take (i := 7) (v := .slice (some ⟨w1.heap.size, 0, none⟩) n 64) rfl (by kernel_rfl) (by kernel_rfl) (by kernel_rfl) (fun _ _ _ h => h) hS (yi_val (by rfl) (fun w' h' => ?y9)) ?_
  case y9 => first | rfl | (go_simp; done) | (go_simp; omega)
  (try simp only [Act.put, List.setIfInBounds_toArray, List.set_cons_zero, List.set_cons_succ])
  refine any_take (i := 10) (v := .pointer (some ⟨w.heap.size, 0, none⟩)) rfl (by kernel_rfl) (by kernel_rfl) (by kernel_rfl) (fun _ _ _ h => h) hS (yi_val (by rfl) (fun w' h' => ?y10)) ?_
  case y10 => first | rfl | (go_simp; done) | (go_simp; omega)
  (try simp only [Act.put, List.setIfInBounds_toArray, List.set_cons_zero, List.set_cons_succ])
  refine any_take (i := 11) (v := .int .i64 n) rfl (by kernel_rfl) (by kernel_rfl) (by kernel_rfl) (fun _ _ _ h => h) hS (yi_cell _ _ rfl (by rfl) ⟨w.heap.size, 0, none⟩ rfl _ Try.underlying3 rfl (fun w' h' => (cell_of_row _ _ _ _ _ _ h'.1).trans (tvv_zero _ _))) ?_
  (try simp only [Act.put, List.setIfInBounds_toArray, List.set_cons_zero, List.set_cons_succ])
  have hCL : Kd.C (Kd.int .i64) (w1.alloc (.cells (img LL) 98)).drew (some ⟨w1.heap.size, 0, none⟩) n (zl L) := C_img (show (w1.alloc (.cells (img LL) 98)).drew.heap[w1.heap.size]? = _ from hp_new rfl) L n HP.out.len hn HLL.out (fun i hi => by rw [← HPL.out, padk_getD, if_pos ⟨hi, by omega⟩])
  refine any_call (i := 8) rfl (by kernel_rfl) (by rfl) 68 #[.slice (some ⟨w1.heap.size, 0, none⟩) n 64] ?x12 (chosen_any _ 64 L n HP.out.len HP.out.lt64 (by omega) _ hCL) ?_
  case x12 => (simp [go_sem])
  (try simp only [Act.put, List.setIfInBounds_toArray, List.set_cons_zero, List.set_cons_succ])
  rintro e w2 ⟨rfl, hb2⟩
  have hS2 := keep hb2 hS
  refine ⟨_, rfl, hS2, ?_⟩
  (try simp only [Act.put, List.setIfInBounds_toArray, List.set_cons_zero, List.set_cons_succ])
  rw [HBO.out]
  refine any_call (i := 9) rfl (by kernel_rfl) (by rfl) 72 #[.agg (sv (2 ^ n - 1))] ?x15 (size_any (2 ^ n - 1) n hn (oc_all ⟨n, by omega⟩) _) ?_
  case x15 => (simp [go_sem])
  (try simp only [Act.put, List.setIfInBounds_toArray, List.set_cons_zero, List.set_cons_succ])
  rintro e w3 ⟨rfl, hb3⟩
  have hS3 := keep hb3 hS2
  refine ⟨_, rfl, hS3, ?_⟩
  (try simp only [Act.put, List.setIfInBounds_toArray, List.set_cons_zero, List.set_cons_succ])
  refine any_take (i := 12) (v := .bool false) rfl (by kernel_rfl) (by kernel_rfl) (by kernel_rfl) (fun _ _ _ h => h) hS3 (yi_val (by rfl) (fun w' h' => ?y18)) ?_
  case y18 => first | rfl | (go_simp; done) | (go_simp; omega)
  (try simp only [Act.put, List.setIfInBounds_toArray, List.set_cons_zero, List.set_cons_succ])
  refine any_take (i := 13) (v := .bool false) rfl (by kernel_rfl) (by kernel_rfl) (by kernel_rfl) (fun _ _ _ h => h) hS3 (yi_val (by rfl) (fun w' h' => ?y19)) ?_
  case y19 => first | rfl | (go_simp; done) | (go_simp; omega)
  (try simp only [Act.put, List.setIfInBounds_toArray, List.set_cons_zero, List.set_cons_succ])
  refine wpAnyH_done (by kernel_rfl) ?_ _
  obtain ⟨q1, q2, ⟨cc, q3, q3'⟩, q4⟩ := hS3
  have Q1 := Lib.hid q1; have Q2 := Lib.hid q2; have Q3 := Lib.hid q3; have Q3' := Lib.hid q3'; have Q4 := Lib.hid q4
  clear hS hS2 hb2 hb3 q1 q2 q3 q3' q4 keep hCL hcut hmin hmax A1 A2 HB
  have hlt : w.heap.size < w3.heap.size := hp_lt Q1.out
  have c0 : w3.cell? ⟨w.heap.size, 0, none⟩ = some (.int .i64 n) := by rw [cell_of_row _ _ _ _ _ _ Q1.out, HZ.out]
  go_wp2
  have HF : Hid (w3.heap.size ≠ w1.heap.size ∧ w3.heap.size ≠ w.heap.size + 1) := Lib.hid (by have h1 := hp_lt Q2.out; have h2 := hp_lt Q3.out; omega)
  go_loopw [30] (fun i wr => ∃ k : Nat, k ≤ n ∧ i = .int .i64 k ∧ Hid (wr.heap[w3.heap.size]? = some (.cells (img (bk L n k)) 98 (0, 0)) ∧ wr.heap[w.heap.size]? = some (.cells (tvv n ws) 26 (0, 0)) ∧ wr.heap[w1.heap.size]? = some (.cells (img LL) 98 (0, 0)) ∧ wr.heap[w.heap.size + 1]? = some (.cells cc 26 (0, 0)) ∧ Below w.heap.size w wr)) (fun i _ => n - (intOf i).toNat)
  case atStart =>
    refine ⟨0, by omega, rfl, Lib.hid ⟨?_, hp_old Q1.out, hp_old Q2.out, hp_old Q3.out, bl_alloc Q4.out _⟩⟩
    rw [bk_zero, ← zeros_img]; exact hp_new rfl
  case round =>
    obtain ⟨k, hk, rfl, H⟩ := hrel
    obtain ⟨g1, g2, g3, g4, g5⟩ := H.out
    have G1 := Lib.hid g1; have G2 := Lib.hid g2; have G3 := Lib.hid g3; have G4 := Lib.hid g4; have G5 := Lib.hid g5
    clear g1 g2 g3 g4 g5 H
    by_cases hkn : k < n
    · have hy := HP.out.lt k hkn
      have hy64 : L.getD k 0 < 64 := by omega
      have hk64 : k < 64 := by omega
      have c1 : wr.cell? ⟨w1.heap.size, k, none⟩ = some (.int .i64 ((L.getD k 0 : Nat) : Int)) := by
        rw [cell_of_row _ _ _ _ _ _ G3.out, img_get _ _ (by rw [HLL.out]; omega), ← HPL.out, padk_getD, if_pos ⟨hkn, hk64⟩]
      have f1 : wr.frozen? ⟨w3.heap.size, L.getD k 0, none⟩ = false := frozen_of_row _ _ _ _ _ G1.out
      have c2 : wr.cell? ⟨w3.heap.size, L.getD k 0, none⟩ = some (.int .i64 (((bk L n k).getD (L.getD k 0) 0 : Nat) : Int)) := by rw [cell_of_row _ _ _ _ _ _ G1.out, img_get _ _ (by rw [bk_len]; exact hy64)]
      have H2 : Hid ((wr.setCell ⟨w3.heap.size, L.getD k 0, none⟩ (.int .i64 k)).heap[w3.heap.size]? = some (.cells (img (bk L n (k + 1))) 98 (0, 0)) ∧ (wr.setCell ⟨w3.heap.size, L.getD k 0, none⟩ (.int .i64 k)).heap[w.heap.size]? = some (.cells (tvv n ws) 26 (0, 0)) ∧ (wr.setCell ⟨w3.heap.size, L.getD k 0, none⟩ (.int .i64 k)).heap[w1.heap.size]? = some (.cells (img LL) 98 (0, 0)) ∧ (wr.setCell ⟨w3.heap.size, L.getD k 0, none⟩ (.int .i64 k)).heap[w.heap.size + 1]? = some (.cells cc 26 (0, 0)) ∧ Below w.heap.size w (wr.setCell ⟨w3.heap.size, L.getD k 0, none⟩ (.int .i64 k))) := by
        refine Lib.hid ⟨?_, hp_cell (by show w.heap.size ≠ w3.heap.size; omega) G2.out, hp_cell (by show w1.heap.size ≠ w3.heap.size; have := HF.out.1; omega) G3.out, hp_cell (by show w.heap.size + 1 ≠ w3.heap.size; have := HF.out.2; omega) G4.out, bl_cell G5.out (by show w.heap.size ≤ w3.heap.size; omega) _⟩
        rw [heap_setCell_same _ _ _ _ _ _ G1.out, img_set, bk_set HP.out hkn]
      clear c0
      generalize (bk L n k).getD (L.getD k 0) 0 = z at *
      generalize L.getD k 0 = y at *
      go_wp2
      go_roundw
      case rel => exact ⟨k + 1, by omega, by go_num, H2⟩
      case measure => simp [intOf]; omega
    · have e8 : k = n := by omega
      subst e8
      have c1 : wr.cell? ⟨w.heap.size, 0, none⟩ = some (.int .i64 k) := by rw [cell_of_row _ _ _ _ _ _ G2.out, HZ.out]
      clear c0
      go_wp2_with (refine ld_im w3.heap.size (bk_len _ _ _) G1.out rfl _ rfl rfl ?_)
      refine (pack_any k (bk L k k) hn (bk_len _ _ _) (bk_lt hn k (Nat.le_refl _)) _).mono ?_
      rintro e w4 ⟨rfl, hb⟩
      rw [HEND.out]
      have K4 := Lib.hid (hp_below' hb G4.out)
      have K5 := Lib.hid (bl_then G5.out hb)
      clear hb
      go_wp2_with (refine st_tr (w.heap.size + 1) (pks_len _ _) K4.out Q3'.out rfl _ _ rfl rfl rfl ?_)
      refine bodyPost_ret (v := .tuple #[.agg (tvv k (pks (inv k L) k)), .int .i64 0]) ?_ rfl ⟨rfl, bl_row K5.out (by omega) _⟩
      refine (results_cell_tmp (p := 2) (t := 3) (by rfl) _ _ (w.heap.size + 1) 26 _ _ _ ?_ (setRow_heap _ _ _ _ _ _ K4.out) Try.underlying26 rfl (tr_z _ _ (pks_len _ _))).trans ?_ <;> rfl
end Go.Proofs.Ytpebnldoimoahaa

namespace Go.Proofs.Ytpebnldoimoahaa
open Go.RowKit Go.Proofs.YtpebnldoimoahaaW.PrintWords
theorem zl_set (l : List Nat) (i x : Nat) : (zl l).set i (x : Int) = zl (l.set i x) := by simp [zl, List.map_set]
/-- Two points change places. -/
def swp (L : List Nat) (i k : Nat) : List Nat := (L.set i (L.getD k 0)).set k (L.getD i 0)
theorem swp_get {L : List Nat} {n i k : Nat} (hl : L.length = n) (hi : i < n) (hk : k < n) (j : Nat) (hj : j < n) : (swp L i k).getD j 0 = L.getD (if j = k then i else if j = i then k else j) 0 := by
  have hj' : j < L.length := by omega
  unfold swp
  rw [List.getD_eq_getElem?_getD, List.getElem?_set, List.getElem?_set]
  by_cases e : k = j
  · subst e; rw [if_pos rfl, if_pos rfl]; simp [hl, hk]
  · rw [if_neg e, if_neg (show ¬ j = k by omega)]
    by_cases e2 : i = j
    · subst e2; rw [if_pos rfl, if_pos rfl]; simp [hl, hi]
    · rw [if_neg e2, if_neg (show ¬ j = i by omega), ← List.getD_eq_getElem?_getD]
theorem Prm.swp {n : Nat} {L : List Nat} (h : Prm n L) {i k : Nat} (hi : i < n) (hk : k < n) : Prm n (swp L i k) := by
  refine ⟨⟨h.one, h.max, by simp [Ytpebnldoimoahaa.swp, h.len], fun j hj => ?_⟩, fun a b ha hb e => ?_⟩
  · rw [swp_get h.len hi hk j hj]
    exact h.lt _ (by split; exact hi; split <;> omega)
  · rw [swp_get h.len hi hk a ha, swp_get h.len hi hk b hb] at e
    have h1 : (if a = k then i else if a = i then k else a) < n := by split; exact hi; split <;> omega
    have h2 : (if b = k then i else if b = i then k else b) < n := by split; exact hi; split <;> omega
    have := h.inj _ _ h1 h2 e
    split at this <;> split at this <;> (try split at this) <;> (try split at this) <;> omega
theorem own_cell {w : World} {base g n cap : Nat} {L : List Nat} (h : Own w base (.slice (some ⟨g, 0, none⟩) n cap) (zl L)) (j : Nat) (hj : j < n) : w.cell? ⟨g, j, none⟩ = some (.int .i64 ((L.getD j 0 : Nat) : Int)) ∧ w.frozen? ⟨g, j, none⟩ = false := by
  have := Kd.R_celln (0 : Int) h (j : Int) (by omega) (by omega)
  rw [Int.toNat_natCast] at this
  have e := zl_rd L j
  unfold rd at e
  unfold rdOf at this
  rw [Int.toNat_natCast] at e this
  rw [e] at this
  exact this
theorem own_put {w : World} {base g n cap : Nat} {L : List Nat} (h : Own w base (.slice (some ⟨g, 0, none⟩) n cap) (zl L)) (j x : Nat) : Own (w.setCell ⟨g, j, none⟩ (.int .i64 (x : Int))) base (.slice (some ⟨g, 0, none⟩) n cap) (zl (L.set j x)) := by
  have := Kd.R_putn h (j : Int) (x : Int)
  rw [Int.toNat_natCast, zl_set] at this
  exact this
set_option maxRecDepth 100000 in
set_option maxHeartbeats 2000000 in
theorem shuffled_any (n : Nat) (h1 : 1 ≤ n) (hn : n ≤ 64) (A : Option Addr) (c : Nat) (l : List Int) (w : World) (hr : Kd.C (Kd.int .i64) w A l.length l) :
    Calls Try.prog 42 #[.int .i64 n, .slice A l.length c] w fun e w' => ∃ v L, e = .returned v ∧ Prm n L ∧ Own w' w.heap.size v (zl L) ∧ Below w.heap.size w w' := by
  have HR := Aside0.mk hr
  clear hr
  go_enter Try.func42, Try.ntmps42
  go_wp2
  go_loopw [5, 6] (fun v i wr => ∃ k : Nat, k ≤ n ∧ i = .int .i64 k ∧ Hid (Own wr w.heap.size v (zl (List.range k)) ∧ Below w.heap.size w wr)) (fun _ i _ => n - (intOf i).toNat)
  case atStart => exact ⟨0, by omega, rfl, Lib.hid ⟨Kd.R_nil _ _ _ _ _, Below.refl _ _⟩⟩
  case round =>
    obtain ⟨k, hk, rfl, H⟩ := hrel
    have HO := Aside0.mk H.out.1
    have HB := Aside0.mk H.out.2
    clear H
    by_cases hkl : k < n
    · have HK := Lib.hid (show zl (List.range (k + 1)) = zl (List.range k) ++ [(k : Int)] by rw [List.range_succ, zl_snoc])
      have HLK := Lib.hid (show (zl (List.range k)).length = k by rw [zl_len]; simp)
      generalize zl (List.range k) = xs at *
      go_wp2_with (first | (at_builtin; refine Kd.R_append (Kd.int .i64) (w0 := w) w.heap.size rfl (.tmp 15) (.tmp 17) 22 3 (.int .i64 0) 8 rfl Try.underlying22 info_int rfl (by decide) (by omega) u5 xs (k : Int) [.int .i64 k] (fun _ => True) (fun _ => False) rfl rfl ?aP (fun _ hk => hk.elim) ?aF ?aO ?aB ?aS ?aL ?_; (case aP => exact rfl); (case aB => exact HB.out); (case aF => exact (fun _ _ => trivial)); (case aO => exact HO.out); (case aS => exact below_size HB.out); (case aL => have := HLK.out; omega); intro v1 w1 ho hb hg hat; have HO1 := Aside0.mk ho; have HB1 := Aside0.mk hb; clear ho hb hg hat))
      go_roundw
      case rel => exact ⟨k + 1, by omega, by go_num, Lib.hid ⟨by rw [HK.out]; exact HO1.out, HB1.out⟩⟩
      case measure => simp [intOf]; omega
    · have : k = n := by omega
      subst this
      have hlen : (zl (List.range k)).length = k := by rw [zl_len]; simp
      obtain ⟨g, cap, hv, hbg, _, _⟩ := Kd.R_form HO.out (by omega)
      rw [hlen] at hv
      subst hv
      have HS : Hid (∃ L, Prm k L ∧ Own wr w.heap.size (.slice (some ⟨g, 0, none⟩) k cap) (zl L)) := Lib.hid ⟨_, Prm.range h1 hn, HO.out⟩
      have HG := Lib.hid hbg
      clear HO hlen hbg
      go_wp2
      go_loopw [7] (fun i wi => ∃ j : Nat, j ≤ k ∧ i = .int .i64 j ∧ Hid (∃ L, Prm k L ∧ Own wi w.heap.size (.slice (some ⟨g, 0, none⟩) k cap) (zl L)) ∧ Aside0 (Below w.heap.size w wi)) (fun i _ => k - (intOf i).toNat)
      case atStart => exact ⟨0, by omega, rfl, HS, HB⟩
      case round =>
        obtain ⟨j, hj, rfl, HS, HB⟩ := hrel
        obtain ⟨L, hP, hO⟩ := HS.out
        have HP := Lib.hid hP
        have HO := Aside0.mk hO
        clear hO HS hP
        by_cases hjk : j < k
        · by_cases hjl : j < l.length
          · obtain ⟨ad, rfl, hcell⟩ := Kd.at_int (Kd.C_below HR.out HB.out) j (by omega) (by omega)
            rw [Int.toNat_natCast] at hcell
            generalize rd l j = x at *
            obtain ⟨q1, q2, q3, q4⟩ := mdN_eq k x h1
            have q5 : wrap64 (Int.tmod x k + k) = Int.tmod x k + k := IntWalk.wrap64_in _ ⟨by omega, by omega⟩
            have q6 : ((k : Int) == 0) = false := by rw [beq_eq_false_iff_ne]; omega
            generalize mdN k x = y at *
            obtain ⟨c1, f1⟩ := own_cell HO.out j hjk
            obtain ⟨c2, f2⟩ := own_cell HO.out y q2
            have HO2 := Aside0.mk (own_put HO.out j (L.getD y 0))
            have HB2 := Aside0.mk (bl_cell HB.out (p := ⟨g, j, none⟩) HG.out (.int .i64 ((L.getD y 0 : Nat) : Int)))
            have f3 := (own_cell HO2.out y q2).2
            have c3 := (own_cell HO2.out y q2).1
            have HO3 := Aside0.mk (own_put HO2.out y (L.getD j 0))
            have HB3 := Aside0.mk (bl_cell HB2.out (p := ⟨g, y, none⟩) HG.out (.int .i64 ((L.getD j 0 : Nat) : Int)))
            have HP3 := Lib.hid (HP.out.swp hjk q2)
            unfold swp at HP3
            generalize hL3 : (L.set j (L.getD y 0)).set y (L.getD j 0) = L3 at *
            clear hL3
            generalize (L.set j (L.getD y 0)).getD y 0 = z3 at *
            clear HO2 HB2 HB HO
            generalize L.getD y 0 = ly at *
            generalize L.getD j 0 = lj at *
            go_wp2
            go_roundw
            case rel => exact ⟨j + 1, by omega, by go_num, Lib.hid ⟨L3, HP3.out, HO3.out⟩, HB3⟩
            case measure => simp [intOf]; omega
          · go_wp2
            go_ret
            exact ⟨_, L, rfl, HP.out, HO.out, HB.out⟩
        · have e8 : j = k := by omega
          subst e8
          go_wp2
          go_ret
          exact ⟨_, L, rfl, HP.out, HO.out, HB.out⟩
end Go.Proofs.Ytpebnldoimoahaa

namespace Go.Proofs.Ytpebnldoimoahaa
open Go.RowKit Go.Proofs.YtpebnldoimoahaaW.PrintWords
theorem Prm.index {n : Nat} {L : List Nat} (h : Prm n L) : (cyc L n n).1 = 0 := by
  obtain ⟨_, h2, _⟩ := cyc_max h.lt n (Nat.le_refl _)
  rcases h2 with h2 | ⟨v, hv, h2⟩
  · exact h2
  · apply Classical.byContradiction
    intro hne
    have ht := tlp_tail h.lt hv
    generalize (tlp L n v).1 = m at *
    generalize (tlp L n v).2 = p at *
    have hm : 0 < m := by omega
    have hp := ht.one
    obtain ⟨m', rfl⟩ : ∃ m', m = m' + 1 := ⟨m - 1, by omega⟩
    have e : L.getD (orb L v (m' + p)) 0 = L.getD (orb L v m') 0 := by
      have := ht.back
      rw [show m' + 1 + p = (m' + p) + 1 by omega] at this
      exact this
    have := h.inj _ _ (orb_lt h.lt hv _) (orb_lt h.lt hv _) e
    exact ht.fr m' (m' + p) (by omega) (by omega) this.symm
end Go.Proofs.Ytpebnldoimoahaa

