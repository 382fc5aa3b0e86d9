/- Permutations as lists, in plain Lean: their set of images, their inverses. -/
import Derived.Test.YtpebnldoimoahaaGoodE
import Derived.Test.YtpebnldoimoahaaGoodD
import Derived.Test.YtpebnldoimoahaaSet
import Derived.Laws.Bits64b
import Derived.IntWalk
import Derived.Laws.Bits128
import Derived.Test.YtpebnldoimoahaaRKer
namespace Go.Proofs.Ytpebnldoimoahaa
open Go.RowKit
structure Prm (n : Nat) (L : List Nat) : Prop extends Gd n L where
  inj : ∀ i j, i < n → j < n → L.getD i 0 = L.getD j 0 → i = j
theorem Prm.nodup {n : Nat} {L : List Nat} (h : Prm n L) : L.Nodup := by
  rw [List.nodup_iff_pairwise_ne, List.pairwise_iff_getElem]
  intro i j hi hj hij e
  have h1 : i < n := by rw [← h.len]; exact hi
  have h2 : j < n := by rw [← h.len]; exact hj
  have := h.inj i j h1 h2 (by simpa [List.getD_eq_getElem?_getD, List.getElem?_eq_getElem hi, List.getElem?_eq_getElem hj] using e)
  omega
theorem Prm.all {n : Nat} {L : List Nat} (h : Prm n L) {j : Nat} (hj : j < n) : ∃ i, i < n ∧ L.getD i 0 = j := by
  apply Classical.byContradiction
  intro hno
  have hnot : j ∉ L := fun hm => by
    obtain ⟨i, hi, e⟩ := List.mem_iff_getElem.1 hm
    exact hno ⟨i, by rw [← h.len]; exact hi, by simp [List.getD_eq_getElem?_getD, List.getElem?_eq_getElem hi, e]⟩
  have := nodup_le n (j :: L) (List.nodup_cons.2 ⟨hnot, h.nodup⟩) (fun x hx => by
    rcases List.mem_cons.1 hx with rfl | hx
    · exact hj
    · obtain ⟨i, hi, rfl⟩ := List.mem_iff_getElem.1 hx
      have := h.lt i (by rw [← h.len]; exact hi)
      simpa [List.getD_eq_getElem?_getD, List.getElem?_eq_getElem hi] using this)
  rw [List.length_cons, h.len] at this
  omega
theorem Prm.bo {n : Nat} {L : List Nat} (h : Prm n L) : bo L = 2 ^ n - 1 := by
  apply Nat.eq_of_testBit_eq
  intro i
  rw [bo_bit, Nat.testBit_two_pow_sub_one]
  congr 1
  apply propext
  constructor
  · intro hm
    obtain ⟨k, hk, rfl⟩ := List.mem_iff_getElem.1 hm
    have := h.lt k (by rw [← h.len]; exact hk)
    simpa [List.getD_eq_getElem?_getD, List.getElem?_eq_getElem hk] using this
  · intro hi
    obtain ⟨k, hk, e⟩ := h.all hi
    have hk' : k < L.length := by rw [h.len]; exact hk
    rw [← e, List.getD_eq_getElem?_getD, List.getElem?_eq_getElem hk']
    exact List.getElem_mem _
/-- The point that goes to j. -/
def src (L : List Nat) (n j : Nat) : Nat := ((List.range n).find? fun i => L.getD i 0 == j).getD 0
def inv (n : Nat) (L : List Nat) : List Nat := (List.range n).map (src L n)
theorem Prm.src {n : Nat} {L : List Nat} (h : Prm n L) {i : Nat} (hi : i < n) : src L n (L.getD i 0) = i := by
  have : (List.range n).find? (fun k => L.getD k 0 == L.getD i 0) = some i := by
    rw [List.find?_range_eq_some]
    refine ⟨by simp, by simpa using hi, fun k hk => ?_⟩
    have : L.getD k 0 ≠ L.getD i 0 := fun e => by have := h.inj k i (by omega) hi e; omega
    simpa using this
  unfold Ytpebnldoimoahaa.src
  rw [this]; rfl
theorem inv_getD (n : Nat) (L : List Nat) (j : Nat) (hj : j < n) : (inv n L).getD j 0 = src L n j := by simp [inv, List.getD_eq_getElem?_getD, hj]
theorem Prm.left {n : Nat} {L : List Nat} (h : Prm n L) {i : Nat} (hi : i < n) : (inv n L).getD (L.getD i 0) 0 = i := by rw [inv_getD _ _ _ (h.lt i hi), h.src hi]
theorem Prm.right {n : Nat} {L : List Nat} (h : Prm n L) {j : Nat} (hj : j < n) : L.getD ((inv n L).getD j 0) 0 = j ∧ (inv n L).getD j 0 < n := by
  obtain ⟨i, hi, rfl⟩ := h.all hj
  rw [h.left hi]; exact ⟨rfl, hi⟩
theorem Prm.inv {n : Nat} {L : List Nat} (h : Prm n L) : Prm n (inv n L) :=
  ⟨⟨h.one, h.max, by simp [Ytpebnldoimoahaa.inv], fun j hj => (h.right hj).2⟩, fun i j hi hj e => by rw [← (h.right hi).1, e, (h.right hj).1]⟩
theorem Prm.thn {n : Nat} {L M : List Nat} (h : Prm n L) (h' : Prm n M) : Prm n (thn L M) :=
  ⟨h.toGd.thn h'.toGd, fun i j hi hj e => by
    rw [thn_getD _ _ _ (by rw [h.len]; exact hi), thn_getD _ _ _ (by rw [h.len]; exact hj)] at e
    exact h.inj i j hi hj (h'.inj _ _ (h.lt i hi) (h.lt j hj) e)⟩
theorem Prm.uniq {n : Nat} {L N : List Nat} (h : Prm n L) (hN : Gd n N) (he : ∀ i, i < n → N.getD (L.getD i 0) 0 = i) : N = Ytpebnldoimoahaa.inv n L :=
  hN.ext h.inv.toGd fun j hj => by
    obtain ⟨i, hi, rfl⟩ := h.all hj
    rw [he i hi, h.left hi]
theorem Prm.twice {n : Nat} {L : List Nat} (h : Prm n L) : Ytpebnldoimoahaa.inv n (Ytpebnldoimoahaa.inv n L) = L :=
  (h.inv.uniq h.toGd fun _ hj => (h.right hj).1).symm
theorem Prm.both {n : Nat} {L M : List Nat} (h : Prm n L) (h' : Prm n M) : Ytpebnldoimoahaa.inv n (Ytpebnldoimoahaa.thn L M) = Ytpebnldoimoahaa.thn (Ytpebnldoimoahaa.inv n M) (Ytpebnldoimoahaa.inv n L) :=
  ((h.thn h').uniq (h'.inv.toGd.thn h.inv.toGd) fun i hi => by
    rw [thn_getD _ _ _ (by rw [h'.inv.len]; exact (h.thn h').lt i hi), thn_getD _ _ _ (by rw [h.len]; exact hi), h'.left (h.lt i hi), h.left hi]).symm
theorem Prm.unit {n : Nat} {L : List Nat} (h : Prm n L) : Ytpebnldoimoahaa.thn L (Ytpebnldoimoahaa.inv n L) = List.range n :=
  (h.toGd.thn h.inv.toGd).ext (Gd.range h.one h.max) fun i hi => by
    rw [thn_getD _ _ _ (by rw [h.len]; exact hi), h.left hi]; simp [hi]
theorem Prm.range {n : Nat} (h1 : 1 ≤ n) (h : n ≤ 64) : Prm n (List.range n) := ⟨Gd.range h1 h, fun i j hi hj e => by simpa [hi, hj] using e⟩
end Go.Proofs.Ytpebnldoimoahaa

namespace Go.Proofs.Ytpebnldoimoahaa
open Go.RowKit Go.Proofs.YtpebnldoimoahaaW.PrintWords
def ocF (x : Int) : Int := (bits .and .i64 (wrap64 (IntKind.u64.wrap ((IntKind.u64.wrap ((IntKind.u64.wrap ((bits .and .u64 (IntKind.u64.wrap (((IntKind.u64.wrap ((bits .and .u64 ((IntKind.u64.wrap ((bits .and .u64 (x / 2) 6148914691236517205) + (bits .and .u64 x 6148914691236517205))) / 4) 3689348814741910323) + (bits .and .u64 (IntKind.u64.wrap ((bits .and .u64 (x / 2) 6148914691236517205) + (bits .and .u64 x 6148914691236517205))) 3689348814741910323))) / 16) + (IntKind.u64.wrap ((bits .and .u64 ((IntKind.u64.wrap ((bits .and .u64 (x / 2) 6148914691236517205) + (bits .and .u64 x 6148914691236517205))) / 4) 3689348814741910323) + (bits .and .u64 (IntKind.u64.wrap ((bits .and .u64 (x / 2) 6148914691236517205) + (bits .and .u64 x 6148914691236517205))) 3689348814741910323))))) 1085102592571150095) + ((bits .and .u64 (IntKind.u64.wrap (((IntKind.u64.wrap ((bits .and .u64 ((IntKind.u64.wrap ((bits .and .u64 (x / 2) 6148914691236517205) + (bits .and .u64 x 6148914691236517205))) / 4) 3689348814741910323) + (bits .and .u64 (IntKind.u64.wrap ((bits .and .u64 (x / 2) 6148914691236517205) + (bits .and .u64 x 6148914691236517205))) 3689348814741910323))) / 16) + (IntKind.u64.wrap ((bits .and .u64 ((IntKind.u64.wrap ((bits .and .u64 (x / 2) 6148914691236517205) + (bits .and .u64 x 6148914691236517205))) / 4) 3689348814741910323) + (bits .and .u64 (IntKind.u64.wrap ((bits .and .u64 (x / 2) 6148914691236517205) + (bits .and .u64 x 6148914691236517205))) 3689348814741910323))))) 1085102592571150095) / 256))) + ((IntKind.u64.wrap ((bits .and .u64 (IntKind.u64.wrap (((IntKind.u64.wrap ((bits .and .u64 ((IntKind.u64.wrap ((bits .and .u64 (x / 2) 6148914691236517205) + (bits .and .u64 x 6148914691236517205))) / 4) 3689348814741910323) + (bits .and .u64 (IntKind.u64.wrap ((bits .and .u64 (x / 2) 6148914691236517205) + (bits .and .u64 x 6148914691236517205))) 3689348814741910323))) / 16) + (IntKind.u64.wrap ((bits .and .u64 ((IntKind.u64.wrap ((bits .and .u64 (x / 2) 6148914691236517205) + (bits .and .u64 x 6148914691236517205))) / 4) 3689348814741910323) + (bits .and .u64 (IntKind.u64.wrap ((bits .and .u64 (x / 2) 6148914691236517205) + (bits .and .u64 x 6148914691236517205))) 3689348814741910323))))) 1085102592571150095) + ((bits .and .u64 (IntKind.u64.wrap (((IntKind.u64.wrap ((bits .and .u64 ((IntKind.u64.wrap ((bits .and .u64 (x / 2) 6148914691236517205) + (bits .and .u64 x 6148914691236517205))) / 4) 3689348814741910323) + (bits .and .u64 (IntKind.u64.wrap ((bits .and .u64 (x / 2) 6148914691236517205) + (bits .and .u64 x 6148914691236517205))) 3689348814741910323))) / 16) + (IntKind.u64.wrap ((bits .and .u64 ((IntKind.u64.wrap ((bits .and .u64 (x / 2) 6148914691236517205) + (bits .and .u64 x 6148914691236517205))) / 4) 3689348814741910323) + (bits .and .u64 (IntKind.u64.wrap ((bits .and .u64 (x / 2) 6148914691236517205) + (bits .and .u64 x 6148914691236517205))) 3689348814741910323))))) 1085102592571150095) / 256))) / 65536))) + ((IntKind.u64.wrap ((IntKind.u64.wrap ((bits .and .u64 (IntKind.u64.wrap (((IntKind.u64.wrap ((bits .and .u64 ((IntKind.u64.wrap ((bits .and .u64 (x / 2) 6148914691236517205) + (bits .and .u64 x 6148914691236517205))) / 4) 3689348814741910323) + (bits .and .u64 (IntKind.u64.wrap ((bits .and .u64 (x / 2) 6148914691236517205) + (bits .and .u64 x 6148914691236517205))) 3689348814741910323))) / 16) + (IntKind.u64.wrap ((bits .and .u64 ((IntKind.u64.wrap ((bits .and .u64 (x / 2) 6148914691236517205) + (bits .and .u64 x 6148914691236517205))) / 4) 3689348814741910323) + (bits .and .u64 (IntKind.u64.wrap ((bits .and .u64 (x / 2) 6148914691236517205) + (bits .and .u64 x 6148914691236517205))) 3689348814741910323))))) 1085102592571150095) + ((bits .and .u64 (IntKind.u64.wrap (((IntKind.u64.wrap ((bits .and .u64 ((IntKind.u64.wrap ((bits .and .u64 (x / 2) 6148914691236517205) + (bits .and .u64 x 6148914691236517205))) / 4) 3689348814741910323) + (bits .and .u64 (IntKind.u64.wrap ((bits .and .u64 (x / 2) 6148914691236517205) + (bits .and .u64 x 6148914691236517205))) 3689348814741910323))) / 16) + (IntKind.u64.wrap ((bits .and .u64 ((IntKind.u64.wrap ((bits .and .u64 (x / 2) 6148914691236517205) + (bits .and .u64 x 6148914691236517205))) / 4) 3689348814741910323) + (bits .and .u64 (IntKind.u64.wrap ((bits .and .u64 (x / 2) 6148914691236517205) + (bits .and .u64 x 6148914691236517205))) 3689348814741910323))))) 1085102592571150095) / 256))) + ((IntKind.u64.wrap ((bits .and .u64 (IntKind.u64.wrap (((IntKind.u64.wrap ((bits .and .u64 ((IntKind.u64.wrap ((bits .and .u64 (x / 2) 6148914691236517205) + (bits .and .u64 x 6148914691236517205))) / 4) 3689348814741910323) + (bits .and .u64 (IntKind.u64.wrap ((bits .and .u64 (x / 2) 6148914691236517205) + (bits .and .u64 x 6148914691236517205))) 3689348814741910323))) / 16) + (IntKind.u64.wrap ((bits .and .u64 ((IntKind.u64.wrap ((bits .and .u64 (x / 2) 6148914691236517205) + (bits .and .u64 x 6148914691236517205))) / 4) 3689348814741910323) + (bits .and .u64 (IntKind.u64.wrap ((bits .and .u64 (x / 2) 6148914691236517205) + (bits .and .u64 x 6148914691236517205))) 3689348814741910323))))) 1085102592571150095) + ((bits .and .u64 (IntKind.u64.wrap (((IntKind.u64.wrap ((bits .and .u64 ((IntKind.u64.wrap ((bits .and .u64 (x / 2) 6148914691236517205) + (bits .and .u64 x 6148914691236517205))) / 4) 3689348814741910323) + (bits .and .u64 (IntKind.u64.wrap ((bits .and .u64 (x / 2) 6148914691236517205) + (bits .and .u64 x 6148914691236517205))) 3689348814741910323))) / 16) + (IntKind.u64.wrap ((bits .and .u64 ((IntKind.u64.wrap ((bits .and .u64 (x / 2) 6148914691236517205) + (bits .and .u64 x 6148914691236517205))) / 4) 3689348814741910323) + (bits .and .u64 (IntKind.u64.wrap ((bits .and .u64 (x / 2) 6148914691236517205) + (bits .and .u64 x 6148914691236517205))) 3689348814741910323))))) 1085102592571150095) / 256))) / 65536))) / 4294967296)))) 127)
theorem oc_all : ∀ n : Fin 65, ocF (((2 ^ n.val - 1 : Nat) : Int)) = (n.val : Int) := by decide +kernel
set_option maxRecDepth 100000 in
set_option maxHeartbeats 4000000 in
theorem ones_any (x : Int) (w : World) : Calls Try.prog 81 #[.int .u64 x] w fun e w' => e = .returned (.int .i64 (ocF x)) ∧ w = w' := by
  go_enter Try.func81, Try.ntmps81
  go_wp2
  go_ret
  exact ⟨rfl, rfl⟩
theorem oc_zero : ocF 0 = 0 := by decide +kernel
theorem sv_at2 (x j : Nat) (h : j < 8) : (sv x)[j]? = some (.int .u64 ((if j = 0 then x else 0 : Nat) : Int)) := by
  match j, h with
  | 0, _ => simp [sv]
  | 1, _ => simp [sv]
  | 2, _ => simp [sv]
  | 3, _ => simp [sv]
  | 4, _ => simp [sv]
  | 5, _ => simp [sv]
  | 6, _ => simp [sv]
  | 7, _ => simp [sv]
theorem idx_sv (x j : Nat) (h : j < 8) (W : World) : (Instr.index 69 (.agg (sv x)) (.int .i64 (j : Int))).run Try.prog W = .ok (.int .u64 ((if j = 0 then x else 0 : Nat) : Int)) W := by
  have hu := Try.underlying69
  have hv := Try.underlying23
  have hc : Try.prog.cellsOf 23 = 1 := by kernel_rfl
  match j, h with
  | 0, _ => simp [Instr.index, run_underlying hu, asIntOf, go_sem, part, sv]
  | 1, _ => simp [Instr.index, run_underlying hu, asIntOf, go_sem, part, sv]
  | 2, _ => simp [Instr.index, run_underlying hu, asIntOf, go_sem, part, sv]
  | 3, _ => simp [Instr.index, run_underlying hu, asIntOf, go_sem, part, sv]
  | 4, _ => simp [Instr.index, run_underlying hu, asIntOf, go_sem, part, sv]
  | 5, _ => simp [Instr.index, run_underlying hu, asIntOf, go_sem, part, sv]
  | 6, _ => simp [Instr.index, run_underlying hu, asIntOf, go_sem, part, sv]
  | 7, _ => simp [Instr.index, run_underlying hu, asIntOf, go_sem, part, sv]
set_option maxRecDepth 100000 in
set_option maxHeartbeats 800000 in
theorem size_any (x m : Nat) (hm : m ≤ 64) (ho : ocF x = m) (w : World) : Calls Try.prog 72 #[.agg (sv x)] w fun e w' => e = .returned (.int .i64 m) ∧ Below w.heap.size w w' := by
  have HO := Lib.hid ho; clear ho
  go_enter Try.func72, Try.ntmps72
  go_wp2_with (refine ld_sv _ rfl w.heap.size rfl (hp_new rfl) rfl ?_)
  go_loopw [3, 7] (fun s i wr => ∃ j : Nat, j ≤ 8 ∧ i = .int .i64 j ∧ s = .int .i64 ((if j = 0 then 0 else m : Nat) : Int) ∧ Hid (Below w.heap.size w wr)) (fun _ i _ => 8 - (intOf i).toNat)
  case atStart => exact ⟨0, by omega, rfl, rfl, Lib.hid (bl_alloc (Below.refl _ _) _)⟩
  case round =>
    obtain ⟨j, hj, rfl, rfl, H⟩ := hrel
    by_cases hj8 : j < 8
    · have hv := idx_sv x j hj8
      have HN : Hid (((if j = 0 then 0 else m : Nat) : Int) + ocF ((if j = 0 then x else 0 : Nat) : Int) = (m : Int)) := Lib.hid (by
        by_cases e : j = 0
        · subst e; simp [HO.out]
        · rw [if_neg e, if_neg e]; have := oc_zero; simp only [Int.natCast_zero]; rw [this]; omega)
      have HM : Hid ((if j = 0 then 0 else m : Nat) ≤ 64) := Lib.hid (by split <;> omega)
      generalize (if j = 0 then 0 else m : Nat) = s at *
      generalize (if j = 0 then x else 0 : Nat) = y at *
      go_wp2_with fail
      refine (ones_any _ _).mono ?_
      rintro e w' ⟨rfl, rfl⟩
      have hsum : wrap64 ((s : Int) + ocF y) = m := by rw [HN.out]; exact IntWalk.wrap64_in _ ⟨by omega, by omega⟩
      go_wp2
      go_roundw
      case rel => exact ⟨j + 1, by omega, by go_num, by rw [if_neg (by omega), hsum], H⟩
      case measure => simp [intOf]; omega
    · have e8 : j = 8 := by omega
      subst e8
      go_wp2
      go_ret
      exact ⟨rfl, H.out⟩
end Go.Proofs.Ytpebnldoimoahaa

namespace Go.Proofs.Ytpebnldoimoahaa
open Go.RowKit Go.Proofs.YtpebnldoimoahaaW.PrintWords
set_option linter.unusedSimpArgs false
/-- The images so far: point i at place L i, i below k. -/
def bk (L : List Nat) (n k : Nat) : List Nat := (List.range 64).map fun j => if j < n ∧ src L n j < k then src L n j else 0
theorem bk_len (L : List Nat) (n k : Nat) : (bk L n k).length = 64 := by simp [bk]
theorem bk_zero (L : List Nat) (n : Nat) : bk L n 0 = List.replicate 64 0 := by
  apply List.ext_getElem (by simp [bk])
  intro i h1 h2
  rw [List.getElem_replicate]
  simp [bk]
theorem bk_set {n : Nat} {L : List Nat} (h : Prm n L) {k : Nat} (hk : k < n) : (bk L n k).set (L.getD k 0) k = bk L n (k + 1) := by
  apply List.ext_getElem (by simp [bk])
  intro j h1 h2
  have hj : j < 64 := by simp [bk] at h2; exact h2
  simp only [bk, List.getElem_set, List.getElem_map, List.getElem_range]
  by_cases e : L.getD k 0 = j
  · subst e
    rw [if_pos rfl, h.src hk, if_pos ⟨h.lt k hk, by omega⟩]
  · rw [if_neg e]
    by_cases hjn : j < n
    · obtain ⟨i, hi, rfl⟩ := h.all hjn
      rw [h.src hi]
      have hik : i ≠ k := fun e' => e (by rw [e'])
      by_cases hlt : i < k
      · rw [if_pos ⟨hjn, hlt⟩, if_pos ⟨hjn, by omega⟩]
      · rw [if_neg (by omega), if_neg (by omega)]
    · rw [if_neg (by omega), if_neg (by omega)]
theorem bk_end {n : Nat} {L : List Nat} (h : Prm n L) : pks (bk L n n) n = pks (inv n L) n := pks_ext _ _ _ fun j hj => by
  have h64 : j < 64 := by have := h.max; omega
  have h2 := (h.right hj).2
  rw [inv_getD _ _ _ hj] at h2 ⊢
  simp [bk, List.getD_eq_getElem?_getD, h64, hj, h2]
theorem bk_lt {n : Nat} {L : List Nat} (h : n ≤ 64) (k : Nat) (hk : k ≤ n) (i : Nat) : (bk L n k).getD i 0 < 64 := by
  by_cases hi : i < 64
  · simp only [bk, List.getD_eq_getElem?_getD, List.getElem?_map, List.getElem?_range hi, Option.map_some, Option.getD_some]
    split <;> omega
  · rw [List.getD_eq_getElem?_getD, List.getElem?_eq_none (by rw [bk_len]; omega)]; decide
set_option maxRecDepth 100000 in
set_option maxHeartbeats 2000000 in
theorem inverse_g {n : Nat} {L : List Nat} (h : Prm n L) (w : World) :
    Calls Try.prog 43 #[.agg (tvv n (pks L n))] w fun e w' => e = .returned (.tuple #[.agg (tvv n (pks (inv n L) n)), .int .i64 0]) ∧ Below w.heap.size w w' := by
  have HL := Lib.hid (pks_len L n)
  have HZ := Lib.hid (tvv_zero n (pks L n))
  have HW := Lib.hid h.words
  have HG := Lib.hid h.good
  have HE := Lib.hid h.ims
  have HBO := Lib.hid h.bo
  have HP := Lib.hid h
  have HEND := Lib.hid (bk_end h)
  have hn1 := h.one; have hn := h.max
  clear h
  generalize pks L n = ws at *
  go_enter Try.func43, Try.ntmps43
  go_wp2_with (refine ld_tr w.heap.size HL.out (hp_old (hp_new rfl)) rfl _ rfl rfl ?_)
  refine (open_any n ws HL.out HW _).mono ?_
  rintro e w1 ⟨l, hl, rfl, hi, hb⟩
  obtain rfl : l = padk n L := by rw [hi HG.out, Int.toNat_natCast, HE.out]
  rw [HG.out]
  have HLL := Lib.hid hl
  have A1 := Lib.hid (hp_below' hb (hp_old (hp_new (w := w) (o := .cells (tvv n ws) 26) rfl)))
  have A2 := Lib.hid (hp_below' hb (hp_new (w := w.alloc (.cells (tvv n ws) 26)) rfl))
  have HB := Lib.hid (bl_then (bl_alloc (bl_alloc (Below.refl _ w) _) _) hb)
  rw [World.size_alloc] at A2
  clear hi hl hb
  generalize hLL : padk n L = LL at *
  have HPL := Lib.hid hLL; clear hLL
  go_wp2_with (refine st_im_new HLL.out rfl rfl _ _ rfl rfl rfl ?_)
  refine wp_region_held_drew (S := fun w' => (w'.heap[w.heap.size]? = some (.cells (tvv n ws) 26 (0, 0)) ∧ w'.heap[w1.heap.size]? = some (.cells (img LL) 98 (0, 0)) ∧ (∃ c, w'.heap[w.heap.size + 1]? = some (.cells c 26 (0, 0)) ∧ c.size = 8) ∧ Below w.heap.size w w')) (by kernel_rfl) ⟨hp_old A1.out, hp_new rfl, ⟨_, hp_old A2.out, rfl⟩, (bl_alloc HB.out _).drew⟩ (fun hS => ?_)
  have keep : ∀ {u v : World}, Below u.heap.size u v → (u.heap[w.heap.size]? = some (.cells (tvv n ws) 26 (0, 0)) ∧ u.heap[w1.heap.size]? = some (.cells (img LL) 98 (0, 0)) ∧ (∃ c, u.heap[w.heap.size + 1]? = some (.cells c 26 (0, 0)) ∧ c.size = 8) ∧ Below w.heap.size w u) → (v.heap[w.heap.size]? = some (.cells (tvv n ws) 26 (0, 0)) ∧ v.heap[w1.heap.size]? = some (.cells (img LL) 98 (0, 0)) ∧ (∃ c, v.heap[w.heap.size + 1]? = some (.cells c 26 (0, 0)) ∧ c.size = 8) ∧ Below w.heap.size w v) :=
    fun hb ⟨h1, h2, ⟨c, h3, h3'⟩, h4⟩ => ⟨hp_below' hb h1, hp_below' hb h2, ⟨c, hp_below' hb h3, h3'⟩, bl_then h4 hb⟩
  have hcut := cut_img w1.heap.size n hn
  refine any_take (i := 0) (v := ?v2) rfl (by kernel_rfl) (by kernel_rfl) (by kernel_rfl) (fun _ _ _ h => h) hS (.inl ⟨by rfl, ?y2⟩) ?_
  case y2 => (intro w' h'; go_simp; with_reducible rfl)
  (try simp only [Act.put, List.setIfInBounds_toArray, List.set_cons_zero, List.set_cons_succ])
  refine any_take (i := 1) (v := ?v3) rfl (by kernel_rfl) (by kernel_rfl) (by kernel_rfl) (fun _ _ _ h => h) hS (.inl ⟨by rfl, ?y3⟩) ?_
  case y3 => (intro w' h'; go_simp; with_reducible rfl)
  (try simp only [Act.put, List.setIfInBounds_toArray, List.set_cons_zero, List.set_cons_succ])
  refine any_take (i := 2) (v := ?v4) rfl (by kernel_rfl) (by kernel_rfl) (by kernel_rfl) (fun _ _ _ h => h) hS (.inl ⟨by rfl, ?y4⟩) ?_
  case y4 => (intro w' h'; go_simp; with_reducible rfl)
  (try simp only [Act.put, List.setIfInBounds_toArray, List.set_cons_zero, List.set_cons_succ])
  refine any_take (i := 3) (v := .pointer (some ⟨w.heap.size, 0, none⟩)) rfl (by kernel_rfl) (by kernel_rfl) (by kernel_rfl) (fun _ _ _ h => h) hS (yi_val (by rfl) (fun w' h' => ?y5)) ?_
  case y5 => first | rfl | (go_simp; done) | (go_simp; omega)
  (try simp only [Act.put, List.setIfInBounds_toArray, List.set_cons_zero, List.set_cons_succ])
  refine any_take (i := 4) (v := .int .i64 n) rfl (by kernel_rfl) (by kernel_rfl) (by kernel_rfl) (fun _ _ _ h => h) hS (yi_cell _ _ rfl (by rfl) ⟨w.heap.size, 0, none⟩ rfl _ Try.underlying3 rfl (fun w' h' => (cell_of_row _ _ _ _ _ _ h'.1).trans (tvv_zero _ _))) ?_
  (try simp only [Act.put, List.setIfInBounds_toArray, List.set_cons_zero, List.set_cons_succ])
  have hmin : min (n : Int) 64 = n := by omega
  have hmax : max 0 (n : Int) = n := by omega
  refine any_take (i := 5) (v := .int .i64 n) rfl (by kernel_rfl) (by kernel_rfl) (by kernel_rfl) (fun _ _ _ h => h) hS (yi_val (by rfl) (fun w' h' => ?y7)) ?_
  case y7 => first | rfl | (go_simp; done) | (go_simp; omega)
  (try simp only [Act.put, List.setIfInBounds_toArray, List.set_cons_zero, List.set_cons_succ])
  refine any_take (i := 6) (v := .int .i64 n) rfl (by kernel_rfl) (by kernel_rfl) (by kernel_rfl) (fun _ _ _ h => h) hS (yi_val (by rfl) (fun w' h' => ?y8)) ?_
  case y8 => first | rfl | (go_simp; done) | (go_simp; omega)
  (try simp only [Act.put, List.setIfInBounds_toArray, List.set_cons_zero, List.set_cons_succ])
  refine any_take (i := 7) (v := .slice (some ⟨w1.heap.size, 0, none⟩) n 64) rfl (by kernel_rfl) (by kernel_rfl) (by kernel_rfl) (fun _ _ _ h => h) hS (yi_val (by rfl) (fun w' h' => ?y9)) ?_
  case y9 => first | rfl | (go_simp; done) | (go_simp; omega)
  (try simp only [Act.put, List.setIfInBounds_toArray, List.set_cons_zero, List.set_cons_succ])
  refine any_take (i := 10) (v := .pointer (some ⟨w.heap.size, 0, none⟩)) rfl (by kernel_rfl) (by kernel_rfl) (by kernel_rfl) (fun _ _ _ h => h) hS (yi_val (by rfl) (fun w' h' => ?y10)) ?_
  case y10 => first | rfl | (go_simp; done) | (go_simp; omega)
  (try simp only [Act.put, List.setIfInBounds_toArray, List.set_cons_zero, List.set_cons_succ])
  refine any_take (i := 11) (v := .int .i64 n) rfl (by kernel_rfl) (by kernel_rfl) (by kernel_rfl) (fun _ _ _ h => h) hS (yi_cell _ _ rfl (by rfl) ⟨w.heap.size, 0, none⟩ rfl _ Try.underlying3 rfl (fun w' h' => (cell_of_row _ _ _ _ _ _ h'.1).trans (tvv_zero _ _))) ?_
  (try simp only [Act.put, List.setIfInBounds_toArray, List.set_cons_zero, List.set_cons_succ])
  have hCL : Kd.C (Kd.int .i64) (w1.alloc (.cells (img LL) 98)).drew (some ⟨w1.heap.size, 0, none⟩) n (zl L) := C_img (show (w1.alloc (.cells (img LL) 98)).drew.heap[w1.heap.size]? = _ from hp_new rfl) L n HP.out.len hn HLL.out (fun i hi => by rw [← HPL.out, padk_getD, if_pos ⟨hi, by omega⟩])
  refine any_call (i := 8) rfl (by kernel_rfl) (by rfl) 68 #[.slice (some ⟨w1.heap.size, 0, none⟩) n 64] ?x12 (chosen_any _ 64 L n HP.out.len HP.out.lt64 (by omega) _ hCL) ?_
  case x12 => (simp [go_sem])
  (try simp only [Act.put, List.setIfInBounds_toArray, List.set_cons_zero, List.set_cons_succ])
  rintro e w2 ⟨rfl, hb2⟩
  have hS2 := keep hb2 hS
  refine ⟨_, rfl, hS2, ?_⟩
  (try simp only [Act.put, List.setIfInBounds_toArray, List.set_cons_zero, List.set_cons_succ])
  rw [HBO.out]
  refine any_call (i := 9) rfl (by kernel_rfl) (by rfl) 72 #[.agg (sv (2 ^ n - 1))] ?x15 (size_any (2 ^ n - 1) n hn (oc_all ⟨n, by omega⟩) _) ?_
  case x15 => (simp [go_sem])
  (try simp only [Act.put, List.setIfInBounds_toArray, List.set_cons_zero, List.set_cons_succ])
  rintro e w3 ⟨rfl, hb3⟩
  have hS3 := keep hb3 hS2
  refine ⟨_, rfl, hS3, ?_⟩
  (try simp only [Act.put, List.setIfInBounds_toArray, List.set_cons_zero, List.set_cons_succ])
  refine any_take (i := 12) (v := .bool false) rfl (by kernel_rfl) (by kernel_rfl) (by kernel_rfl) (fun _ _ _ h => h) hS3 (yi_val (by rfl) (fun w' h' => ?y18)) ?_
  case y18 => first | rfl | (go_simp; done) | (go_simp; omega)
  (try simp only [Act.put, List.setIfInBounds_toArray, List.set_cons_zero, List.set_cons_succ])
  refine any_take (i := 13) (v := .bool false) rfl (by kernel_rfl) (by kernel_rfl) (by kernel_rfl) (fun _ _ _ h => h) hS3 (yi_val (by rfl) (fun w' h' => ?y19)) ?_
  case y19 => first | rfl | (go_simp; done) | (go_simp; omega)
  (try simp only [Act.put, List.setIfInBounds_toArray, List.set_cons_zero, List.set_cons_succ])
  refine wpAnyH_done (by kernel_rfl) ?_ _
  obtain ⟨q1, q2, ⟨cc, q3, q3'⟩, q4⟩ := hS3
  have Q1 := Lib.hid q1; have Q2 := Lib.hid q2; have Q3 := Lib.hid q3; have Q3' := Lib.hid q3'; have Q4 := Lib.hid q4
  clear hS hS2 hb2 hb3 q1 q2 q3 q3' q4 keep hCL hcut hmin hmax A1 A2 HB
  have hlt : w.heap.size < w3.heap.size := hp_lt Q1.out
  have c0 : w3.cell? ⟨w.heap.size, 0, none⟩ = some (.int .i64 n) := by rw [cell_of_row _ _ _ _ _ _ Q1.out, HZ.out]
  go_wp2
  have HF : Hid (w3.heap.size ≠ w1.heap.size ∧ w3.heap.size ≠ w.heap.size + 1) := Lib.hid (by have h1 := hp_lt Q2.out; have h2 := hp_lt Q3.out; omega)
  go_loopw [30] (fun i wr => ∃ k : Nat, k ≤ n ∧ i = .int .i64 k ∧ Hid (wr.heap[w3.heap.size]? = some (.cells (img (bk L n k)) 98 (0, 0)) ∧ wr.heap[w.heap.size]? = some (.cells (tvv n ws) 26 (0, 0)) ∧ wr.heap[w1.heap.size]? = some (.cells (img LL) 98 (0, 0)) ∧ wr.heap[w.heap.size + 1]? = some (.cells cc 26 (0, 0)) ∧ Below w.heap.size w wr)) (fun i _ => n - (intOf i).toNat)
  case atStart =>
    refine ⟨0, by omega, rfl, Lib.hid ⟨?_, hp_old Q1.out, hp_old Q2.out, hp_old Q3.out, bl_alloc Q4.out _⟩⟩
    rw [bk_zero, ← zeros_img]; exact hp_new rfl
  case round =>
    obtain ⟨k, hk, rfl, H⟩ := hrel
    obtain ⟨g1, g2, g3, g4, g5⟩ := H.out
    have G1 := Lib.hid g1; have G2 := Lib.hid g2; have G3 := Lib.hid g3; have G4 := Lib.hid g4; have G5 := Lib.hid g5
    clear g1 g2 g3 g4 g5 H
    by_cases hkn : k < n
    · have hy := HP.out.lt k hkn
      have hy64 : L.getD k 0 < 64 := by omega
      have hk64 : k < 64 := by omega
      have c1 : wr.cell? ⟨w1.heap.size, k, none⟩ = some (.int .i64 ((L.getD k 0 : Nat) : Int)) := by
        rw [cell_of_row _ _ _ _ _ _ G3.out, img_get _ _ (by rw [HLL.out]; omega), ← HPL.out, padk_getD, if_pos ⟨hkn, hk64⟩]
      have f1 : wr.frozen? ⟨w3.heap.size, L.getD k 0, none⟩ = false := frozen_of_row _ _ _ _ _ G1.out
      have c2 : wr.cell? ⟨w3.heap.size, L.getD k 0, none⟩ = some (.int .i64 (((bk L n k).getD (L.getD k 0) 0 : Nat) : Int)) := by rw [cell_of_row _ _ _ _ _ _ G1.out, img_get _ _ (by rw [bk_len]; exact hy64)]
      have H2 : Hid ((wr.setCell ⟨w3.heap.size, L.getD k 0, none⟩ (.int .i64 k)).heap[w3.heap.size]? = some (.cells (img (bk L n (k + 1))) 98 (0, 0)) ∧ (wr.setCell ⟨w3.heap.size, L.getD k 0, none⟩ (.int .i64 k)).heap[w.heap.size]? = some (.cells (tvv n ws) 26 (0, 0)) ∧ (wr.setCell ⟨w3.heap.size, L.getD k 0, none⟩ (.int .i64 k)).heap[w1.heap.size]? = some (.cells (img LL) 98 (0, 0)) ∧ (wr.setCell ⟨w3.heap.size, L.getD k 0, none⟩ (.int .i64 k)).heap[w.heap.size + 1]? = some (.cells cc 26 (0, 0)) ∧ Below w.heap.size w (wr.setCell ⟨w3.heap.size, L.getD k 0, none⟩ (.int .i64 k))) := by
        refine Lib.hid ⟨?_, hp_cell (by show w.heap.size ≠ w3.heap.size; omega) G2.out, hp_cell (by show w1.heap.size ≠ w3.heap.size; have := HF.out.1; omega) G3.out, hp_cell (by show w.heap.size + 1 ≠ w3.heap.size; have := HF.out.2; omega) G4.out, bl_cell G5.out (by show w.heap.size ≤ w3.heap.size; omega) _⟩
        rw [heap_setCell_same _ _ _ _ _ _ G1.out, img_set, bk_set HP.out hkn]
      clear c0
      generalize (bk L n k).getD (L.getD k 0) 0 = z at *
      generalize L.getD k 0 = y at *
      go_wp2
      go_roundw
      case rel => exact ⟨k + 1, by omega, by go_num, H2⟩
      case measure => simp [intOf]; omega
    · have e8 : k = n := by omega
      subst e8
      have c1 : wr.cell? ⟨w.heap.size, 0, none⟩ = some (.int .i64 k) := by rw [cell_of_row _ _ _ _ _ _ G2.out, HZ.out]
      clear c0
      go_wp2_with (refine ld_im w3.heap.size (bk_len _ _ _) G1.out rfl _ rfl rfl ?_)
      refine (pack_any k (bk L k k) hn (bk_len _ _ _) (bk_lt hn k (Nat.le_refl _)) _).mono ?_
      rintro e w4 ⟨rfl, hb⟩
      rw [HEND.out]
      have K4 := Lib.hid (hp_below' hb G4.out)
      have K5 := Lib.hid (bl_then G5.out hb)
      clear hb
      go_wp2_with (refine st_tr (w.heap.size + 1) (pks_len _ _) K4.out Q3'.out rfl _ _ rfl rfl rfl ?_)
      refine bodyPost_ret (v := .tuple #[.agg (tvv k (pks (inv k L) k)), .int .i64 0]) ?_ rfl ⟨rfl, bl_row K5.out (by omega) _⟩
      refine (results_cell_tmp (p := 2) (t := 3) (by rfl) _ _ (w.heap.size + 1) 26 _ _ _ ?_ (setRow_heap _ _ _ _ _ _ K4.out) Try.underlying26 rfl (tr_z _ _ (pks_len _ _))).trans ?_ <;> rfl
end Go.Proofs.Ytpebnldoimoahaa

namespace Go.Proofs.Ytpebnldoimoahaa
namespace Pop
/-- k bytes, each m. -/
def M (m : Nat) : Nat → Nat
  | 0 => 0
  | k + 1 => m + 256 * M m k
theorem add_bit {b : Nat} (a : Nat) (hb : b < 256) (j : Nat) : (b + 256 * a).testBit j = if j < 8 then b.testBit j else a.testBit (j - 8) := by
  have := Nat.testBit_two_pow_mul_add a (i := 8) (b := b) hb j
  rw [show (2 : Nat) ^ 8 = 256 from rfl] at this
  rw [Nat.add_comm]; exact this
theorem and_cut (x m Y : Nat) (hm : m < 256) : x &&& (m + 256 * Y) = (x % 256 &&& m) + 256 * (x / 256 &&& Y) := by
  apply Nat.eq_of_testBit_eq
  intro j
  have h1 : (x % 256 &&& m) < 256 := Nat.lt_of_le_of_lt Nat.and_le_right hm
  have hx : x = x % 256 + 256 * (x / 256) := by omega
  rw [add_bit _ h1, Nat.testBit_and, add_bit _ hm]
  conv => lhs; rw [hx, add_bit _ (Nat.mod_lt _ (by decide))]
  split <;> rw [Nat.testBit_and]
theorem M_succ (m k : Nat) : M m (k + 1) = m + 256 * M m k := rfl
def s1 (b : Nat) : Nat := (b / 2 &&& 85) + (b &&& 85)
def s2 (b : Nat) : Nat := (b / 4 &&& 51) + (b &&& 51)
def s3 (b : Nat) : Nat := (b / 16 + b) &&& 15
def S1 (k x : Nat) : Nat := (x / 2 &&& M 85 k) + (x &&& M 85 k)
def S2 (k x : Nat) : Nat := (x / 4 &&& M 51 k) + (x &&& M 51 k)
def S3 (k x : Nat) : Nat := (x / 16 + x) &&& M 15 k
theorem byte1 : ∀ b : Fin 256, ∀ t : Fin 2, ((b.val / 2 + 128 * t.val) &&& 85) = (b.val / 2 &&& 85) := by decide +kernel
theorem byte2 : ∀ b : Fin 256, ∀ t : Fin 4, ((b.val / 4 + 64 * t.val) &&& 51) = (b.val / 4 &&& 51) := by decide +kernel
theorem S1_cut (k x : Nat) : S1 (k + 1) x = s1 (x % 256) + 256 * S1 k (x / 256) := by
  unfold S1 s1
  rw [M_succ, and_cut _ _ _ (by decide), and_cut _ _ _ (by decide)]
  have e1 : (x / 2) % 256 = (x % 256) / 2 + 128 * ((x / 256) % 2) := by omega
  have e2 : (x / 2) / 256 = (x / 256) / 2 := by omega
  have h := byte1 ⟨x % 256, Nat.mod_lt _ (by decide)⟩ ⟨(x / 256) % 2, Nat.mod_lt _ (by decide)⟩
  dsimp only at h
  rw [e1, e2, h]
  omega
theorem S2_cut (k x : Nat) : S2 (k + 1) x = s2 (x % 256) + 256 * S2 k (x / 256) := by
  unfold S2 s2
  rw [M_succ, and_cut _ _ _ (by decide), and_cut _ _ _ (by decide)]
  have e1 : (x / 4) % 256 = (x % 256) / 4 + 64 * ((x / 256) % 4) := by omega
  have e2 : (x / 4) / 256 = (x / 256) / 4 := by omega
  have h := byte2 ⟨x % 256, Nat.mod_lt _ (by decide)⟩ ⟨(x / 256) % 4, Nat.mod_lt _ (by decide)⟩
  dsimp only at h
  rw [e1, e2, h]
  omega
theorem s1_lt : ∀ b : Fin 256, s1 b.val < 256 := by decide +kernel
theorem s2_ok : ∀ b : Fin 256, s2 (s1 b.val) < 256 ∧ s2 (s1 b.val) % 16 ≤ 4 ∧ s2 (s1 b.val) / 16 ≤ 4 := by decide +kernel
def pop (b : Nat) : Nat := s3 (s2 (s1 b))
theorem pop_le : ∀ b : Fin 256, pop b.val ≤ 8 := by decide +kernel
theorem byte3 : ∀ c : Fin 69, ∀ t : Fin 5, ((c.val / 16 + 16 * t.val + c.val) &&& 15) = s3 c.val := by decide +kernel
/-- The digits to the base 256. -/
def D : Nat → Nat → Nat
  | 0, _ => 0
  | k + 1, x => pop (x % 256) + 256 * D k (x / 256)
theorem S12 (k x : Nat) : S2 (k + 1) (S1 (k + 1) x) = s2 (s1 (x % 256)) + 256 * S2 k (S1 k (x / 256)) := by
  have h1 := s1_lt ⟨x % 256, Nat.mod_lt _ (by decide)⟩
  dsimp only at h1
  rw [S2_cut, S1_cut]
  rw [show (s1 (x % 256) + 256 * S1 k (x / 256)) % 256 = s1 (x % 256) by omega, show (s1 (x % 256) + 256 * S1 k (x / 256)) / 256 = S1 k (x / 256) by omega]
theorem S12_low (k x : Nat) : S2 k (S1 k x) % 16 ≤ 4 := by
  cases k with
  | zero => simp [S2, S1, M]
  | succ k =>
    rw [S12]
    have h := s2_ok ⟨x % 256, Nat.mod_lt _ (by decide)⟩
    dsimp only at h
    omega
theorem digits (k : Nat) : ∀ x, S3 k (S2 k (S1 k x)) = D k x := by
  induction k with
  | zero => intro x; simp [S3, M, D]
  | succ k ih =>
    intro x
    have h := s2_ok ⟨x % 256, Nat.mod_lt _ (by decide)⟩
    have hl := S12_low k (x / 256)
    dsimp only at h
    unfold D pop
    rw [S12, ← ih]
    generalize hc : s2 (s1 (x % 256)) = c at *
    generalize S2 k (S1 k (x / 256)) = R at *
    unfold S3
    rw [M_succ, and_cut _ _ _ (by decide)]
    have e1 : ((c + 256 * R) / 16 + (c + 256 * R)) % 256 = c / 16 + 16 * (R % 16) + c := by omega
    have e2 : ((c + 256 * R) / 16 + (c + 256 * R)) / 256 = R / 16 + R := by omega
    have h3 := byte3 ⟨c, by omega⟩ ⟨R % 16, by omega⟩
    dsimp only at h3
    rw [e1, e2, h3]
/-- How many of the first N bits are set. -/
def cnt (x : Nat) : Nat → Nat
  | 0 => 0
  | n + 1 => cnt x n + (x.testBit n).toNat
theorem cnt8 : ∀ b : Fin 256, pop b.val = cnt b.val 8 := by decide +kernel
theorem cnt_mod (x : Nat) : ∀ n, n ≤ 8 → cnt (x % 256) n = cnt x n
  | 0, _ => rfl
  | n + 1, h => by
    unfold cnt
    rw [cnt_mod x n (by omega), show (256 : Nat) = 2 ^ 8 from rfl, Nat.testBit_mod_two_pow, decide_eq_true (by omega : n < 8), Bool.true_and]
theorem cnt_div (x : Nat) : ∀ n, cnt x (8 + n) = cnt x 8 + cnt (x / 256) n
  | 0 => rfl
  | n + 1 => by
    show cnt x (8 + n) + (x.testBit (8 + n)).toNat = cnt x 8 + (cnt (x / 256) n + ((x / 256).testBit n).toNat)
    rw [cnt_div x n, show (256 : Nat) = 2 ^ 8 from rfl, Nat.testBit_div_two_pow]
    rw [Nat.add_comm 8 n]; omega
def sumD : Nat → Nat → Nat
  | 0, _ => 0
  | k + 1, x => pop (x % 256) + sumD k (x / 256)
theorem sumD_cnt (k : Nat) : ∀ x, sumD k x = cnt x (8 * k) := by
  induction k with
  | zero => intro x; rfl
  | succ k ih =>
    intro x
    have h := cnt8 ⟨x % 256, Nat.mod_lt _ (by decide)⟩
    dsimp only at h
    show pop (x % 256) + sumD k (x / 256) = _
    rw [ih, h, cnt_mod x 8 (by omega), show 8 * (k + 1) = 8 + 8 * k by omega, cnt_div]
/-- The last three steps: all digits come to the lowest. -/
def ocN (x : Nat) : Nat :=
  let c := S3 8 (S2 8 (S1 8 x))
  let d := c + c / 256
  let e := d + d / 65536
  let f := e + e / 4294967296
  f % 128
theorem pop_le' (b : Nat) (h : b < 256) : pop b ≤ 8 := pop_le ⟨b, h⟩
theorem ocN_cnt (x : Nat) : ocN x = cnt x 64 := by
  rw [show (64 : Nat) = 8 * 8 from rfl, ← sumD_cnt]
  unfold ocN
  rw [digits]
  simp only [D, sumD]
  have h0 := pop_le' (x % 256) (Nat.mod_lt _ (by decide))
  have h1 := pop_le' (x / 256 % 256) (Nat.mod_lt _ (by decide))
  have h2 := pop_le' (x / 256 / 256 % 256) (Nat.mod_lt _ (by decide))
  have h3 := pop_le' (x / 256 / 256 / 256 % 256) (Nat.mod_lt _ (by decide))
  have h4 := pop_le' (x / 256 / 256 / 256 / 256 % 256) (Nat.mod_lt _ (by decide))
  have h5 := pop_le' (x / 256 / 256 / 256 / 256 / 256 % 256) (Nat.mod_lt _ (by decide))
  have h6 := pop_le' (x / 256 / 256 / 256 / 256 / 256 / 256 % 256) (Nat.mod_lt _ (by decide))
  have h7 := pop_le' (x / 256 / 256 / 256 / 256 / 256 / 256 / 256 % 256) (Nat.mod_lt _ (by decide))
  generalize pop (x % 256) = p0 at *
  generalize pop (x / 256 % 256) = p1 at *
  generalize pop (x / 256 / 256 % 256) = p2 at *
  generalize pop (x / 256 / 256 / 256 % 256) = p3 at *
  generalize pop (x / 256 / 256 / 256 / 256 % 256) = p4 at *
  generalize pop (x / 256 / 256 / 256 / 256 / 256 % 256) = p5 at *
  generalize pop (x / 256 / 256 / 256 / 256 / 256 / 256 % 256) = p6 at *
  generalize pop (x / 256 / 256 / 256 / 256 / 256 / 256 / 256 % 256) = p7 at *
  clear x
  obtain ⟨c7, k7⟩ : ∃ c, c = p7 + 256 * 0 := ⟨_, rfl⟩
  obtain ⟨c6, k6⟩ : ∃ c, c = p6 + 256 * c7 := ⟨_, rfl⟩
  obtain ⟨c5, k5⟩ : ∃ c, c = p5 + 256 * c6 := ⟨_, rfl⟩
  obtain ⟨c4, k4⟩ : ∃ c, c = p4 + 256 * c5 := ⟨_, rfl⟩
  obtain ⟨c3, k3⟩ : ∃ c, c = p3 + 256 * c4 := ⟨_, rfl⟩
  obtain ⟨c2, k2⟩ : ∃ c, c = p2 + 256 * c3 := ⟨_, rfl⟩
  obtain ⟨c1, k1⟩ : ∃ c, c = p1 + 256 * c2 := ⟨_, rfl⟩
  rw [← k7, ← k6, ← k5, ← k4, ← k3, ← k2, ← k1]
  have e1 : (p0 + 256 * c1) / 256 = c1 := by clear k1 k2 k3 k4 k5 k6 k7; omega
  rw [e1]
  have e2 : (p0 + 256 * c1 + c1) / 65536 = c2 + c3 := by
    clear k3 k4 k5 k6 k7; rw [k1, k2]; omega
  rw [e2]
  have e3 : (p0 + 256 * c1 + c1 + (c2 + c3)) / 4294967296 = c4 + c5 + c6 + c7 := by
    rw [k1, k2, k3, k4, k5, k6]; clear k1 k2 k3 k4 k5 k6 k7; omega
  rw [e3]
  omega
end Pop
end Go.Proofs.Ytpebnldoimoahaa

namespace Go.Proofs.Ytpebnldoimoahaa
open Go.RowKit Go.Proofs.YtpebnldoimoahaaW.PrintWords
theorem and_le (x m : Nat) : x &&& m ≤ m := Nat.and_le_right
theorem ocF_cnt (x : Nat) (hx : x < 18446744073709551616) : ocF (x : Int) = ((Pop.cnt x 64 : Nat) : Int) := by
  have m1 : Pop.M 85 8 = 6148914691236517205 := by decide
  have m2 : Pop.M 51 8 = 3689348814741910323 := by decide
  have m3 : Pop.M 15 8 = 1085102592571150095 := by decide
  have hA : IntKind.u64.wrap ((bits .and .u64 ((x : Int) / 2) 6148914691236517205) + (bits .and .u64 (x : Int) 6148914691236517205)) = ((Pop.S1 8 x : Nat) : Int) := by
    have a1 := bits_and_u64_nat (x / 2) 6148914691236517205 (by omega) (by omega)
    have a2 := bits_and_u64_nat x 6148914691236517205 (by omega) (by omega)
    have b1 := and_le (x / 2) 6148914691236517205
    have b2 := and_le x 6148914691236517205
    rw [show ((6148914691236517205 : Nat) : Int) = 6148914691236517205 from rfl] at a1 a2
    rw [show (x : Int) / 2 = ((x / 2 : Nat) : Int) by norm_cast, a1, a2]
    rw [IntWalk.u64_in _ ⟨by omega, by omega⟩]
    unfold Pop.S1; rw [m1]; push_cast; rfl
  have lA : Pop.S1 8 x ≤ 12297829382473034410 := by
    unfold Pop.S1; rw [m1]
    have b1 := and_le (x / 2) 6148914691236517205
    have b2 := and_le x 6148914691236517205
    omega
  have hB : IntKind.u64.wrap ((bits .and .u64 (((Pop.S1 8 x : Nat) : Int) / 4) 3689348814741910323) + (bits .and .u64 ((Pop.S1 8 x : Nat) : Int) 3689348814741910323)) = ((Pop.S2 8 (Pop.S1 8 x) : Nat) : Int) := by
    generalize Pop.S1 8 x = y at *
    have a1 := bits_and_u64_nat (y / 4) 3689348814741910323 (by omega) (by omega)
    have a2 := bits_and_u64_nat y 3689348814741910323 (by omega) (by omega)
    have b1 := and_le (y / 4) 3689348814741910323
    have b2 := and_le y 3689348814741910323
    rw [show ((3689348814741910323 : Nat) : Int) = 3689348814741910323 from rfl] at a1 a2
    rw [show (y : Int) / 4 = ((y / 4 : Nat) : Int) by norm_cast, a1, a2]
    rw [IntWalk.u64_in _ ⟨by omega, by omega⟩]
    unfold Pop.S2; rw [m2]; push_cast; rfl
  have lB : Pop.S2 8 (Pop.S1 8 x) ≤ 7378697629483820646 := by
    unfold Pop.S2; rw [m2]
    have b1 := and_le (Pop.S1 8 x / 4) 3689348814741910323
    have b2 := and_le (Pop.S1 8 x) 3689348814741910323
    omega
  have hC : bits .and .u64 (IntKind.u64.wrap ((((Pop.S2 8 (Pop.S1 8 x) : Nat) : Int) / 16) + ((Pop.S2 8 (Pop.S1 8 x) : Nat) : Int))) 1085102592571150095 = ((Pop.S3 8 (Pop.S2 8 (Pop.S1 8 x)) : Nat) : Int) := by
    generalize Pop.S2 8 (Pop.S1 8 x) = y at *
    have a1 := bits_and_u64_nat (y / 16 + y) 1085102592571150095 (by omega) (by omega)
    rw [show ((1085102592571150095 : Nat) : Int) = 1085102592571150095 from rfl] at a1
    rw [IntWalk.u64_in _ ⟨by omega, by omega⟩, show (y : Int) / 16 + y = ((y / 16 + y : Nat) : Int) by norm_cast, a1]
    unfold Pop.S3; rw [m3]
  have lC : Pop.S3 8 (Pop.S2 8 (Pop.S1 8 x)) ≤ 1085102592571150095 := by
    unfold Pop.S3; rw [m3]; exact and_le _ _
  rw [← Pop.ocN_cnt]
  unfold ocF Pop.ocN
  rw [hA, hB, hC]
  generalize Pop.S3 8 (Pop.S2 8 (Pop.S1 8 x)) = c at *
  clear hA lA hB lB hC m1 m2 m3
  have hd : IntKind.u64.wrap ((c : Int) + (c : Int) / 256) = ((c + c / 256 : Nat) : Int) := by
    rw [IntWalk.u64_in _ ⟨by omega, by omega⟩]; omega
  rw [hd]
  have ld : c + c / 256 ≤ 1100000000000000000 := by omega
  dsimp only
  generalize c + c / 256 = d at *
  have he : IntKind.u64.wrap ((d : Int) + (d : Int) / 65536) = ((d + d / 65536 : Nat) : Int) := by
    rw [IntWalk.u64_in _ ⟨by omega, by omega⟩]; omega
  rw [he]
  have le : d + d / 65536 ≤ 1200000000000000000 := by omega
  generalize d + d / 65536 = e at *
  have hf : IntKind.u64.wrap ((e : Int) + (e : Int) / 4294967296) = ((e + e / 4294967296 : Nat) : Int) := by
    rw [IntWalk.u64_in _ ⟨by omega, by omega⟩]; omega
  rw [hf]
  have lf : e + e / 4294967296 ≤ 1300000000000000000 := by omega
  generalize e + e / 4294967296 = f at *
  rw [IntWalk.wrap64_in _ ⟨by omega, by omega⟩]
  rw [i64_and127]
  omega
theorem cnt_le (x : Nat) : ∀ n, Pop.cnt x n ≤ n
  | 0 => Nat.le_refl _
  | n + 1 => by
    have := cnt_le x n
    have h : (x.testBit n).toNat ≤ 1 := Bool.toNat_le _
    show Pop.cnt x n + (x.testBit n).toNat ≤ n + 1
    omega
/-- Size of any set of numbers below 64. -/
theorem size_cnt (x : Nat) (hx : x < 18446744073709551616) (w : World) : Calls Try.prog 72 #[.agg (sv x)] w fun e w' => e = .returned (.int .i64 ((Pop.cnt x 64 : Nat) : Int)) ∧ Below w.heap.size w w' :=
  size_any x (Pop.cnt x 64) (cnt_le x 64) (ocF_cnt x hx) w
/-- The count of a list's set is n just if the list of n numbers below n has each once. -/
theorem cnt_pos {x n : Nat} (h : ∀ i, i < n → x.testBit i = true) : Pop.cnt x n = n := by
  induction n with
  | zero => rfl
  | succ n ih =>
    show Pop.cnt x n + (x.testBit n).toNat = n + 1
    rw [ih (fun i hi => h i (by omega)), h n (by omega)]; rfl
theorem cnt_stay {x n : Nat} (h : ∀ i, n ≤ i → x.testBit i = false) : ∀ m, Pop.cnt x (n + m) = Pop.cnt x n
  | 0 => rfl
  | m + 1 => by
    show Pop.cnt x (n + m) + (x.testBit (n + m)).toNat = _
    rw [cnt_stay h m, h (n + m) (by omega)]; rfl
theorem cnt_full {x n : Nat} (h : Pop.cnt x n = n) : ∀ i, i < n → x.testBit i = true := by
  induction n with
  | zero => intro i hi; omega
  | succ n ih =>
    have h1 : Pop.cnt x n + (x.testBit n).toNat = n + 1 := h
    have h2 := cnt_le x n
    have h3 : (x.testBit n).toNat ≤ 1 := Bool.toNat_le _
    intro i hi
    by_cases e : i = n
    · subst e
      cases hb : x.testBit i
      · rw [hb] at h1; simp at h1; omega
      · rfl
    · exact ih (by omega) i (by omega)
theorem bo_lt64 {L : List Nat} {n : Nat} (hlt : ∀ x ∈ L, x < n) (hn : n ≤ 64) : bo L < 18446744073709551616 := by
  rw [show (18446744073709551616 : Nat) = 2 ^ 64 from rfl]
  apply Nat.lt_pow_two_of_testBit
  intro i hi
  rw [bo_bit]
  simp only [decide_eq_false_iff_not]
  intro hm
  have := hlt i hm
  omega
theorem sub_len : ∀ (l l' : List Nat), l.Nodup → (∀ x ∈ l, x ∈ l') → l.length ≤ l'.length
  | [], _, _, _ => Nat.zero_le _
  | x :: t, l', hn, hs => by
    obtain ⟨h1, h2⟩ := List.nodup_cons.1 hn
    have hx : x ∈ l' := hs x (by simp)
    have := sub_len t (l'.erase x) h2 (fun y hy => (List.mem_erase_of_ne (fun e => h1 (by rw [← e]; exact hy))).2 (hs y (by simp [hy])))
    rw [List.length_erase_of_mem hx] at this
    have hp : 0 < l'.length := List.length_pos_of_mem hx
    simp only [List.length_cons]
    omega
theorem nodup_of_all : ∀ (l : List Nat) (n : Nat), l.length = n → (∀ i, i < n → i ∈ l) → l.Nodup := by
  intro l n hl h
  rw [List.nodup_iff_pairwise_ne, List.pairwise_iff_getElem]
  intro i j hi hj hij e
  have h1 := sub_len (List.range n) (l.eraseIdx j) List.nodup_range (fun x hx => by
    have hxl := h x (List.mem_range.1 hx)
    obtain ⟨k, hk, rfl⟩ := List.mem_iff_getElem.1 hxl
    rw [List.mem_eraseIdx_iff_getElem?]
    by_cases hkj : k = j
    · subst hkj
      exact ⟨i, by omega, by rw [List.getElem?_eq_getElem hi, e]⟩
    · exact ⟨k, hkj, List.getElem?_eq_getElem hk⟩)
  rw [List.length_range, List.length_eraseIdx_of_lt hj] at h1
  omega
theorem cnt_iff {L : List Nat} {n : Nat} (hl : L.length = n) (hlt : ∀ x ∈ L, x < n) (hn : n ≤ 64) : Pop.cnt (bo L) 64 = n ↔ L.Nodup := by
  have h1 : Pop.cnt (bo L) 64 = Pop.cnt (bo L) n := by
    have := cnt_stay (x := bo L) (n := n) (fun i hi => by
      rw [bo_bit]
      simp only [decide_eq_false_iff_not]
      intro hm
      have := hlt i hm
      omega) (64 - n)
    rwa [show n + (64 - n) = 64 by omega] at this
  rw [h1]
  constructor
  · intro h
    exact nodup_of_all L n hl (fun i hi => by have := cnt_full h i hi; rw [bo_bit] at this; simpa using this)
  · intro h
    refine cnt_pos (fun i hi => ?_)
    rw [bo_bit]
    simp only [decide_eq_true_eq]
    apply Classical.byContradiction
    intro hno
    have := nodup_le n (i :: L) (List.nodup_cons.2 ⟨hno, h⟩) (fun x hx => by
      rcases List.mem_cons.1 hx with rfl | hx
      · exact hi
      · exact hlt x hx)
    rw [List.length_cons, hl] at this
    omega
end Go.Proofs.Ytpebnldoimoahaa

namespace Go.Proofs.Ytpebnldoimoahaa
open Go.RowKit Go.Proofs.YtpebnldoimoahaaW.PrintWords
set_option linter.unusedSimpArgs false
set_option linter.unusedVariables false
theorem cut_all (g : Nat) : ∀ W : World, (Instr.sliceAt 98 (.pointer (some ⟨g, 0, none⟩)) none none none).run Try.prog W = .ok (.slice (some ⟨g, 0, none⟩) 64 64) W := by
  intro W
  have hl : Try.prog.arrayLen 98 = 64 := by kernel_rfl
  have he : Try.prog.elem 98 = 3 := by kernel_rfl
  have hu : Try.prog.underlying 98 = some (.array (Try.prog.arrayLen 98) (Try.prog.elem 98)) := by rw [hl, he]; exact Try.underlying98
  obtain ⟨i, hi⟩ := info_of_underlying (P := Try.prog) Try.underlying3
  rw [run_sliceAt_array_all W _ _ hu, hl, he]
  have ha : (⟨g, 0, none⟩ : Addr).add 0 = ⟨g, 0, none⟩ := by simp [Addr.add]
  simp [sizeOf, typeInfo, hi, slicedAt, Result.andThen, ha]
set_option maxRecDepth 100000 in
set_option maxHeartbeats 2000000 in
theorem list_any (n : Int) (ws : List Nat) (hl : ws.length = 7) (hw : Hid (∀ i, ws.getD i 0 < 18446744073709551616)) (w : World) :
    Calls Try.prog 44 #[.agg (tvv n ws)] w (RlR (lsT (goodT n ws) n.toNat ws) (chkE (goodT n ws)) w) := by
  have HL := Lib.hid hl; clear hl
  have HZ := Lib.hid (tvv_zero n ws)
  go_enter Try.func44, Try.ntmps44
  go_wp2_with (refine ld_tr w.heap.size HL.out (hp_new rfl) rfl _ rfl rfl ?_)
  refine (open_any n ws HL.out hw _).mono ?_
  rintro e w1 ⟨L, hl, rfl, hi, hb⟩
  have HLL := Lib.hid hl; have HI := Lib.hid hi
  have A1 := Lib.hid (hp_below' hb (hp_new (w := w) (o := .cells (tvv n ws) 26) rfl))
  have HB := Lib.hid (bl_then (bl_alloc (Below.refl _ w) _) hb)
  clear hi hl hb
  have B1 := Lib.hid (hp_old (o := .cells (img L) 98) A1.out)
  have B3 := Lib.hid (hp_new (w := w1) (o := .cells (img L) 98) rfl)
  have D1 : (w1.alloc (.cells (img L) 98)).cell? ⟨w.heap.size, 0, none⟩ = some (.int .i64 n) := by rw [cell_of_row _ _ _ _ _ _ B1.out, HZ.out]
  generalize hgb : goodT n ws = b at *
  have HGB := Lib.hid hgb; clear hgb
  cases b with
  | false =>
    go_wp2_with (refine st_im_new HLL.out rfl rfl _ _ rfl rfl rfl ?_)
    go_ret2
    exact ⟨_, rfl, Kd.R_nil _ _ _ _ _, bl_alloc HB.out _⟩
  | true =>
    obtain ⟨hn1, hn64, _, _⟩ := goodT_spec HGB.out
    obtain ⟨m, rfl⟩ := Int.eq_ofNat_of_zero_le (show 0 ≤ n by omega)
    obtain rfl := HI.out rfl
    rw [Int.toNat_natCast] at *
    have hm : m ≤ 64 := by omega
    have hm1 : 1 ≤ m := by omega
    clear hn1 hn64 HI
    have HFN : Hid ((zl (ims m ws)).take (min 64 (zl (List.replicate m 0)).length) ++ (zl (List.replicate m 0)).drop (min 64 (zl (List.replicate m 0)).length) = zl (lsT true m ws)) := Lib.hid (by
      rw [zl_len, List.length_replicate, Nat.min_eq_right hm, List.drop_eq_nil_of_le (by rw [zl_len]; simp), List.append_nil]
      apply List.ext_getElem (by simp [zl, lsT, imk_len, ims_len]; omega)
      intro i h1 h2
      have hi : i < m := by simp [zl, lsT, imk_len] at h2; exact h2
      have e1 := imk_getD m ws i hi
      have e2 := ims_getD m ws i
      rw [if_pos ⟨hi, by omega⟩] at e2
      have k1 : i < (ims m ws).length := by rw [ims_len]; omega
      have k2 : i < (imk m ws).length := by rw [imk_len]; omega
      rw [List.getD_eq_getElem?_getD, List.getElem?_eq_getElem k1] at e2
      rw [List.getD_eq_getElem?_getD, List.getElem?_eq_getElem k2] at e1
      simp only [Option.getD_some] at e1 e2
      simp [zl, lsT, e1, e2])
    generalize ims m ws = L at *
    have hcut := cut_all w1.heap.size
    have hsz : w.heap.size < w1.heap.size := hp_lt A1.out
    have HO : Hid (Own ((w1.alloc (.cells (img L) 98)).alloc (.cells (img (List.replicate m 0)) 3)) w.heap.size (.slice (some ⟨w1.heap.size + 1, 0, none⟩) m m) (zl (List.replicate m 0))) :=
      Lib.hid (own_img (hp_new (by simp)) (by omega) (by simp) (by omega))
    have HC : Hid (Kd.C (Kd.int .i64) ((w1.alloc (.cells (img L) 98)).alloc (.cells (img (List.replicate m 0)) 3)) (some ⟨w1.heap.size, 0, none⟩) 64 (zl L)) :=
      Lib.hid (C_img (hp_old B3.out) L 64 HLL.out (by omega) HLL.out (fun i hi => rfl))
    have hinf : (Try.prog.info? 3).map (·.size) = some 1 := by kernel_rfl
    go_wp2_with (first | (refine st_im_new HLL.out rfl rfl _ _ rfl rfl rfl ?_) | (refine wpl_make m (by omega) rfl _ _ rfl rfl rfl ?_) | (refine Kd.R_copy (0 : Int) (w0 := w) w.heap.size rfl (.tmp 17) (.tmp 18) 22 22 3 rfl Try.underlying22 hinf _ _ (zl L) (some ⟨w1.heap.size, 0, none⟩) 64 64 _ rfl rfl HO.out HC.out (bl_alloc (bl_alloc HB.out _) _) (by simp; omega) ?_; intro w2 hr hb hg; have HR2 := Aside0.mk hr; have HB2 := Lib.hid hb; clear hr hb hg))
    go_ret2
    refine ⟨_, rfl, ?_, HB2.out⟩
    have := HR2.out
    rw [HFN.out] at this
    exact this
/-- One image. -/
def atV (g : Bool) (n : Int) (ws : List Nat) (i : Int) : Nat := if g then (if 0 ≤ i ∧ i < n then im ws i.toNat else 0) else 0
def atE (g : Bool) (n : Int) (i : Int) : Int := if g then (if 0 ≤ i ∧ i < n then 0 else 3) else 130
set_option maxRecDepth 100000 in
set_option maxHeartbeats 2000000 in
theorem tat_any (n : Int) (ws : List Nat) (i : Int) (hl : ws.length = 7) (hw : Hid (∀ i, ws.getD i 0 < 18446744073709551616)) (w : World) :
    Calls Try.prog 45 #[.agg (tvv n ws), .int .i64 i] w fun e w' => e = .returned (.tuple #[.int .i64 ((atV (goodT n ws) n ws i : Nat) : Int), .int .i64 (atE (goodT n ws) n i)]) ∧ Below w.heap.size w w' := by
  have HL := Lib.hid hl; clear hl
  have HZ := Lib.hid (tvv_zero n ws)
  generalize hgb : goodT n ws = b at *
  have HGB := Lib.hid hgb; clear hgb
  have HOP := Aside0.mk (open_any n ws HL.out hw)
  unfold OpenR at HOP
  rw [HGB.out] at HOP
  cases b with
  | false =>
    go_enter Try.func45, Try.ntmps45
    go_wp2_with (refine ld_tr w.heap.size HL.out (hp_new rfl) rfl _ rfl rfl ?_)
    refine (HOP.out _).mono ?_
    rintro e w1 ⟨L, hl, rfl, hu, hb⟩
    clear hu
    have HLL := Lib.hid hl
    have HB := Lib.hid (bl_then (bl_alloc (Below.refl _ w) _) hb)
    clear hl hb
    go_wp2_with (refine st_im_new HLL.out rfl rfl _ _ rfl rfl rfl ?_)
    go_ret2
    exact ⟨rfl, bl_alloc HB.out _⟩
  | true =>
    obtain ⟨hn1, hn64, _, _⟩ := goodT_spec HGB.out
    have HV : Hid (∀ m : Nat, n = m → ∀ k : Nat, i = k → k < m → (ims m ws).getD k 0 = im ws k) := Lib.hid (fun m _ k _ hk => by rw [ims_getD, if_pos ⟨hk, by omega⟩])
    by_cases hi : 0 ≤ i ∧ i < n
    · rw [show atV true n ws i = im ws i.toNat by unfold atV; rw [if_pos rfl, if_pos hi], show atE true n i = 0 by unfold atE; rw [if_pos rfl, if_pos hi]]
      obtain ⟨hi0, hi1⟩ := hi
      obtain ⟨m, rfl⟩ := Int.eq_ofNat_of_zero_le (show 0 ≤ n by omega)
      obtain ⟨k, rfl⟩ := Int.eq_ofNat_of_zero_le hi0
      have hkm : k < m := by omega
      rw [Int.toNat_natCast]
      have HV1 := Lib.hid (HV.out m rfl k rfl hkm)
      have hd1 : decide ((k : Int) < 0) = false := by simp
      have hd2 : decide ((m : Int) ≤ (k : Int)) = false := by simpa using hkm
      have hd3 : decide (m ≤ k) = false := by simpa using hkm
      clear HV
      generalize im ws k = y at *
      go_enter Try.func45, Try.ntmps45
      go_wp2_with (refine ld_tr w.heap.size HL.out (hp_new rfl) rfl _ rfl rfl ?_)
      refine (HOP.out _).mono ?_
      rintro e w1 ⟨L, hl, rfl, hL, hb⟩
      rw [Int.toNat_natCast] at hL
      obtain rfl := hL trivial
      have A1 := Lib.hid (hp_below' hb (hp_new (w := w) (o := .cells (tvv m ws) 26) rfl))
      have HB := Lib.hid (bl_then (bl_alloc (Below.refl _ w) _) hb)
      have D1 : (w1.alloc (.cells (img (ims m ws)) 98)).cell? ⟨w.heap.size, 0, none⟩ = some (.int .i64 m) := by rw [cell_of_row _ _ _ _ _ _ (hp_old A1.out), HZ.out]
      have D2 : (w1.alloc (.cells (img (ims m ws)) 98)).cell? ⟨w1.heap.size, k, none⟩ = some (.int .i64 y) := by rw [cell_of_row _ _ _ _ _ _ (hp_new rfl), img_get _ _ (by rw [ims_len]; omega), HV1.out]
      have HLL := Lib.hid hl
      clear hl hb hL
      generalize ims m ws = L at *
      go_wp2_with (refine st_im_new HLL.out rfl rfl _ _ rfl rfl rfl ?_)
      go_ret2
      exact ⟨rfl, bl_alloc HB.out _⟩
    · rw [show atV true n ws i = 0 by unfold atV; rw [if_pos rfl, if_neg hi], show atE true n i = 3 by unfold atE; rw [if_pos rfl, if_neg hi]]
      have hd : (decide (i < 0) = true) ∨ (decide (i < 0) = false ∧ decide (n ≤ i) = true) := by
        by_cases h : i < 0
        · exact .inl (by simpa using h)
        · exact .inr ⟨by simpa using h, by simp; omega⟩
      clear HV
      rcases hd with hd | ⟨hd, hd2⟩
      all_goals
        go_enter Try.func45, Try.ntmps45
        go_wp2_with (refine ld_tr w.heap.size HL.out (hp_new rfl) rfl _ rfl rfl ?_)
        refine (HOP.out _).mono ?_
        rintro e w1 ⟨L, hl, rfl, hu, hb⟩
        clear hu
        have HLL := Lib.hid hl
        have A1 := Lib.hid (hp_below' hb (hp_new (w := w) (o := .cells (tvv n ws) 26) rfl))
        have D1 : (w1.alloc (.cells (img L) 98)).cell? ⟨w.heap.size, 0, none⟩ = some (.int .i64 n) := by rw [cell_of_row _ _ _ _ _ _ (hp_old A1.out), HZ.out]
        have HB := Lib.hid (bl_then (bl_alloc (Below.refl _ w) _) hb)
        clear hl hb
        go_wp2_with (refine st_im_new HLL.out rfl rfl _ _ rfl rfl rfl ?_)
        go_ret2
        exact ⟨rfl, bl_alloc HB.out _⟩
set_option maxRecDepth 100000 in
set_option maxHeartbeats 2000000 in
theorem rtat_any (n : Int) (ws : List Nat) (i : Int) (hl : ws.length = 7) (hw : Hid (∀ i, ws.getD i 0 < 18446744073709551616)) (w : World) :
    Calls Try.prog 47 #[.agg (tvv n ws), .int .i64 i] w fun e w' => e = .returned (.tuple #[.int .i64 ((atV (goodT n ws) n ws i : Nat) : Int), .int .i64 (atE (goodT n ws) n i)]) ∧ Below w.heap.size w w' := by
  have HL := Lib.hid hl; clear hl
  have HLS := Aside0.mk (rlist_l n ws HL.out hw)
  generalize hgb : goodT n ws = b at *
  have HGB := Lib.hid hgb; clear hgb
  cases b with
  | false =>
    go_enter Try.func47, Try.ntmps47
    go_wp2_with (refine ld_tr w.heap.size HL.out (hp_new rfl) rfl _ rfl rfl ?_)
    refine (HLS.out _).mono ?_
    rintro e w1 ⟨v, rfl, _, hb⟩
    have HB := Lib.hid (bl_then (bl_alloc (Below.refl _ w) _) hb)
    have hne : ((chkE false : Int) != 0) = true := by decide
    clear hb
    go_wp2
    go_ret2
    exact ⟨rfl, HB.out⟩
  | true =>
    obtain ⟨hn1, hn64, _, _⟩ := goodT_spec HGB.out
    obtain ⟨m, rfl⟩ := Int.eq_ofNat_of_zero_le (show 0 ≤ n by omega)
    have HLEN := Lib.hid (show (lsT true (m : Int).toNat ws).length = m by rw [lsT_true, imk_len, Int.toNat_natCast])
    have HGD : Hid (∀ k : Nat, k < m → (lsT true (m : Int).toNat ws).getD k 0 = im ws k) := Lib.hid (fun k hk => by rw [lsT_true, Int.toNat_natCast, imk_getD _ _ _ hk])
    generalize lsT true (m : Int).toNat ws = l at *
    by_cases hi : 0 ≤ i ∧ i < m
    · rw [show atV true m ws i = im ws i.toNat by unfold atV; rw [if_pos rfl, if_pos hi], show atE true m i = 0 by unfold atE; rw [if_pos rfl, if_pos hi]]
      obtain ⟨hi0, hi1⟩ := hi
      obtain ⟨k, rfl⟩ := Int.eq_ofNat_of_zero_le hi0
      have hkm : k < m := by omega
      rw [Int.toNat_natCast]
      have HV1 := Lib.hid (HGD.out k hkm)
      have hd1 : decide ((k : Int) < 0) = false := by simp
      have hd2 : decide ((m : Int) ≤ (k : Int)) = false := by simpa using hkm
      have hd3 : decide (m ≤ k) = false := by simpa using hkm
      clear HGD
      generalize im ws k = y at *
      go_enter Try.func47, Try.ntmps47
      go_wp2_with (refine ld_tr w.heap.size HL.out (hp_new rfl) rfl _ rfl rfl ?_)
      refine (HLS.out _).mono ?_
      rintro e w1 ⟨v, rfl, ho, hb⟩
      obtain ⟨A, c, rfl, _, hC⟩ := own_slice m HLEN.out ho
      obtain ⟨ad, rfl⟩ := at_some hC k hkm
      have hcell := at_cell hC k hkm
      rw [HV1.out] at hcell
      have HB := Lib.hid (bl_then (bl_alloc (Below.refl _ w) _) hb)
      have hne : ((chkE true : Int) != 0) = false := by decide
      clear hb ho hC
      go_wp2
      go_ret2
      exact ⟨rfl, HB.out⟩
    · rw [show atV true m ws i = 0 by unfold atV; rw [if_pos rfl, if_neg hi], show atE true m i = 3 by unfold atE; rw [if_pos rfl, if_neg hi]]
      have hd : (decide (i < 0) = true) ∨ (decide (i < 0) = false ∧ decide ((m : Int) ≤ i) = true) := by
        by_cases h : i < 0
        · exact .inl (by simpa using h)
        · exact .inr ⟨by simpa using h, by simp; omega⟩
      clear HGD
      rcases hd with hd | ⟨hd, hd2⟩
      all_goals
        go_enter Try.func47, Try.ntmps47
        go_wp2_with (refine ld_tr w.heap.size HL.out (hp_new rfl) rfl _ rfl rfl ?_)
        refine (HLS.out _).mono ?_
        rintro e w1 ⟨v, rfl, ho, hb⟩
        obtain ⟨A, c, rfl, _, hC⟩ := own_slice m HLEN.out ho
        have HB := Lib.hid (bl_then (bl_alloc (Below.refl _ w) _) hb)
        have hne : ((chkE true : Int) != 0) = false := by decide
        clear hb ho hC
        go_wp2
        go_ret2
        exact ⟨rfl, HB.out⟩
end Go.Proofs.Ytpebnldoimoahaa

namespace Go.Proofs.Ytpebnldoimoahaa
open Go.RowKit Go.Proofs.YtpebnldoimoahaaW.PrintWords
set_option linter.unusedSimpArgs false
set_option linter.unusedVariables false
/-- The points below k that stay. -/
def fxl (l : List Nat) (k : Nat) : List Nat := (List.range k).filter fun i => l.getD i 0 == i
theorem fxl_yes {l : List Nat} {k : Nat} (h : l.getD k 0 = k) : fxl l (k + 1) = fxl l k ++ [k] := by
  unfold fxl
  rw [List.range_succ, List.filter_append, List.filter_cons_of_pos (by rw [h]; exact beq_self_eq_true k), List.filter_nil]
theorem fxl_no {l : List Nat} {k : Nat} (h : l.getD k 0 ≠ k) : fxl l (k + 1) = fxl l k := by
  unfold fxl
  rw [List.range_succ, List.filter_append, List.filter_cons_of_neg (by rw [beq_iff_eq]; exact h), List.filter_nil, List.append_nil]
theorem fxl_len (l : List Nat) (k : Nat) : (fxl l k).length ≤ k := by
  have := List.length_filter_le (fun i => l.getD i 0 == i) (List.range k)
  rwa [List.length_range] at this
theorem fxl_mem {l : List Nat} {k i : Nat} (h : i ∈ fxl l k) : i < k := List.mem_range.1 (List.mem_filter.1 h).1
theorem fxl_lt {l : List Nat} {k : Nat} (h : k ≤ 64) (i : Nat) : (fxl l k).getD i 0 < 64 := by
  by_cases hi : i < (fxl l k).length
  · rw [List.getD_eq_getElem?_getD, List.getElem?_eq_getElem hi]
    have := fxl_mem (List.getElem_mem hi)
    simp only [Option.getD_some]; omega
  · rw [List.getD_eq_getElem?_getD, List.getElem?_eq_none (by omega)]; decide
theorem fxl_congr {l l' : List Nat} {k : Nat} (h : ∀ i, i < k → l.getD i 0 = l'.getD i 0) : fxl l k = fxl l' k := by
  unfold fxl
  exact List.filter_congr (fun i hi => by rw [h i (List.mem_range.1 hi)])
set_option maxRecDepth 100000 in
set_option maxHeartbeats 2000000 in
theorem fixed_any (n : Int) (ws : List Nat) (hl : ws.length = 7) (hw : Hid (∀ i, ws.getD i 0 < 18446744073709551616)) (w : World) :
    Calls Try.prog 74 #[.agg (tvv n ws)] w fun e w' => e = .returned (.tuple #[.agg (sv (bo (fxl (lsT (goodT n ws) n.toNat ws) (lsT (goodT n ws) n.toNat ws).length))), .int .i64 (chkE (goodT n ws))]) ∧ Below w.heap.size w w' := by
  have HL := Lib.hid hl; clear hl
  have HZ := Lib.hid (tvv_zero n ws)
  generalize hgb : goodT n ws = b at *
  have HGB := Lib.hid hgb; clear hgb
  have HOP := Aside0.mk (open_any n ws HL.out hw)
  unfold OpenR at HOP
  rw [HGB.out] at HOP
  cases b with
  | false =>
    have HS0 : Hid (sv (bo (fxl (lsT false n.toNat ws) (lsT false n.toNat ws).length)) = sv 0) := Lib.hid rfl
    go_enter Try.func74, Try.ntmps74
    go_wp2_with (refine ld_tr w.heap.size HL.out (hp_old (hp_new rfl)) rfl _ rfl rfl ?_)
    refine (HOP.out _).mono ?_
    rintro e w1 ⟨L, hl, rfl, hu, hb⟩
    clear hu
    have HLL := Lib.hid hl
    have A2 := Lib.hid (hp_below' hb (hp_new (w := w.alloc (.cells (tvv n ws) 26)) rfl))
    rw [World.size_alloc] at A2
    have A3 := Lib.hid (hp_old (o := .cells (img L) 98) A2.out)
    have HB := Lib.hid (bl_then (bl_alloc (bl_alloc (Below.refl _ w) _) _) hb)
    clear hl hb
    go_wp2_with (first | (refine st_im_new HLL.out rfl rfl _ _ rfl rfl rfl ?_) | (refine st_sv _ _ rfl rfl (w.heap.size + 1) (n := 0) rfl rfl A3.out rfl ?_))
    refine bodyPost_ret (v := .tuple #[.agg (sv 0), .int .i64 130]) ?_ rfl ⟨by rw [HS0.out]; rfl, bl_row (bl_alloc HB.out _) (by omega) _⟩
    refine (results_cell_tmp (p := 2) (t := 3) (by rfl) _ _ (w.heap.size + 1) 69 _ _ _ ?_ (setRow_heap _ _ _ _ _ _ A3.out) Try.underlying69 rfl (sv_z _)).trans ?_ <;> rfl
  | true =>
    obtain ⟨hn1, hn64, _, _⟩ := goodT_spec HGB.out
    obtain ⟨m, rfl⟩ := Int.eq_ofNat_of_zero_le (show 0 ≤ n by omega)
    rw [Int.toNat_natCast] at *
    have hm : m ≤ 64 := by omega
    have HEND : Hid (fxl (lsT true m ws) (lsT true m ws).length = fxl (ims m ws) m) := Lib.hid (by
      rw [lsT_true, imk_len]
      exact fxl_congr (fun i hi => by rw [imk_getD _ _ _ hi, ims_getD, if_pos ⟨hi, by omega⟩]))
    generalize fxl (lsT true m ws) (lsT true m ws).length = FF at *
    generalize HIM : ims m ws = LL at *
    have HML := Lib.hid (show LL.length = 64 by rw [← HIM, ims_len])
    clear HIM hn1 hn64
    go_enter Try.func74, Try.ntmps74
    go_wp2_with (refine ld_tr w.heap.size HL.out (hp_old (hp_new rfl)) rfl _ rfl rfl ?_)
    refine (HOP.out _).mono ?_
    rintro e w1 ⟨L, hl, rfl, hL, hb⟩
    obtain rfl := hL trivial
    have A1 := Lib.hid (hp_below' hb (hp_old (hp_new (w := w) (o := .cells (tvv m ws) 26) rfl)))
    have A2 := Lib.hid (hp_below' hb (hp_new (w := w.alloc (.cells (tvv m ws) 26)) rfl))
    rw [World.size_alloc] at A2
    have HB := Lib.hid (bl_then (bl_alloc (bl_alloc (Below.refl _ w) _) _) hb)
    clear hl hb hL
    have B3 := Lib.hid (hp_new (w := w1) (o := .cells (img L) 98) rfl)
    have D1 : (w1.alloc (.cells (img L) 98)).cell? ⟨w.heap.size, 0, none⟩ = some (.int .i64 m) := by rw [cell_of_row _ _ _ _ _ _ (hp_old A1.out), HZ.out]
    go_wp2_with (refine st_im_new HML.out rfl rfl _ _ rfl rfl rfl ?_)
    clear D1
    have B4 : Hid (Below (w1.heap.size + 1) (w1.alloc (.cells (img L) 98)) (w1.alloc (.cells (img L) 98))) := Lib.hid (Below.refl _ _)
    go_loopw [6, 18] (fun v i wr => ∃ k : Nat, k ≤ m ∧ i = .int .i64 k ∧ Hid (Own wr (w1.heap.size + 1) v (zl (fxl L k)) ∧ Below (w1.heap.size + 1) (w1.alloc (.cells (img L) 98)) wr)) (fun _ i _ => m - (intOf i).toNat)
    case atStart => exact ⟨0, by omega, rfl, Lib.hid ⟨Kd.R_nil _ _ _ _ _, B4.out⟩⟩
    case round =>
      obtain ⟨k, hk, rfl, H⟩ := hrel
      have HO := Aside0.mk H.out.1
      have HW := Aside0.mk H.out.2
      have HI := Lib.hid ((H.out.2.block w1.heap.size (by omega)).trans B3.out)
      have hws : w1.heap.size + 1 ≤ wr.heap.size := by have := H.out.2.size; rw [World.size_alloc] at this; exact this
      clear H
      by_cases hkm : k < m
      · have c1 : wr.cell? ⟨w1.heap.size, k, none⟩ = some (.int .i64 ((L.getD k 0 : Nat) : Int)) := by rw [cell_of_row _ _ _ _ _ _ HI.out, img_get _ _ (by rw [HML.out]; omega)]
        have HLK := Lib.hid (show (zl (fxl L k)).length ≤ 64 by rw [zl_len]; have := fxl_len L k; omega)
        by_cases hfx : L.getD k 0 = k
        · have HK := Lib.hid (show zl (fxl L (k + 1)) = zl (fxl L k) ++ [(k : Int)] by rw [fxl_yes hfx, zl_snoc])
          rw [hfx] at c1
          generalize zl (fxl L k) = xs at *
          clear hfx
          have hbb : ((k : Int) == (k : Int)) = true := by simp
          go_wp2_with (first | (at_builtin; refine Kd.R_append (Kd.int .i64) (w0 := w1.alloc (.cells (img L) 98)) (w1.heap.size + 1) rfl (.tmp 26) (.tmp 28) 22 3 (.int .i64 0) 8 rfl Try.underlying22 info_int rfl (by decide) (by omega) u6 xs (k : Int) [.int .i64 k] (fun _ => True) (fun _ => False) rfl rfl ?aP (fun _ hk => hk.elim) ?aF ?aO ?aB ?aS ?aL ?_; (case aP => exact rfl); (case aB => exact HW.out); (case aF => exact (fun _ _ => trivial)); (case aO => exact HO.out); (case aS => exact hws); (case aL => have := HLK.out; omega); intro v1 w2 ho hb hg hat; have HO1 := Aside0.mk ho; have HB1 := Aside0.mk hb; clear ho hb hg hat))
          go_roundw
          case rel => exact ⟨k + 1, by omega, by go_num, Lib.hid ⟨by rw [HK.out]; exact HO1.out, HB1.out⟩⟩
          case measure => simp [intOf]; omega
        · have HK := Lib.hid (show zl (fxl L (k + 1)) = zl (fxl L k) by rw [fxl_no hfx])
          have hbb : (((L.getD k 0 : Nat) : Int) == (k : Int)) = false := by rw [beq_eq_false_iff_ne]; omega
          clear hfx
          generalize L.getD k 0 = y at *
          go_wp2
          go_roundw
          case rel => exact ⟨k + 1, by omega, by go_num, Lib.hid ⟨by rw [HK.out]; exact HO.out, HW.out⟩⟩
          case measure => simp [intOf]; omega
      · have : k = m := by omega
        subst this
        obtain ⟨A, c, rfl, _, hC⟩ := own_slice (fxl L k).length rfl HO.out
        have HC := Aside0.mk hC
        have HFL := Lib.hid (fxl_lt (l := L) hm)
        have HLN := Lib.hid (show (fxl L k).length ≤ 1000000 by have := fxl_len L k; omega)
        have HBW := Lib.hid (bl_then HB.out (show Below w1.heap.size w1 wr from (bl_alloc (Below.refl w1.heap.size w1) (.cells (img L) 98)).trans (HW.out.mono (by omega))))
        have A3 := Lib.hid (show wr.heap[w.heap.size + 1]? = _ from (HW.out.block _ (by have := hp_lt A2.out; omega)).trans (hp_old A2.out))
        clear hC HO HW
        rw [← HEND.out] at HC HFL HLN ⊢
        clear HEND
        go_wp2_with fail
        refine (chosen_any _ c FF FF.length rfl HFL.out HLN.out _ HC.out).mono ?_
        rintro e w2 ⟨rfl, hb⟩
        have C2 := Lib.hid (hp_below' hb A3.out)
        have CB := Lib.hid (bl_then HBW.out hb)
        clear hb
        go_wp2_with (refine st_sv _ _ rfl rfl (w.heap.size + 1) rfl rfl C2.out rfl ?_)
        refine bodyPost_ret (v := .tuple #[.agg (sv (bo FF)), .int .i64 0]) ?_ rfl ⟨rfl, bl_row CB.out (by omega) _⟩
        refine (results_cell_tmp (p := 2) (t := 3) (by rfl) _ _ (w.heap.size + 1) 69 _ _ _ ?_ (setRow_heap _ _ _ _ _ _ C2.out) Try.underlying69 rfl (sv_z _)).trans ?_ <;> rfl
theorem fxl_lt' {l : List Nat} {k : Nat} (h : k ≤ 64) : ∀ i ∈ fxl l k, i < 64 := fun i hi => by have := fxl_mem hi; omega
set_option maxRecDepth 100000 in
set_option maxHeartbeats 2000000 in
theorem rfixed_any (n : Int) (ws : List Nat) (hl : ws.length = 7) (hw : Hid (∀ i, ws.getD i 0 < 18446744073709551616)) (w : World) :
    Calls Try.prog 75 #[.agg (tvv n ws)] w fun e w' => e = .returned (.tuple #[.agg (sv (bo (fxl (lsT (goodT n ws) n.toNat ws) (lsT (goodT n ws) n.toNat ws).length))), .int .i64 (chkE (goodT n ws))]) ∧ Below w.heap.size w w' := by
  have HL := Lib.hid hl; clear hl
  have HM := Lib.hid (lsT_small (n := n) (ws := ws) rfl)
  have HLS := Aside0.mk (rlist_l n ws HL.out hw)
  generalize lsT (goodT n ws) n.toNat ws = l at *
  generalize chkE (goodT n ws) = er at *
  obtain ⟨FF, HFF⟩ : ∃ FF, Hid (fxl l l.length = FF) := ⟨_, Lib.hid rfl⟩
  rw [HFF.out]
  go_enter Try.func75, Try.ntmps75
  go_wp2_with (refine ld_tr w.heap.size HL.out (hp_old (hp_new rfl)) rfl _ rfl rfl ?_)
  refine (HLS.out _).mono ?_
  rintro e w1 ⟨v, rfl, ho, hb⟩
  have A2 := Lib.hid (hp_below' hb (hp_new (w := w.alloc (.cells (tvv n ws) 26)) rfl))
  rw [World.size_alloc] at A2
  have HB := Lib.hid (bl_then (bl_alloc (bl_alloc (Below.refl _ w) _) _) hb)
  obtain ⟨A, c, rfl, hlc, hC⟩ := own_slice l.length rfl ho
  have HC := Aside0.mk hC
  clear hb ho hC hlc
  go_wp2
  go_loopw [7] (fun i wr => ∃ k : Nat, k ≤ l.length ∧ i = .int .i64 k ∧ Hid (wr.heap[w1.heap.size]? = some (.cells (sv (bo (fxl l k))) 69 (0, 0)) ∧ Below w1.heap.size w1 wr)) (fun i _ => l.length - (intOf i).toNat)
  case atStart => exact ⟨0, by omega, rfl, Lib.hid ⟨hp_new rfl, bl_alloc (Below.refl _ _) _⟩⟩
  case round =>
    obtain ⟨k, hk, rfl, H⟩ := hrel
    have hm64 := HM.out
    by_cases hkl : k < l.length
    · obtain ⟨ad, rfl⟩ := at_some HC.out k hkl
      have hcell := at_cell (Kd.C_below HC.out H.out.2) k hkl
      have hk64 : k < 64 := by omega
      by_cases hfx : l.getD k 0 = k
      · have HK := Lib.hid (show bo (fxl l (k + 1)) = bo (fxl l k) ||| 2 ^ k by rw [fxl_yes hfx, bo_snoc])
        have HX := Lib.hid (bo_lt (fxl l k) (fxl_lt' (by omega)))
        rw [hfx] at hcell
        clear hfx
        have hbb : ((k : Int) == (k : Int)) = true := by simp
        generalize bo (fxl l k) = x at *
        go_wp2_with (refine ld_sv _ rfl w1.heap.size rfl H.out.1 rfl ?_)
        refine (with_any x k HX.out hk64 _).mono ?_
        rintro e w2 ⟨rfl, hb⟩
        have g2 : w2.heap[w1.heap.size]? = some (.cells (sv x) 69 (0, 0)) := hp_below' hb H.out.1
        have G2 := Lib.hid (setRow_heap _ _ _ (sv (x ||| 2 ^ k)) _ _ g2)
        have G3 := Lib.hid (bl_row (bl_then H.out.2 hb) (Nat.le_refl _) (sv (x ||| 2 ^ k)))
        have G4 := Lib.hid g2
        clear g2 hb H hcell
        go_wp2_with (refine st_sv _ _ rfl rfl w1.heap.size rfl rfl G4.out rfl ?_)
        go_roundw
        case rel => exact ⟨k + 1, by omega, by go_num, Lib.hid ⟨by rw [HK.out]; exact G2.out, G3.out⟩⟩
        case measure => simp [intOf]; omega
      · have HK := Lib.hid (show bo (fxl l (k + 1)) = bo (fxl l k) by rw [fxl_no hfx])
        have hbb : (((l.getD k 0 : Nat) : Int) == (k : Int)) = false := by rw [beq_eq_false_iff_ne]; omega
        clear hfx
        generalize l.getD k 0 = y at *
        go_wp2
        go_roundw
        case rel => exact ⟨k + 1, by omega, by go_num, Lib.hid ⟨by rw [HK.out]; exact H.out.1, H.out.2⟩⟩
        case measure => simp [intOf]; omega
    · have : k = l.length := by omega
      subst this
      have A3 := Lib.hid (hp_below' H.out.2 A2.out)
      rw [HFF.out] at H
      go_wp2_with (first | (refine ld_sv _ rfl w1.heap.size rfl H.out.1 rfl ?_) | (refine st_sv _ _ rfl rfl (w.heap.size + 1) rfl rfl A3.out rfl ?_))
      refine bodyPost_ret (v := .tuple #[.agg (sv (bo FF)), .int .i64 er]) ?_ rfl ⟨rfl, bl_row (bl_then HB.out H.out.2) (by omega) _⟩
      refine (results_cell_tmp (p := 2) (t := 3) (by rfl) _ _ (w.heap.size + 1) 69 _ _ _ ?_ (setRow_heap _ _ _ _ _ _ A3.out) Try.underlying69 rfl (sv_z _)).trans ?_ <;> rfl
end Go.Proofs.Ytpebnldoimoahaa

namespace Go.Proofs.Ytpebnldoimoahaa
open Go.RowKit Go.Proofs.YtpebnldoimoahaaW.PrintWords
set_option linter.unusedSimpArgs false
set_option linter.unusedVariables false
set_option maxRecDepth 100000 in
theorem gcd_any (a0 b0 : Nat) (ha : a0 ≤ 17179869184) (hb : b0 ≤ 17179869184) (w : World) :
    Calls Try.prog 83 #[.int .i64 a0, .int .i64 b0] w fun e w' => e = .returned (.int .i64 ((Nat.gcd a0 b0 : Nat) : Int)) ∧ Below w.heap.size w w' := by
  have HA := Lib.hid ha; have HBB := Lib.hid hb
  generalize hG : Nat.gcd a0 b0 = G at *
  have HG := Lib.hid hG
  clear ha hb hG
  go_enter Try.func83, Try.ntmps83
  go_wp2
  go_loopw [0, 1] (fun x y wg => ∃ a b : Nat, x = .int .i64 a ∧ y = .int .i64 b ∧ Hid (Nat.gcd a b = G) ∧ a ≤ 17179869184 ∧ b ≤ 17179869184 ∧ Hid (Below w.heap.size w wg)) (fun _ y _ => (intOf y).toNat)
  case atStart => exact ⟨a0, b0, rfl, rfl, HG, HA.out, HBB.out, Lib.hid (Below.refl _ _)⟩
  case round =>
    obtain ⟨a, b, rfl, rfl, HGC, ha, hb, HH⟩ := hrel
    by_cases hb0 : b = 0
    · subst hb0
      have hga : Hid (a = G) := Lib.hid (by have := HGC.out; rwa [Nat.gcd_zero_right] at this)
      go_wp2
      go_ret
      exact ⟨by rw [hga.out]; rfl, HH.out⟩
    · have hbp : 0 < b := by omega
      have hbn : ((b : Int) == 0) = false := by rw [beq_eq_false_iff_ne]; omega
      clear hb0
      go_wp2
      go_quiet (fail)
      go_wp2
      go_roundw
      case rel => exact ⟨b, a % b, rfl, by go_num, Lib.hid (by rw [← HGC.out, Nat.gcd_comm a b, Nat.gcd_rec b a, Nat.gcd_comm]), hb, by have := Nat.mod_lt a hbp; omega, Lib.hid (bl_drewN HH.out _)⟩
      case measure => simp [intOf]; have := Nat.mod_lt a hbp; omega
def mtl (l : List Nat) (v t : Nat) : List Nat := (List.range t).map (orb l v)
theorem mtl_len (l : List Nat) (v t : Nat) : (mtl l v t).length = t := by simp [mtl]
theorem mtl_succ (l : List Nat) (v t : Nat) : mtl l v (t + 1) = mtl l v t ++ [orb l v t] := by simp [mtl, List.range_succ]
theorem mtl_get {l : List Nat} {v t k : Nat} (h : k < t) : (mtl l v t).getD k 0 = orb l v k := by simp [mtl, List.getD_eq_getElem?_getD, h]
set_option maxRecDepth 100000 in
set_option maxHeartbeats 2000000 in
theorem tail_any (A : Option Addr) (c : Nat) (l : List Nat) (n v : Nat) (hn : l.length = n) (hmax : n ≤ 64) (hin : Inn l n) (hv : v < n) (w : World) (hr : Kd.C (Kd.int .i64) w A n (zl l)) :
    Calls Try.prog 82 #[.slice A n c, .int .i64 v] w fun e w' => e = .returned (.tuple #[.int .i64 (((tlp l n v).1 : Nat) : Int), .int .i64 (((tlp l n v).2 : Nat) : Int)]) ∧ Below w.heap.size w w' := by
  have HR := Aside0.mk hr
  have HIN := Lib.hid hin
  have HV := Lib.hid hv
  have HT : Hid (∀ k t : Nat, k < t → fresh l v t → orb l v k = orb l v t → tlp l n v = (k, t - k)) := Lib.hid (fun k t hk hf he => tlp_eq hin hv ⟨by rw [show k + (t - k) = t by omega]; exact hf, by omega, by rw [show k + (t - k) = t by omega]; exact he.symm⟩)
  generalize tlp l n v = P at *
  obtain ⟨p1, p2⟩ := P
  clear hr hin
  go_enter Try.func82, Try.ntmps82
  go_wp2
  go_loopw [6, 1] (fun mv i wr => ∃ t : Nat, t ≤ n ∧ i = .int .i64 (orb l v t) ∧ Hid (fresh l v t ∧ Own wr w.heap.size mv (zl (mtl l v t)) ∧ Below w.heap.size w wr)) (fun mv _ _ => match mv with | .slice _ t _ => n + 1 - t | _ => 0)
  case atStart => exact ⟨0, by omega, rfl, Lib.hid ⟨fresh_zero _ _, Kd.R_nil _ _ _ _ _, Below.refl _ _⟩⟩
  case round =>
    obtain ⟨t, ht, rfl, H⟩ := hrel
    have HF := Lib.hid H.out.1
    have HO := Aside0.mk H.out.2.1
    have HW := Aside0.mk H.out.2.2
    have ho := H.out.2.1
    clear H
    obtain ⟨M, mc, rfl, hmc, hC⟩ := own_slice t (mtl_len l v t) ho
    have HC := Aside0.mk hC
    clear ho hC hmc
    have hx : orb l v t < n := orb_lt HIN.out hv t
    have HTT := Lib.hid (fun k hk he => HT.out k t hk HF.out he)
    have HFS := Lib.hid (fun h1 => fresh_succ HF.out h1)
    have HX : Hid (∀ k : Nat, k < t → (mtl l v t).getD k 0 = orb l v k) := Lib.hid (fun k hk => mtl_get hk)
    have HNX : Hid (l.getD (orb l v t) 0 = orb l v (t + 1)) := Lib.hid rfl
    have HSN : Hid (zl (mtl l v (t + 1)) = zl (mtl l v t) ++ [((orb l v t : Nat) : Int)]) := Lib.hid (by rw [mtl_succ, zl_snoc])
    generalize hxx : orb l v t = x at *
    clear hxx
    go_wp2
    go_loop [7] (fun i => ∃ k : Nat, k ≤ t ∧ i = .int .i64 k ∧ Hid (∀ j, j < k → orb l v j ≠ x)) (fun i => t - (intOf i).toNat)
    case atStart => exact ⟨0, by omega, rfl, Lib.hid (fun j hj => absurd hj (by omega))⟩
    case round =>
      obtain ⟨k, hk, rfl, HNE⟩ := hrel
      by_cases hkt : k < t
      · obtain ⟨ad, rfl⟩ := at_some HC.out k hkt
        have c1 := at_cell HC.out k hkt
        rw [HX.out k hkt] at c1
        by_cases he : orb l v k = x
        · have HP := Lib.hid (HTT.out k hkt he)
          rw [he] at c1
          clear he
          have hbb : ((x : Int) == (x : Int)) = true := by simp
          have hsub : (t : Int) - (k : Int) = ((t - k : Nat) : Int) := by omega
          go_wp2
          go_ret2
          have e1 : p1 = k := congrArg Prod.fst HP.out
          have e2 : p2 = t - k := congrArg Prod.snd HP.out
          exact ⟨by rw [e1, e2, ← hsub]; rfl, HW.out⟩
        · have hbb : (((orb l v k : Nat) : Int) == (x : Int)) = false := by rw [beq_eq_false_iff_ne]; omega
          have HNE2 : Hid (∀ j, j < k + 1 → orb l v j ≠ x) := Lib.hid (fun j hj => by
            by_cases e : j = k
            · subst e; exact he
            · exact HNE.out j (by omega))
          clear he HNE
          generalize orb l v k = y at *
          go_wp2
          go_round
          case rel => exact ⟨k + 1, by omega, by go_num, HNE2⟩
          case measure => simp [intOf]; omega
      · have e8 : k = t := by omega
        subst e8
        have HF2 := Lib.hid (HFS.out (fun j hj => HNE.out j hj))
        have ht2 := fresh_le HIN.out hv HF2.out
        obtain ⟨ad, rfl⟩ := at_some HR.out x hx
        have HCE := Lib.hid (show ∀ W : World, Below w.heap.size w W → W.cell? (ad.add x) = some (.int .i64 ((orb l v (k + 1) : Nat) : Int)) from fun W hb => by rw [at_cell (Kd.C_below HR.out hb) x hx, HNX.out])
        have HLN := Lib.hid (show (zl (mtl l v k)).length ≤ 64 by rw [zl_len, mtl_len]; omega)
        generalize zl (mtl l v k) = xs at *
        obtain ⟨z, HZ⟩ : ∃ z, Hid (orb l v (k + 1) = z) := ⟨_, Lib.hid rfl⟩
        rw [HZ.out] at HCE
        clear HNE HNX HX HTT HFS HC
        go_wp2_with (first | (at_builtin; refine Kd.R_append (Kd.int .i64) (w0 := w) w.heap.size rfl (.tmp 25) (.tmp 27) 22 3 (.int .i64 0) 8 rfl Try.underlying22 info_int rfl (by decide) (by omega) (.slice M k mc) xs (x : Int) [.int .i64 x] (fun _ => True) (fun _ => False) rfl rfl ?aP (fun _ hk => hk.elim) ?aF ?aO ?aB ?aS ?aL ?_; (case aP => exact rfl); (case aB => exact HW.out); (case aF => exact (fun _ _ => trivial)); (case aO => exact HO.out); (case aS => exact below_size HW.out); (case aL => have := HLN.out; omega); intro v1 w2 ho hb hg hat; have HO1 := Aside0.mk ho; have HB1 := Aside0.mk hb; have c2 := HCE.out w2 hb; clear ho hb hg hat))
        have hov := HO1.out
        rw [← HSN.out] at hov
        obtain ⟨M2, mc2, rfl, _, _⟩ := own_slice (k + 1) (mtl_len l v (k + 1)) hov
        have HO2 := Aside0.mk hov
        clear hov HO1
        go_roundw
        case rel => exact ⟨k + 1, ht2, by rw [HZ.out], Lib.hid ⟨HF2.out, HO2.out, HB1.out⟩⟩
        case measure => show n + 1 - (k + 1) < n + 1 - k; omega
theorem rper_fin (p a r : Nat) (hp : p < 17179869184) (hb : p / a * r < 17179869184) : wrap64 (wrap64 ((p : Int) / (a : Int)) * (r : Int)) = ((p / a * r : Nat) : Int) := per_fin p a r r hp rfl hb
set_option maxRecDepth 100000 in
set_option maxHeartbeats 2000000 in
theorem rcycle_any (n : Int) (ws : List Nat) (hl : ws.length = 7) (hw : Hid (∀ i, ws.getD i 0 < 18446744073709551616)) (w : World) :
    Calls Try.prog 76 #[.agg (tvv n ws)] w (CycR n ws w) := by
  have HL := Lib.hid hl; clear hl
  have HLS := Aside0.mk (rlist_l n ws HL.out hw)
  generalize hgb : goodT n ws = b at *
  have HGB := Lib.hid hgb; clear hgb
  unfold CycR
  rw [HGB.out]
  cases b with
  | false =>
    go_enter Try.func76, Try.ntmps76
    go_wp2_with (refine ld_tr w.heap.size HL.out (hp_new rfl) rfl _ rfl rfl ?_)
    refine (HLS.out _).mono ?_
    rintro e w1 ⟨v, rfl, _, hb⟩
    have HB := Lib.hid (bl_then (bl_alloc (Below.refl _ w) _) hb)
    have hne : ((chkE false : Int) != 0) = true := by decide
    clear hb
    go_wp2
    go_ret3
    exact ⟨rfl, HB.out⟩
  | true =>
    obtain ⟨hn1, hn64, hin, _⟩ := goodT_spec HGB.out
    obtain ⟨m, rfl⟩ := Int.eq_ofNat_of_zero_le (show 0 ≤ n by omega)
    rw [Int.toNat_natCast] at *
    have hm1 : 1 ≤ m := by omega
    have hm64 : m ≤ 64 := by omega
    have HLEN := Lib.hid (show (lsT true m ws).length = m by rw [lsT_true, imk_len])
    have HIN : Hid (Inn (lsT true m ws) m) := Lib.hid (fun i hi => by rw [lsT_true, imk_getD _ _ _ hi]; exact hin i hi)
    have HEQ : Hid (cyc (lsT true m ws) m m = cyc (ims m ws) m m) := Lib.hid (cyc_congr (fun i hi => by rw [lsT_true, imk_getD _ _ _ hi, ims_getD, if_pos ⟨hi, by omega⟩]) HIN.out m (Nat.le_refl _))
    generalize lsT true m ws = l at *
    rw [← HEQ.out]
    clear hn1 hn64 hin HEQ
    go_enter Try.func76, Try.ntmps76
    go_wp2_with (refine ld_tr w.heap.size HL.out (hp_new rfl) rfl _ rfl rfl ?_)
    refine (HLS.out _).mono ?_
    rintro e w1 ⟨v, rfl, ho, hb⟩
    obtain ⟨A, c, rfl, hmc, hC⟩ := own_slice m HLEN.out ho
    have HC := Aside0.mk hC
    have HB := Lib.hid (bl_then (bl_alloc (Below.refl _ w) _) hb)
    have hne : ((chkE true : Int) != 0) = false := by decide
    clear hb ho hC hmc
    go_wp2
    clear hne
    go_loopw [9, 7, 8] (fun i v2 v3 wr => ∃ k : Nat, k ≤ m ∧ i = .int .i64 k ∧ v2 = .int .i64 (cyc l m k).1 ∧ v3 = .int .i64 (cyc l m k).2 ∧ Hid (Below w1.heap.size w1 wr)) (fun i _ _ _ => m - (intOf i).toNat)
    case atStart => exact ⟨0, by omega, rfl, rfl, rfl, Lib.hid (Below.refl _ _)⟩
    case round =>
      obtain ⟨k, hk, rfl, rfl, rfl, H⟩ := hrel
      by_cases hkm : k < m
      · have HCS := Lib.hid (cyc_small HIN.out (show k ≤ m by omega) hm64)
        have HCS2 := Lib.hid (cyc_small HIN.out (show k + 1 ≤ m by omega) hm64)
        have HSTEP : Hid (cyc l m (k + 1) = (max (cyc l m k).1 (tlp l m k).1, (cyc l m k).2 / Nat.gcd (cyc l m k).2 (tlp l m k).2 * (tlp l m k).2)) := Lib.hid rfl
        have TL := Aside0.mk (tail_any A c l m k HLEN.out hm64 HIN.out hkm wr (Kd.C_below HC.out H.out))
        have HTL := Lib.hid (tlp_tail HIN.out hkm)
        generalize (tlp l m k).1 = ti at *
        generalize (tlp l m k).2 = tp at *
        rw [HSTEP.out] at HCS2
        generalize (cyc l m k).1 = idx at *
        generalize (cyc l m k).2 = per at *
        go_wp2_with fail
        refine TL.out.mono ?_
        rintro e w2 ⟨rfl, hb⟩
        have H2 := Lib.hid (bl_then H.out hb)
        have hsum : ti + tp ≤ m := fresh_le HIN.out hkm HTL.out.fr
        have htp := HTL.out.one
        have hper := HCS.out
        have HGP := Lib.hid (Nat.gcd_pos_of_pos_left tp (show 0 < per by omega))
        have HGC := Aside0.mk (gcd_any per tp (by omega) (by omega))
        generalize Nat.gcd per tp = a at *
        clear hb TL H
        go_wp2_with fail
        all_goals
          refine (HGC.out _).mono ?_
          rintro e w3 ⟨rfl, hb⟩
          have H3 := Lib.hid (bl_then H2.out hb)
          have hap := HGP.out
          have han : ((a : Int) == 0) = false := by rw [beq_eq_false_iff_ne]; omega
          clear hb H2 HGC
          go_wp2
          go_roundw
          case rel =>
            refine ⟨k + 1, by omega, by go_num, ?_, ?_, H3⟩
            · rw [HSTEP.out]; congr 1; show _ = ((max idx ti : Nat) : Int); omega
            · rw [HSTEP.out]; congr 1; exact rper_fin per a tp (by omega) HCS2.out.2
          case measure => simp [intOf]; omega
      · have : k = m := by omega
        subst this
        go_wp2
        go_ret3
        exact ⟨rfl, bl_then HB.out H.out⟩
end Go.Proofs.Ytpebnldoimoahaa

namespace Go.Proofs.Ytpebnldoimoahaa
open Go.RowKit Go.Proofs.YtpebnldoimoahaaW.PrintWords
set_option linter.unusedSimpArgs false
set_option linter.unusedVariables false
/-- The words of no transformation. -/
def zw : List Nat := List.replicate 7 0
theorem zw_len : zw.length = 7 := rfl
def okI (n : Int) (ws : List Nat) : Bool := goodT n ws && decide ((lsT true n.toNat ws).Nodup)
/-- What Inverse answers. -/
def invN (n : Int) (ws : List Nat) : Int := if okI n ws then n else 0
def invW (n : Int) (ws : List Nat) : List Nat := if okI n ws then pks (inv n.toNat (lsT true n.toNat ws)) n.toNat else zw
def invE (n : Int) (ws : List Nat) : Int := if okI n ws then 0 else 130
theorem gd_of {m : Nat} {ws : List Nat} (h : goodT m ws = true) : Gd m (lsT true m ws) ∧ pks (lsT true m ws) m = ws := by
  obtain ⟨h1, h2, h3, h4⟩ := goodT_spec h
  rw [Int.toNat_natCast] at h3 h4
  refine ⟨⟨by omega, by omega, by rw [lsT_true, imk_len], fun i hi => by rw [lsT_true, imk_getD _ _ _ hi]; exact h3 i hi⟩, ?_⟩
  rw [← h4] 
  conv => rhs; rw [h4]
  rw [h4]
  refine Eq.trans ?_ h4
  exact pks_ext _ _ _ fun j hj => by rw [lsT_true, imk_getD _ _ _ hj, ims_getD, if_pos ⟨hj, by omega⟩]
theorem prm_of {m : Nat} {l : List Nat} (h : Gd m l) (hn : l.Nodup) : Prm m l := ⟨h, fun i j hi hj e => by
  have hi' : i < l.length := by rw [h.len]; exact hi
  have hj' : j < l.length := by rw [h.len]; exact hj
  rw [List.getD_eq_getElem?_getD, List.getD_eq_getElem?_getD, List.getElem?_eq_getElem hi', List.getElem?_eq_getElem hj'] at e
  have hp := List.pairwise_iff_getElem.1 (List.nodup_iff_pairwise_ne.1 hn)
  rcases Nat.lt_trichotomy i j with h1 | h1 | h1
  · exact absurd (by simpa using e) (hp i j hi' hj' h1)
  · exact h1
  · exact absurd (by simpa using e.symm) (hp j i hj' hi' h1)⟩
set_option maxRecDepth 100000 in
set_option maxHeartbeats 2000000 in
theorem inverse_bad (n : Int) (ws : List Nat) (hl : ws.length = 7) (hw : Hid (∀ i, ws.getD i 0 < 18446744073709551616)) (hg : goodT n ws = false) (w : World) :
    Calls Try.prog 43 #[.agg (tvv n ws)] w fun e w' => e = .returned (.tuple #[.agg (tvv 0 zw), .int .i64 130]) ∧ Below w.heap.size w w' := by
  have HL := Lib.hid hl; clear hl
  have HOP := Aside0.mk (open_any n ws HL.out hw)
  unfold OpenR at HOP
  rw [hg] at HOP
  clear hg
  go_enter Try.func43, Try.ntmps43
  go_wp2_with (refine ld_tr w.heap.size HL.out (hp_old (hp_new rfl)) rfl _ rfl rfl ?_)
  refine (HOP.out _).mono ?_
  rintro e w1 ⟨L, hl, rfl, hu, hb⟩
  clear hu
  have HLL := Lib.hid hl
  have A2 := Lib.hid (hp_below' hb (hp_new (w := w.alloc (.cells (tvv n ws) 26)) rfl))
  rw [World.size_alloc] at A2
  have A3 := Lib.hid (hp_old (o := .cells (img L) 98) A2.out)
  have HB := Lib.hid (bl_then (bl_alloc (bl_alloc (Below.refl _ w) _) _) hb)
  clear hl hb
  go_wp2_with (refine st_im_new HLL.out rfl rfl _ _ rfl rfl rfl ?_)
  refine wp_region_held_drew (S := fun w' => True) (by kernel_rfl) trivial (fun hS => ?_)
  refine any_take (i := 0) (v := ?v3) rfl (by kernel_rfl) (by kernel_rfl) (by kernel_rfl) (fun _ _ _ h => h) hS (.inl ⟨by rfl, ?y3⟩) ?_
  case y3 => (intro w' h'; go_simp; with_reducible rfl)
  (try simp only [Act.put, List.setIfInBounds_toArray, List.set_cons_zero, List.set_cons_succ])
  refine any_take (i := 1) (v := ?v4) rfl (by kernel_rfl) (by kernel_rfl) (by kernel_rfl) (fun _ _ _ h => h) hS (.inl ⟨by rfl, ?y4⟩) ?_
  case y4 => (intro w' h'; go_simp; with_reducible rfl)
  (try simp only [Act.put, List.setIfInBounds_toArray, List.set_cons_zero, List.set_cons_succ])
  refine any_take (i := 2) (v := ?v5) rfl (by kernel_rfl) (by kernel_rfl) (by kernel_rfl) (fun _ _ _ h => h) hS (.inl ⟨by rfl, ?y5⟩) ?_
  case y5 => (intro w' h'; go_simp; with_reducible rfl)
  (try simp only [Act.put, List.setIfInBounds_toArray, List.set_cons_zero, List.set_cons_succ])
  refine any_take (i := 3) (v := undef) rfl (by kernel_rfl) (by kernel_rfl) (by kernel_rfl) (fun _ _ _ h => h) hS (.inr ⟨by rfl, rfl⟩) ?_
  (try simp only [Act.put, List.setIfInBounds_toArray, List.set_cons_zero, List.set_cons_succ])
  refine any_take (i := 4) (v := undef) rfl (by kernel_rfl) (by kernel_rfl) (by kernel_rfl) (fun _ _ _ h => h) hS (.inr ⟨by rfl, rfl⟩) ?_
  (try simp only [Act.put, List.setIfInBounds_toArray, List.set_cons_zero, List.set_cons_succ])
  refine any_take (i := 5) (v := undef) rfl (by kernel_rfl) (by kernel_rfl) (by kernel_rfl) (fun _ _ _ h => h) hS (.inr ⟨by rfl, rfl⟩) ?_
  (try simp only [Act.put, List.setIfInBounds_toArray, List.set_cons_zero, List.set_cons_succ])
  refine any_take (i := 6) (v := undef) rfl (by kernel_rfl) (by kernel_rfl) (by kernel_rfl) (fun _ _ _ h => h) hS (.inr ⟨by rfl, rfl⟩) ?_
  (try simp only [Act.put, List.setIfInBounds_toArray, List.set_cons_zero, List.set_cons_succ])
  refine any_take (i := 7) (v := undef) rfl (by kernel_rfl) (by kernel_rfl) (by kernel_rfl) (fun _ _ _ h => h) hS (.inr ⟨by rfl, rfl⟩) ?_
  (try simp only [Act.put, List.setIfInBounds_toArray, List.set_cons_zero, List.set_cons_succ])
  refine any_take (i := 8) (v := undef) rfl (by kernel_rfl) (by kernel_rfl) (by kernel_rfl) (fun _ _ _ h => h) hS (.inr ⟨by rfl, rfl⟩) ?_
  (try simp only [Act.put, List.setIfInBounds_toArray, List.set_cons_zero, List.set_cons_succ])
  refine any_take (i := 9) (v := undef) rfl (by kernel_rfl) (by kernel_rfl) (by kernel_rfl) (fun _ _ _ h => h) hS (.inr ⟨by rfl, rfl⟩) ?_
  (try simp only [Act.put, List.setIfInBounds_toArray, List.set_cons_zero, List.set_cons_succ])
  refine any_take (i := 10) (v := undef) rfl (by kernel_rfl) (by kernel_rfl) (by kernel_rfl) (fun _ _ _ h => h) hS (.inr ⟨by rfl, rfl⟩) ?_
  (try simp only [Act.put, List.setIfInBounds_toArray, List.set_cons_zero, List.set_cons_succ])
  refine any_take (i := 11) (v := undef) rfl (by kernel_rfl) (by kernel_rfl) (by kernel_rfl) (fun _ _ _ h => h) hS (.inr ⟨by rfl, rfl⟩) ?_
  (try simp only [Act.put, List.setIfInBounds_toArray, List.set_cons_zero, List.set_cons_succ])
  refine any_take (i := 12) (v := undef) rfl (by kernel_rfl) (by kernel_rfl) (by kernel_rfl) (fun _ _ _ h => h) hS (.inr ⟨by rfl, rfl⟩) ?_
  (try simp only [Act.put, List.setIfInBounds_toArray, List.set_cons_zero, List.set_cons_succ])
  refine any_take (i := 13) (v := ?v8) rfl (by kernel_rfl) (by kernel_rfl) (by kernel_rfl) (fun _ _ _ h => h) hS (.inl ⟨by rfl, ?y8⟩) ?_
  case y8 => (intro w' h'; go_simp; with_reducible rfl)
  (try simp only [Act.put, List.setIfInBounds_toArray, List.set_cons_zero, List.set_cons_succ])
  refine wpAnyH_done (by kernel_rfl) ?_ _
  clear hS
  go_wp2_with (refine st_tr (w.heap.size + 1) zw_len (show (w1.alloc (.cells (img L) 98)).drew.heap[w.heap.size + 1]? = _ from A3.out) rfl rfl _ _ rfl rfl rfl ?_)
  refine bodyPost_ret (v := .tuple #[.agg (tvv 0 zw), .int .i64 130]) ?_ rfl ⟨rfl, bl_row (bl_alloc HB.out _).drew (by omega) _⟩
  refine (results_cell_tmp (p := 2) (t := 3) (by rfl) _ _ (w.heap.size + 1) 26 _ _ _ ?_ (setRow_heap _ _ _ _ _ _ (show (w1.alloc (.cells (img L) 98)).drew.heap[w.heap.size + 1]? = _ from A3.out)) Try.underlying26 rfl (tr_z _ _ zw_len)).trans ?_ <;> rfl
set_option maxRecDepth 100000 in
set_option maxHeartbeats 2000000 in
theorem inverse_dup {n : Nat} {L : List Nat} (h : Gd n L) (hd : ¬ L.Nodup) (w : World) :
    Calls Try.prog 43 #[.agg (tvv n (pks L n))] w fun e w' => e = .returned (.tuple #[.agg (tvv 0 zw), .int .i64 130]) ∧ Below w.heap.size w w' := by
  have HL := Lib.hid (pks_len L n)
  have HZ := Lib.hid (tvv_zero n (pks L n))
  have HW := Lib.hid h.words
  have HG := Lib.hid h.good
  have HE := Lib.hid h.ims
  have HP := Lib.hid h
  have hmem : ∀ x ∈ L, x < n := fun x hx => by
    obtain ⟨i, hi, rfl⟩ := List.mem_iff_getElem.1 hx
    have := h.lt i (by rw [← h.len]; exact hi)
    simpa [List.getD_eq_getElem?_getD, List.getElem?_eq_getElem hi] using this
  have HSZ := Aside0.mk (size_cnt (bo L) (bo_lt64 hmem h.max))
  have HNE : Hid ((((Pop.cnt (bo L) 64 : Nat) : Int) != (n : Int)) = true) := Lib.hid (by
    rw [bne_iff_ne]
    intro e
    exact hd ((cnt_iff h.len hmem h.max).1 (by omega)))
  have hn1 := h.one; have hn := h.max
  clear h hd hmem
  generalize Pop.cnt (bo L) 64 = sz at *
  generalize pks L n = ws at *
  go_enter Try.func43, Try.ntmps43
  go_wp2_with (refine ld_tr w.heap.size HL.out (hp_old (hp_new rfl)) rfl _ rfl rfl ?_)
  refine (open_any n ws HL.out HW _).mono ?_
  rintro e w1 ⟨l, hl, rfl, hi, hb⟩
  obtain rfl : l = padk n L := by rw [hi HG.out, Int.toNat_natCast, HE.out]
  rw [HG.out]
  have HLL := Lib.hid hl
  have A1 := Lib.hid (hp_below' hb (hp_old (hp_new (w := w) (o := .cells (tvv n ws) 26) rfl)))
  have A2 := Lib.hid (hp_below' hb (hp_new (w := w.alloc (.cells (tvv n ws) 26)) rfl))
  have HB := Lib.hid (bl_then (bl_alloc (bl_alloc (Below.refl _ w) _) _) hb)
  rw [World.size_alloc] at A2
  clear hi hl hb
  generalize hLL : padk n L = LL at *
  have HPL := Lib.hid hLL; clear hLL
  go_wp2_with (refine st_im_new HLL.out rfl rfl _ _ rfl rfl rfl ?_)
  refine wp_region_held_drew (S := fun w' => (w'.heap[w.heap.size]? = some (.cells (tvv n ws) 26 (0, 0)) ∧ w'.heap[w1.heap.size]? = some (.cells (img LL) 98 (0, 0)) ∧ (∃ c, w'.heap[w.heap.size + 1]? = some (.cells c 26 (0, 0)) ∧ c.size = 8) ∧ Below w.heap.size w w')) (by kernel_rfl) ⟨hp_old A1.out, hp_new rfl, ⟨_, hp_old A2.out, rfl⟩, (bl_alloc HB.out _).drew⟩ (fun hS => ?_)
  have keep : ∀ {u v : World}, Below u.heap.size u v → (u.heap[w.heap.size]? = some (.cells (tvv n ws) 26 (0, 0)) ∧ u.heap[w1.heap.size]? = some (.cells (img LL) 98 (0, 0)) ∧ (∃ c, u.heap[w.heap.size + 1]? = some (.cells c 26 (0, 0)) ∧ c.size = 8) ∧ Below w.heap.size w u) → (v.heap[w.heap.size]? = some (.cells (tvv n ws) 26 (0, 0)) ∧ v.heap[w1.heap.size]? = some (.cells (img LL) 98 (0, 0)) ∧ (∃ c, v.heap[w.heap.size + 1]? = some (.cells c 26 (0, 0)) ∧ c.size = 8) ∧ Below w.heap.size w v) :=
    fun hb ⟨h1, h2, ⟨c, h3, h3'⟩, h4⟩ => ⟨hp_below' hb h1, hp_below' hb h2, ⟨c, hp_below' hb h3, h3'⟩, bl_then h4 hb⟩
  have hcut := cut_img w1.heap.size n hn
  refine any_take (i := 0) (v := ?v10) rfl (by kernel_rfl) (by kernel_rfl) (by kernel_rfl) (fun _ _ _ h => h) hS (.inl ⟨by rfl, ?y10⟩) ?_
  case y10 => (intro w' h'; go_simp; with_reducible rfl)
  (try simp only [Act.put, List.setIfInBounds_toArray, List.set_cons_zero, List.set_cons_succ])
  refine any_take (i := 1) (v := ?v11) rfl (by kernel_rfl) (by kernel_rfl) (by kernel_rfl) (fun _ _ _ h => h) hS (.inl ⟨by rfl, ?y11⟩) ?_
  case y11 => (intro w' h'; go_simp; with_reducible rfl)
  (try simp only [Act.put, List.setIfInBounds_toArray, List.set_cons_zero, List.set_cons_succ])
  refine any_take (i := 2) (v := ?v12) rfl (by kernel_rfl) (by kernel_rfl) (by kernel_rfl) (fun _ _ _ h => h) hS (.inl ⟨by rfl, ?y12⟩) ?_
  case y12 => (intro w' h'; go_simp; with_reducible rfl)
  (try simp only [Act.put, List.setIfInBounds_toArray, List.set_cons_zero, List.set_cons_succ])
  refine any_take (i := 3) (v := .pointer (some ⟨w.heap.size, 0, none⟩)) rfl (by kernel_rfl) (by kernel_rfl) (by kernel_rfl) (fun _ _ _ h => h) hS (yi_val (by rfl) (fun w' h' => ?y13)) ?_
  case y13 => first | rfl | (go_simp; done) | (go_simp; omega)
  (try simp only [Act.put, List.setIfInBounds_toArray, List.set_cons_zero, List.set_cons_succ])
  refine any_take (i := 4) (v := .int .i64 n) rfl (by kernel_rfl) (by kernel_rfl) (by kernel_rfl) (fun _ _ _ h => h) hS (yi_cell _ _ rfl (by rfl) ⟨w.heap.size, 0, none⟩ rfl _ Try.underlying3 rfl (fun w' h' => (cell_of_row _ _ _ _ _ _ h'.1).trans (tvv_zero _ _))) ?_
  (try simp only [Act.put, List.setIfInBounds_toArray, List.set_cons_zero, List.set_cons_succ])
  have hmin : min (n : Int) 64 = n := by omega
  have hmax : max 0 (n : Int) = n := by omega
  refine any_take (i := 5) (v := .int .i64 n) rfl (by kernel_rfl) (by kernel_rfl) (by kernel_rfl) (fun _ _ _ h => h) hS (yi_val (by rfl) (fun w' h' => ?y15)) ?_
  case y15 => first | rfl | (go_simp; done) | (go_simp; omega)
  (try simp only [Act.put, List.setIfInBounds_toArray, List.set_cons_zero, List.set_cons_succ])
  refine any_take (i := 6) (v := .int .i64 n) rfl (by kernel_rfl) (by kernel_rfl) (by kernel_rfl) (fun _ _ _ h => h) hS (yi_val (by rfl) (fun w' h' => ?y16)) ?_
  case y16 => first | rfl | (go_simp; done) | (go_simp; omega)
  (try simp only [Act.put, List.setIfInBounds_toArray, List.set_cons_zero, List.set_cons_succ])
  refine any_take (i := 7) (v := .slice (some ⟨w1.heap.size, 0, none⟩) n 64) rfl (by kernel_rfl) (by kernel_rfl) (by kernel_rfl) (fun _ _ _ h => h) hS (yi_val (by rfl) (fun w' h' => ?y17)) ?_
  case y17 => first | rfl | (go_simp; done) | (go_simp; omega)
  (try simp only [Act.put, List.setIfInBounds_toArray, List.set_cons_zero, List.set_cons_succ])
  refine any_take (i := 10) (v := .pointer (some ⟨w.heap.size, 0, none⟩)) rfl (by kernel_rfl) (by kernel_rfl) (by kernel_rfl) (fun _ _ _ h => h) hS (yi_val (by rfl) (fun w' h' => ?y18)) ?_
  case y18 => first | rfl | (go_simp; done) | (go_simp; omega)
  (try simp only [Act.put, List.setIfInBounds_toArray, List.set_cons_zero, List.set_cons_succ])
  refine any_take (i := 11) (v := .int .i64 n) rfl (by kernel_rfl) (by kernel_rfl) (by kernel_rfl) (fun _ _ _ h => h) hS (yi_cell _ _ rfl (by rfl) ⟨w.heap.size, 0, none⟩ rfl _ Try.underlying3 rfl (fun w' h' => (cell_of_row _ _ _ _ _ _ h'.1).trans (tvv_zero _ _))) ?_
  (try simp only [Act.put, List.setIfInBounds_toArray, List.set_cons_zero, List.set_cons_succ])
  have hCL : Kd.C (Kd.int .i64) (w1.alloc (.cells (img LL) 98)).drew (some ⟨w1.heap.size, 0, none⟩) n (zl L) := C_img (show (w1.alloc (.cells (img LL) 98)).drew.heap[w1.heap.size]? = _ from hp_new rfl) L n HP.out.len hn HLL.out (fun i hi => by rw [← HPL.out, padk_getD, if_pos ⟨hi, by omega⟩])
  refine any_call (i := 8) rfl (by kernel_rfl) (by rfl) 68 #[.slice (some ⟨w1.heap.size, 0, none⟩) n 64] ?x20 (chosen_any _ 64 L n HP.out.len HP.out.lt64 (by omega) _ hCL) ?_
  case x20 => (simp [go_sem])
  (try simp only [Act.put, List.setIfInBounds_toArray, List.set_cons_zero, List.set_cons_succ])
  rintro e w2 ⟨rfl, hb2⟩
  have hS2 := keep hb2 hS
  refine ⟨_, rfl, hS2, ?_⟩
  (try simp only [Act.put, List.setIfInBounds_toArray, List.set_cons_zero, List.set_cons_succ])
  refine any_call (i := 9) rfl (by kernel_rfl) (by rfl) 72 #[.agg (sv (bo L))] ?x23 (HSZ.out _) ?_
  case x23 => (simp [go_sem])
  (try simp only [Act.put, List.setIfInBounds_toArray, List.set_cons_zero, List.set_cons_succ])
  rintro e w3 ⟨rfl, hb3⟩
  have hS3 := keep hb3 hS2
  refine ⟨_, rfl, hS3, ?_⟩
  (try simp only [Act.put, List.setIfInBounds_toArray, List.set_cons_zero, List.set_cons_succ])
  have hne := HNE.out
  refine any_take (i := 12) (v := .bool true) rfl (by kernel_rfl) (by kernel_rfl) (by kernel_rfl) (fun _ _ _ h => h) hS3 (yi_val (by rfl) (fun w' h' => ?y26)) ?_
  case y26 => first | rfl | (go_simp; done) | (go_simp; omega)
  (try simp only [Act.put, List.setIfInBounds_toArray, List.set_cons_zero, List.set_cons_succ])
  refine any_take (i := 13) (v := ?v28) rfl (by kernel_rfl) (by kernel_rfl) (by kernel_rfl) (fun _ _ _ h => h) hS3 (.inl ⟨by rfl, ?y28⟩) ?_
  case y28 => (intro w' h'; go_simp; with_reducible rfl)
  (try simp only [Act.put, List.setIfInBounds_toArray, List.set_cons_zero, List.set_cons_succ])
  refine wpAnyH_done (by kernel_rfl) ?_ _
  obtain ⟨q1, q2, ⟨cc, q3, q3'⟩, q4⟩ := hS3
  have Q3 := Lib.hid q3; have Q3' := Lib.hid q3'; have Q4 := Lib.hid q4
  clear hS hS2 hb2 hb3 q1 q2 q3 q3' q4 keep hCL hcut hmin hmax A1 A2 HB hne HNE
  go_wp2_with (refine st_tr (w.heap.size + 1) zw_len Q3.out Q3'.out rfl _ _ rfl rfl rfl ?_)
  refine bodyPost_ret (v := .tuple #[.agg (tvv 0 zw), .int .i64 130]) ?_ rfl ⟨rfl, bl_row Q4.out (by omega) _⟩
  refine (results_cell_tmp (p := 2) (t := 3) (by rfl) _ _ (w.heap.size + 1) 26 _ _ _ ?_ (setRow_heap _ _ _ _ _ _ Q3.out) Try.underlying26 rfl (tr_z _ _ zw_len)).trans ?_ <;> rfl
theorem inverse_any (n : Int) (ws : List Nat) (hl : ws.length = 7) (hw : Hid (∀ i, ws.getD i 0 < 18446744073709551616)) (w : World) :
    Calls Try.prog 43 #[.agg (tvv n ws)] w fun e w' => e = .returned (.tuple #[.agg (tvv (invN n ws) (invW n ws)), .int .i64 (invE n ws)]) ∧ Below w.heap.size w w' := by
  cases hg : goodT n ws
  · have : okI n ws = false := by unfold okI; rw [hg]; rfl
    unfold invN invW invE
    rw [this]
    exact inverse_bad n ws hl hw hg w
  · obtain ⟨hn1, _, _, _⟩ := goodT_spec hg
    obtain ⟨m, rfl⟩ := Int.eq_ofNat_of_zero_le (show 0 ≤ n by omega)
    obtain ⟨h1, h2⟩ := gd_of hg
    by_cases hd : (lsT true m ws).Nodup
    · have : okI m ws = true := by unfold okI; rw [hg, Int.toNat_natCast, decide_eq_true hd]; rfl
      unfold invN invW invE
      rw [this, Int.toNat_natCast]
      have h3 := inverse_g (prm_of h1 hd) w
      rw [h2] at h3
      exact h3
    · have : okI m ws = false := by unfold okI; rw [hg, Int.toNat_natCast, decide_eq_false hd]; rfl
      unfold invN invW invE
      rw [this]
      have h3 := inverse_dup h1 hd w
      rw [h2] at h3
      exact h3
end Go.Proofs.Ytpebnldoimoahaa

namespace Go.Proofs.Ytpebnldoimoahaa
open Go.RowKit Go.Proofs.YtpebnldoimoahaaW.PrintWords
set_option linter.unusedSimpArgs false
set_option linter.unusedVariables false
/-- The images so far. -/
def ob (l : List Nat) (m k : Nat) : List Nat := (List.range m).map fun j => if src l m j < k then src l m j else 0
/-- Which points were met. -/
def mb (l : List Nat) (m k : Nat) : List Bool := (List.range m).map fun j => (l.take k).contains j
theorem ob_len (l : List Nat) (m k : Nat) : (ob l m k).length = m := by simp [ob]
theorem mb_len (l : List Nat) (m k : Nat) : (mb l m k).length = m := by simp [mb]
theorem ob_zero (l : List Nat) (m : Nat) : ob l m 0 = List.replicate m 0 := by
  apply List.ext_getElem (by simp [ob])
  intro i h1 h2
  rw [List.getElem_replicate]
  simp [ob]
theorem mb_zero (l : List Nat) (m : Nat) : mb l m 0 = List.replicate m false := by
  apply List.ext_getElem (by simp [mb])
  intro i h1 h2
  rw [List.getElem_replicate]
  simp [mb]
theorem mb_get (l : List Nat) (m k j : Nat) (hj : j < m) : (mb l m k).getD j false = (l.take k).contains j := by
  simp [mb, List.getD_eq_getElem?_getD, hj]
theorem src_val (l : List Nat) (m j : Nat) : src l m j = 0 ∨ l.getD (src l m j) 0 = j := by
  unfold src
  cases h : (List.range m).find? (fun i => l.getD i 0 == j) with
  | none => left; rfl
  | some i =>
    right
    have := List.find?_some h
    simpa using this
theorem src_first {l : List Nat} {m k : Nat} (hk : k < m) (h : ∀ i, i < k → l.getD i 0 ≠ l.getD k 0) : src l m (l.getD k 0) = k := by
  have : (List.range m).find? (fun i => l.getD i 0 == l.getD k 0) = some k := by
    rw [List.find?_range_eq_some]
    refine ⟨by simp, by simpa using hk, fun i hi => ?_⟩
    simpa using h i hi
  unfold src
  rw [this]; rfl
theorem take_mem {l : List Nat} {k y : Nat} (hk : k ≤ l.length) : (l.take k).contains y = true ↔ ∃ i, i < k ∧ l.getD i 0 = y := by
  rw [List.contains_iff_mem]
  constructor
  · intro h
    obtain ⟨i, hi, e⟩ := List.mem_iff_getElem.1 h
    rw [List.length_take] at hi
    refine ⟨i, by omega, ?_⟩
    rw [List.getElem_take] at e
    rw [List.getD_eq_getElem?_getD, List.getElem?_eq_getElem (by omega)]
    exact e
  · rintro ⟨i, hi, e⟩
    have hil : i < l.length := by omega
    rw [List.getD_eq_getElem?_getD, List.getElem?_eq_getElem hil] at e
    exact List.mem_iff_getElem.2 ⟨i, by rw [List.length_take]; omega, by rw [List.getElem_take]; exact e⟩
theorem mb_set {l : List Nat} {m k : Nat} (hl : l.length = m) (hk : k < m) : (mb l m k).set (l.getD k 0) true = mb l m (k + 1) := by
  apply List.ext_getElem (by simp [mb])
  intro j h1 h2
  have hj : j < m := by simp [mb] at h2; exact h2
  simp only [mb, List.getElem_set, List.getElem_map, List.getElem_range]
  by_cases e : l.getD k 0 = j
  · rw [if_pos e]
    exact ((take_mem (by omega)).2 ⟨k, by omega, e⟩).symm
  · rw [if_neg e, Bool.eq_iff_iff, take_mem (by omega), take_mem (by omega)]
    constructor
    · rintro ⟨i, hi, e2⟩; exact ⟨i, by omega, e2⟩
    · rintro ⟨i, hi, e2⟩
      refine ⟨i, ?_, e2⟩
      by_cases h : i = k
      · subst h; exact absurd e2 e
      · omega
theorem ob_set {l : List Nat} {m k : Nat} (hl : l.length = m) (hk : k < m) (h : ∀ i, i < k → l.getD i 0 ≠ l.getD k 0) : (ob l m k).set (l.getD k 0) k = ob l m (k + 1) := by
  apply List.ext_getElem (by simp [ob])
  intro j h1 h2
  have hj : j < m := by simp [ob] at h2; exact h2
  simp only [ob, List.getElem_set, List.getElem_map, List.getElem_range]
  by_cases e : l.getD k 0 = j
  · subst e
    rw [if_pos rfl, src_first hk h, if_pos (by omega)]
  · rw [if_neg e]
    by_cases h3 : src l m j < k
    · rw [if_pos h3, if_pos (by omega)]
    · rw [if_neg h3]
      by_cases h4 : src l m j = k
      · rcases src_val l m j with h5 | h5
        · rw [h5]; simp
        · rw [h4] at h5; exact absurd h5 e
      · rw [if_neg (by omega)]
theorem ob_end {l : List Nat} {m : Nat} (hm : 0 < m) : ob l m m = inv m l := by
  unfold ob inv
  refine List.map_congr_left fun j hj => ?_
  rw [if_pos]
  unfold src
  cases h : (List.range m).find? (fun i => l.getD i 0 == j) with
  | none => exact hm
  | some i => exact List.mem_range.1 (List.mem_of_find?_eq_some h)
theorem nodup_pre {l : List Nat} {m : Nat} (hl : l.length = m) (h : ∀ k, k < m → ∀ i, i < k → l.getD i 0 ≠ l.getD k 0) : l.Nodup := by
  rw [List.nodup_iff_pairwise_ne, List.pairwise_iff_getElem]
  intro i j hi hj hij e
  refine h j (by omega) i hij ?_
  rw [List.getD_eq_getElem?_getD, List.getD_eq_getElem?_getD, List.getElem?_eq_getElem hi, List.getElem?_eq_getElem hj, e]
theorem nodup_not {l : List Nat} {m k i : Nat} (hl : l.length = m) (hk : k < m) (hi : i < k) (e : l.getD i 0 = l.getD k 0) : ¬ l.Nodup := by
  intro hn
  have hp := List.pairwise_iff_getElem.1 (List.nodup_iff_pairwise_ne.1 hn)
  have h1 : i < l.length := by omega
  have h2 : k < l.length := by omega
  rw [List.getD_eq_getElem?_getD, List.getD_eq_getElem?_getD, List.getElem?_eq_getElem h1, List.getElem?_eq_getElem h2] at e
  exact hp i k h1 h2 hi (by simpa using e)
/-- The cells of a list of bools. -/
def bimg (l : List Bool) : Array Value := (l.map Value.bool).toArray
theorem bimg_size (l : List Bool) : (bimg l).size = l.length := by simp [bimg]
theorem bimg_get (l : List Bool) (i : Nat) (h : i < l.length) : (bimg l)[i]? = some (.bool (l.getD i false)) := by simp [bimg, List.getElem?_eq_getElem h]
theorem bimg_set (l : List Bool) (i : Nat) (v : Bool) : (bimg l).setIfInBounds i (.bool v) = bimg (l.set i v) := by simp [bimg, List.map_set]
theorem made_bimg (n : Nat) : madeCells (#[.bool false] : Array Value) n = bimg (List.replicate n false) := by
  apply Array.ext (by simp [size_madeCells, bimg])
  intro i h1 h2
  simp [madeCells, bimg, Nat.mod_one]
theorem info_bool : (Try.prog.info? 4).map (fun i => (i.zero, i.size, i.bytes)) = some (some (.bool false), 1, 1) := by kernel_rfl
theorem wpl_makeb {ops : Array Oper} {rest : List Oper} {o : Oper} {a : Act} {w : World} {Q : Exit → Act → World → Prop} (n : Nat) (hn : n ≤ 1000000) (hgd : o.guard = none) (l c : Operand) (ho : o.op = .makeSlice 75 l c)
    (hl : a.eval l = .int .i64 n) (hc : a.eval c = .int .i64 n)
    (h : wpList Try.prog ops Q rest (a.put o.dst (.slice (some ⟨w.heap.size, 0, none⟩) n n)) (w.alloc (.cells (bimg (List.replicate n false)) 4))) : wpList Try.prog ops Q (o :: rest) a w := by
  obtain ⟨i0, hi, hz0, hz1, hz2⟩ := info_parts info_bool
  have hr := run_make (P := Try.prog) w 75 4 i0 (.bool false) Try.underlying75 hi hz0 .i64 .i64 n n (by omega) (Int.le_refl _) (by rw [hz2]; omega) (by omega)
  simp only [Int.toNat_natCast] at hr
  refine wpList_plain hgd fun K hK' => ?_
  unfold Oper.wp
  rw [hz1, Nat.mul_one, show (Value.bool false).cells = #[.bool false] from rfl, made_bimg] at hr
  simp [execOp, ho, hl, hc, hr, Result.andThen]
  exact hK' _ _ h
theorem inv_lt64 {m : Nat} {l : List Nat} (hm : m ≤ 64) (i : Nat) : (inv m l).getD i 0 < 64 := by
  by_cases hi : i < m
  · rw [inv_getD _ _ _ hi]
    unfold src
    cases h : (List.range m).find? (fun k => l.getD k 0 == i) with
    | none => simp
    | some k => have := List.mem_range.1 (List.mem_of_find?_eq_some h); simp only [Option.getD_some]; omega
  · rw [List.getD_eq_getElem?_getD, List.getElem?_eq_none (by simp [inv]; omega)]; decide
theorem inv_len (m : Nat) (l : List Nat) : (inv m l).length = m := by simp [inv]
set_option maxRecDepth 100000 in
set_option maxHeartbeats 2000000 in
theorem rinverse_any (n : Int) (ws : List Nat) (hl : ws.length = 7) (hw : Hid (∀ i, ws.getD i 0 < 18446744073709551616)) (w : World) :
    Calls Try.prog 77 #[.agg (tvv n ws)] w fun e w' => e = .returned (.tuple #[.agg (tvv (invN n ws) (invW n ws)), .int .i64 (invE n ws)]) ∧ Below w.heap.size w w' := by
  have HL := Lib.hid hl; clear hl
  have HLS := Aside0.mk (rlist_l n ws HL.out hw)
  cases hg : goodT n ws
  · have hk : okI n ws = false := by unfold okI; rw [hg]; rfl
    unfold invN invW invE
    rw [hk]
    rw [hg] at HLS
    clear hg hk
    go_enter Try.func77, Try.ntmps77
    go_wp2_with (refine ld_tr w.heap.size HL.out (hp_old (hp_new rfl)) rfl _ rfl rfl ?_)
    refine (HLS.out _).mono ?_
    rintro e w1 ⟨v, rfl, _, hb⟩
    have A2 := Lib.hid (hp_below' hb (hp_new (w := w.alloc (.cells (tvv n ws) 26)) rfl))
    rw [World.size_alloc] at A2
    have HB := Lib.hid (bl_then (bl_alloc (bl_alloc (Below.refl _ w) _) _) hb)
    have hne : ((chkE false : Int) != 0) = true := by decide
    clear hb
    go_wp2_with (refine st_tr (w.heap.size + 1) zw_len A2.out rfl rfl _ _ rfl rfl rfl ?_)
    refine bodyPost_ret (v := .tuple #[.agg (tvv 0 zw), .int .i64 130]) ?_ rfl ⟨rfl, bl_row HB.out (by omega) _⟩
    refine (results_cell_tmp (p := 2) (t := 3) (by rfl) _ _ (w.heap.size + 1) 26 _ _ _ ?_ (setRow_heap _ _ _ _ _ _ A2.out) Try.underlying26 rfl (tr_z _ _ zw_len)).trans ?_ <;> rfl
  · obtain ⟨hn1, hn64, _, _⟩ := goodT_spec hg
    obtain ⟨m, rfl⟩ := Int.eq_ofNat_of_zero_le (show 0 ≤ n by omega)
    have hm1 : 1 ≤ m := by omega
    have hm64 : m ≤ 64 := by omega
    obtain ⟨hgd, _⟩ := gd_of hg
    rw [hg, Int.toNat_natCast] at HLS
    have HLEN := Lib.hid hgd.len
    have HIN := Lib.hid hgd.lt
    have HY : Hid ((lsT true m ws).Nodup → invN m ws = m ∧ invW m ws = pks (inv m (lsT true m ws)) m ∧ invE m ws = 0) := Lib.hid (fun hd => by
      have : okI m ws = true := by unfold okI; rw [hg, Int.toNat_natCast, decide_eq_true hd]; rfl
      unfold invN invW invE
      rw [this, Int.toNat_natCast]; exact ⟨rfl, rfl, rfl⟩)
    have HNO : Hid (¬ (lsT true m ws).Nodup → invN m ws = 0 ∧ invW m ws = zw ∧ invE m ws = 130) := Lib.hid (fun hd => by
      have : okI m ws = false := by unfold okI; rw [hg, Int.toNat_natCast, decide_eq_false hd]; rfl
      unfold invN invW invE
      rw [this]; exact ⟨rfl, rfl, rfl⟩)
    generalize lsT true m ws = l at *
    generalize invN m ws = RN at *
    generalize invW m ws = RW at *
    generalize invE m ws = RE at *
    clear hn1 hn64 hg hgd
    go_enter Try.func77, Try.ntmps77
    go_wp2_with (refine ld_tr w.heap.size HL.out (hp_old (hp_new rfl)) rfl _ rfl rfl ?_)
    refine (HLS.out _).mono ?_
    rintro e w1 ⟨v, rfl, ho, hb⟩
    obtain ⟨A, c, rfl, hmc, hC⟩ := own_slice m HLEN.out ho
    have HC := Aside0.mk hC
    have A2 := Lib.hid (hp_below' hb (hp_new (w := w.alloc (.cells (tvv m ws) 26)) rfl))
    rw [World.size_alloc] at A2
    have HB := Lib.hid (bl_then (bl_alloc (bl_alloc (Below.refl _ w) _) _) hb)
    have hne : ((chkE true : Int) != 0) = false := by decide
    clear hb ho hC hmc
    go_wp2_with (first | (refine wpl_make m (by omega) rfl _ _ rfl rfl rfl ?_) | (refine wpl_makeb m (by omega) rfl _ _ rfl rfl rfl ?_))
    clear hne
    have hw1 : w.heap.size + 1 < w1.heap.size := hp_lt A2.out
    go_loopw [8] (fun i wr => ∃ k : Nat, k ≤ m ∧ i = .int .i64 k ∧ Hid (∀ q, q < k → ∀ i, i < q → l.getD i 0 ≠ l.getD q 0) ∧ Hid (wr.heap[w1.heap.size]? = some (.cells (img (ob l m k)) 3 (0, 0)) ∧ wr.heap[w1.heap.size + 1]? = some (.cells (bimg (mb l m k)) 4 (0, 0)) ∧ Below w1.heap.size w1 wr)) (fun i _ => m - (intOf i).toNat)
    case atStart =>
      refine ⟨0, by omega, rfl, Lib.hid (fun q hq => absurd hq (by omega)), Lib.hid ⟨?_, ?_, bl_alloc (bl_alloc (Below.refl _ _) _) _⟩⟩
      · rw [ob_zero]; exact hp_old (hp_new rfl)
      · rw [mb_zero]; exact hp_new (by simp)
    case round =>
      obtain ⟨k, hk, rfl, HF, H⟩ := hrel
      have G1 := Lib.hid H.out.1
      have G2 := Lib.hid H.out.2.1
      have G3 := Aside0.mk H.out.2.2
      clear H
      by_cases hkm : k < m
      · have hy := HIN.out k hkm
        obtain ⟨ad, rfl⟩ := at_some HC.out k hkm
        have c1 := at_cell (Kd.C_below HC.out G3.out) k hkm
        have hadb : ad.block < w1.heap.size := by
          have := World.block_lt_of_cell? _ _ (at_cell HC.out k hkm)
          have e : (ad.add k).block = ad.block := by unfold Addr.add; split <;> rfl
          rwa [e] at this
        have c2 : wr.cell? ⟨w1.heap.size + 1, l.getD k 0, none⟩ = some (.bool ((l.take k).contains (l.getD k 0))) := by rw [cell_of_row _ _ _ _ _ _ G2.out, bimg_get _ _ (by rw [mb_len]; exact hy), mb_get _ _ _ _ hy]
        by_cases hin : (l.take k).contains (l.getD k 0) = true
        · obtain ⟨i, hi, e⟩ := (take_mem (by rw [HLEN.out]; omega)).1 hin
          obtain ⟨e1, e2, e3⟩ := HNO.out (nodup_not HLEN.out hkm hi e)
          have E1 := Lib.hid e1; have E2 := Lib.hid e2; have E3 := Lib.hid e3
          have A3 := Lib.hid ((G3.out.block (w.heap.size + 1) hw1).trans A2.out)
          have HBW := Lib.hid (bl_then HB.out G3.out)
          rw [hin] at c2
          clear e hin e1 e2 e3
          generalize l.getD k 0 = y at *
          go_wp2_with (refine st_tr (w.heap.size + 1) zw_len A3.out rfl rfl _ _ rfl rfl rfl ?_)
          refine bodyPost_ret (v := .tuple #[.agg (tvv 0 zw), .int .i64 130]) ?_ rfl ⟨by rw [E1.out, E2.out, E3.out], bl_row HBW.out (by omega) _⟩
          refine (results_cell_tmp (p := 2) (t := 3) (by rfl) _ _ (w.heap.size + 1) 26 _ _ _ ?_ (setRow_heap _ _ _ _ _ _ A3.out) Try.underlying26 rfl (tr_z _ _ zw_len)).trans ?_ <;> rfl
        · have hnew : ∀ i, i < k → l.getD i 0 ≠ l.getD k 0 := fun i hi e => hin ((take_mem (by rw [HLEN.out]; omega)).2 ⟨i, hi, e⟩)
          have HF2 : Hid (∀ q, q < k + 1 → ∀ i, i < q → l.getD i 0 ≠ l.getD q 0) := Lib.hid (fun q hq i hi => by
            by_cases e : q = k
            · subst e; exact hnew i hi
            · exact HF.out q (by omega) i hi)
          have HS1 := Lib.hid (ob_set HLEN.out hkm hnew)
          have HS2 := Lib.hid (mb_set HLEN.out hkm)
          have hinf : (l.take k).contains (l.getD k 0) = false := by simpa using hin
          rw [hinf] at c2
          have f2 : wr.frozen? ⟨w1.heap.size + 1, l.getD k 0, none⟩ = false := frozen_of_row _ _ _ _ _ G2.out
          have c1b : (wr.setCell ⟨w1.heap.size + 1, l.getD k 0, none⟩ (.bool true)).cell? (ad.add k) = some (.int .i64 ((l.getD k 0 : Nat) : Int)) := by
            rw [World.cell?_setCell_other _ _ _ _ (by intro e; have := congrArg Addr.block e; have e2 : (ad.add k).block = ad.block := by unfold Addr.add; split <;> rfl
                                                      rw [e2] at this; simp only at this; omega)]
            exact c1
          have g1 : (wr.setCell ⟨w1.heap.size + 1, l.getD k 0, none⟩ (.bool true)).heap[w1.heap.size]? = some (.cells (img (ob l m k)) 3 (0, 0)) := hp_cell (by show w1.heap.size ≠ w1.heap.size + 1; omega) G1.out
          have c3 : (wr.setCell ⟨w1.heap.size + 1, l.getD k 0, none⟩ (.bool true)).cell? ⟨w1.heap.size, l.getD k 0, none⟩ = some (.int .i64 (((ob l m k).getD (l.getD k 0) 0 : Nat) : Int)) := by rw [cell_of_row _ _ _ _ _ _ g1, img_get _ _ (by rw [ob_len]; exact hy)]
          have f3 : (wr.setCell ⟨w1.heap.size + 1, l.getD k 0, none⟩ (.bool true)).frozen? ⟨w1.heap.size, l.getD k 0, none⟩ = false := frozen_of_row _ _ _ _ _ g1
          have H2 : Hid (((wr.setCell ⟨w1.heap.size + 1, l.getD k 0, none⟩ (.bool true)).setCell ⟨w1.heap.size, l.getD k 0, none⟩ (.int .i64 k)).heap[w1.heap.size]? = some (.cells (img (ob l m (k + 1))) 3 (0, 0)) ∧ ((wr.setCell ⟨w1.heap.size + 1, l.getD k 0, none⟩ (.bool true)).setCell ⟨w1.heap.size, l.getD k 0, none⟩ (.int .i64 k)).heap[w1.heap.size + 1]? = some (.cells (bimg (mb l m (k + 1))) 4 (0, 0)) ∧ Below w1.heap.size w1 ((wr.setCell ⟨w1.heap.size + 1, l.getD k 0, none⟩ (.bool true)).setCell ⟨w1.heap.size, l.getD k 0, none⟩ (.int .i64 k))) := by
            refine Lib.hid ⟨?_, hp_cell (by show w1.heap.size + 1 ≠ w1.heap.size; omega) ?_, bl_cell (bl_cell G3.out (by show w1.heap.size ≤ w1.heap.size + 1; omega) _) (by show w1.heap.size ≤ w1.heap.size; omega) _⟩
            · rw [heap_setCell_same _ _ _ _ _ _ g1, img_set, HS1.out]
            · rw [heap_setCell_same _ _ _ _ _ _ G2.out, bimg_set, HS2.out]
          clear hin hinf hnew g1 HS1 HS2
          generalize (ob l m k).getD (l.getD k 0) 0 = z at *
          generalize l.getD k 0 = y at *
          go_wp2
          go_roundw
          case rel => exact ⟨k + 1, by omega, by go_num, HF2, H2⟩
          case measure => simp [intOf]; omega
      · have : k = m := by omega
        subst this
        obtain ⟨e1, e2, e3⟩ := HY.out (nodup_pre HLEN.out HF.out)
        have E1 := Lib.hid e1; have E2 := Lib.hid e2; have E3 := Lib.hid e3
        have g1 := G1.out
        rw [ob_end hm1] at g1
        have hCI : Kd.C (Kd.int .i64) wr (some ⟨w1.heap.size, 0, none⟩) (zl (inv k l)).length (zl (inv k l)) := C_block (zl (inv k l)) g1 (by rw [zl_len, inv_len]; omega) (fun j hj => by
          rw [zl_len] at hj
          rw [img_get _ _ hj]
          have e := zl_rd (inv k l) j
          unfold rd at e
          rw [Int.toNat_natCast] at e
          rw [e])
        have PK := Aside0.mk (packed_any (some ⟨w1.heap.size, 0, none⟩) k (inv k l) wr hCI (by rw [inv_len]; exact hm64) (inv_lt64 hm64))
        rw [inv_len] at PK
        have HWL := Lib.hid (pks_len (inv k l) k)
        have A3 := Lib.hid ((G3.out.block (w.heap.size + 1) hw1).trans A2.out)
        have HBW := Lib.hid (bl_then HB.out G3.out)
        generalize pks (inv k l) k = W2 at *
        clear e1 e2 e3 g1 hCI HF
        go_wp2_with fail
        refine PK.out.mono ?_
        rintro e w2 ⟨rfl, hb⟩
        have A4 := Lib.hid (hp_below' hb A3.out)
        have HB4 := Lib.hid (bl_then HBW.out hb)
        clear hb PK
        go_wp2_with (refine st_tr (w.heap.size + 1) HWL.out A4.out rfl rfl _ _ rfl rfl rfl ?_)
        refine bodyPost_ret (v := .tuple #[.agg (tvv k W2), .int .i64 0]) ?_ rfl ⟨by rw [E1.out, E2.out, E3.out], bl_row HB4.out (by omega) _⟩
        refine (results_cell_tmp (p := 2) (t := 3) (by rfl) _ _ (w.heap.size + 1) 26 _ _ _ ?_ (setRow_heap _ _ _ _ _ _ A4.out) Try.underlying26 rfl (tr_z _ _ HWL.out)).trans ?_ <;> rfl
end Go.Proofs.Ytpebnldoimoahaa

