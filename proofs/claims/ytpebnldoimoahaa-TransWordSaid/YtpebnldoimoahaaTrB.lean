/- The walk of trans.pack. -/
import Derived.Test.YtpebnldoimoahaaTrA
import Derived.Test.YtpebnldoimoahaaPack
namespace Go.Proofs.Ytpebnldoimoahaa
open Go.RowKit
/-- The cells of a packed transformation. -/
def tvv (n : Int) (ws : List Nat) : Array Value := (Value.int .i64 n :: ws.map (fun (x : Nat) => Value.int .u64 x)).toArray
theorem tvv_size (n : Int) (ws : List Nat) : (tvv n ws).size = ws.length + 1 := by simp [tvv]
theorem tvv_zero (n : Int) (ws : List Nat) : (tvv n ws)[0]? = some (.int .i64 n) := by simp [tvv]
theorem tvv_get (n : Int) (ws : List Nat) (j : Nat) (h : j < ws.length) : (tvv n ws)[1 + j]? = some (.int .u64 (ws.getD j 0 : Nat)) := by
  rw [Nat.add_comm]; simp [tvv, List.getElem?_eq_getElem h]
theorem tvv_set (n : Int) (ws : List Nat) (j v : Nat) : (tvv n ws).setIfInBounds (1 + j) (.int .u64 v) = tvv n (ws.set j v) := by
  rw [Nat.add_comm]; simp [tvv, List.map_set]
theorem tvv_one (n : Int) (ws : List Nat) : (tvv n ws).all (·.oneCell') = true := by simp [tvv, Value.oneCell']
theorem tvv_zeros (n : Int) : tvv n (List.replicate 7 0) = #[.int .i64 n, .int .u64 0, .int .u64 0, .int .u64 0, .int .u64 0, .int .u64 0, .int .u64 0, .int .u64 0] := by
  simp [tvv, List.replicate]

def Pk (w wr : World) (n : Int) (l ws : List Nat) : Prop := wr.heap[w.heap.size]? = some (.cells (img l) 98 (0, 0)) ∧ wr.heap[w.heap.size + 1 + 1]? = some (.cells (tvv n ws) 26 (0, 0)) ∧ (∃ c, wr.heap[w.heap.size + 1]? = some (.cells c 26 (0, 0)) ∧ c.size = 8) ∧ Below w.heap.size w wr
set_option maxHeartbeats 400000 in
theorem pack_any (n : Nat) (a : List Nat) (h1 : n ≤ 64) (ha : a.length = 64) (hin : ∀ i, a.getD i 0 < 64) (w : World) :
    Calls Try.prog 53 #[.int .i64 n, .agg (img a)] w fun e w' => e = .returned (.agg (tvv n (pks a n))) ∧ Below w.heap.size w w' := by
  have HA := Lib.hid ha; clear ha
  have HI := Lib.hid hin; clear hin
  go_enter Try.func53, Try.ntmps53
  go_wp2
  go_loopw [10] (fun i wr => ∃ k : Nat, k ≤ n ∧ i = .int .i64 k ∧ Pk w wr n a (pks a k)) (fun i _ => n - (intOf i).toNat)
  case atStart =>
    refine ⟨0, by omega, rfl, ?_⟩
    rw [pks_zero]
    unfold Pk
    rw [tvv_zeros]
    exact ⟨by repeat (first | exact hp_new (by simp) | refine hp_old ?_), hp_new (by simp), ⟨_, hp_old (hp_new (by simp)), rfl⟩, by repeat (first | exact Below.refl _ _ | refine bl_alloc ?_ _)⟩
  case round =>
    obtain ⟨k, hk, rfl, H⟩ := hrel
    by_cases hlt : k < n
    · have hk64 : k < 64 := by omega
      have c1 : wr.cell? ⟨w.heap.size + 1 + 1, 1 + k / 10, none⟩ = some (.int .u64 ((pw a (10 * (k / 10)) (k % 10) : Nat) : Int)) := by
        rw [cell_of_row _ _ _ _ _ _ H.2.1, tvv_get _ _ _ (by rw [pks_len]; omega), pks_at a k hk64]
      have c2 : wr.cell? ⟨w.heap.size, k, none⟩ = some (.int .i64 ((a.getD k 0 : Nat) : Int)) := by
        rw [cell_of_row _ _ _ _ _ _ H.1, img_get _ _ (by rw [HA.out]; omega)]
      have f1 : wr.frozen? ⟨w.heap.size + 1 + 1, 1 + k / 10, none⟩ = false := frozen_of_row _ _ _ _ _ H.2.1
      have hy := HI.out k
      have hv := or_in (pw a (10 * (k / 10)) (k % 10)) (a.getD k 0) (k % 10) (pw_lt a _ HI.out _) hy (by omega)
      have H2 : Pk w (wr.setCell ⟨w.heap.size + 1 + 1, 1 + k / 10, none⟩ (.int .u64 (bits .or .u64 ((pw a (10 * (k / 10)) (k % 10) : Nat) : Int) (IntKind.u64.wrap (((a.getD k 0 : Nat) : Int) * 2 ^ (6 * (k % 10))))))).drew n a (pks a (k + 1)) := by
        obtain ⟨g1, g2, ⟨c, g3, g3'⟩, g4⟩ := H
        rw [hv]
        refine ⟨hp_cell (by simp; omega) g1, ?_, ⟨c, hp_cell (by simp) g3, g3'⟩, (bl_cell g4 (by simp; omega) _).drew⟩
        rw [heap_drew, heap_setCell_same _ _ _ _ _ _ g2, tvv_set, pks_set a k]
      clear H hv
      have H2 := Lib.hid H2
      generalize a.getD k 0 = y at *
      generalize pw a (10 * (k / 10)) (k % 10) = x at *
      go_wp2
      go_region
      go_wp2
      go_roundw
      case rel => exact ⟨k+1, by omega, by go_num, H2.out⟩
      case measure => simp [intOf]; omega
    · have : k = n := by omega
      subst this
      obtain ⟨g1, g2, ⟨c, g3, g3'⟩, g4⟩ := H
      have G1 := Lib.hid g1; have G2 := Lib.hid g2; have G3 := Lib.hid g3; have G3' := Lib.hid g3'; have G4 := Lib.hid g4
      clear g1 g2 g3 g3' g4
      go_wp2_with (first | (refine wpList_load_row rfl 26 _ rfl (w.heap.size+1+1) rfl 26 _ _ _ G2.out Try.underlying26 rfl (by rw [tvv_size, pks_len]; kernel_rfl) ?_) | (refine wpList_store_row rfl 26 _ _ rfl (w.heap.size+1) _ rfl rfl 26 c G3.out (by rw [tvv_size, pks_len]; kernel_rfl) (by rw [G3'.out, tvv_size, pks_len]) (tvv_one _ _) ?_))
      refine bodyPost_ret (v := .agg (tvv k (pks a k))) ?_ rfl ⟨rfl, bl_row G4.out (by omega) _⟩
      exact results_cell_row rfl _ _ (w.heap.size+1) 26 _ _ _ rfl (setRow_heap _ _ c _ _ _ G3.out) Try.underlying26 rfl (by rw [tvv_size, pks_len]; kernel_rfl)
end Go.Proofs.Ytpebnldoimoahaa
