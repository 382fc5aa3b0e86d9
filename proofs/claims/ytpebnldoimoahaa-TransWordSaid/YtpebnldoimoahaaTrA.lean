/- The walks of trans.behind and its kin: images as lists of natural numbers. -/
import Derived.Test.YtpebnldoimoahaaWords
namespace Go.Proofs.Ytpebnldoimoahaa
open Go.RowKit

/-- The cells of a list of images. -/
def img (l : List Nat) : Array Value := (l.map (fun (n : Nat) => Value.int .i64 n)).toArray
theorem img_size (l : List Nat) : (img l).size = l.length := by simp [img]
theorem img_get (l : List Nat) (i : Nat) (h : i < l.length) : (img l)[i]? = some (.int .i64 (l.getD i 0 : Nat)) := by
  simp [img, List.getElem?_eq_getElem h]
theorem img_set (l : List Nat) (i v : Nat) : (img l).setIfInBounds i (.int .i64 v) = img (l.set i v) := by
  simp [img, List.map_set]
theorem img_one (l : List Nat) : (img l).all (·.oneCell') = true := by
  simp [img, Value.oneCell']

/-- behind, the first k points done. -/
def bhd (k : Nat) (a b : List Nat) : List Nat := (List.range 64).map fun i => if i < k then b.getD (a.getD i 0) 0 else a.getD i 0
theorem bhd_len (k : Nat) (a b : List Nat) : (bhd k a b).length = 64 := by simp [bhd]
theorem bhd_zero (a b : List Nat) (h : a.length = 64) : bhd 0 a b = a := by
  apply List.ext_getElem (by simp [bhd, h])
  intro i h1 h2
  simp [bhd, h2]
theorem bhd_get (k : Nat) (a b : List Nat) (hk : k < 64) : (bhd k a b).getD k 0 = a.getD k 0 := by simp [bhd, hk]
theorem bhd_set (k : Nat) (a b : List Nat) : (bhd k a b).set k (b.getD (a.getD k 0) 0) = bhd (k + 1) a b := by
  apply List.ext_getElem (by simp [bhd])
  intro i h1 h2
  simp only [bhd, List.length_map, List.length_range] at h2
  simp only [bhd, List.getElem_set, List.getElem_map, List.getElem_range]
  by_cases e : k = i
  · subst e; simp
  · rw [if_neg e]
    by_cases h : i < k
    · rw [if_pos h, if_pos (by omega)]
    · rw [if_neg h, if_neg (by omega)]

def Bh (w wr : World) (l b : List Nat) : Prop := wr.heap[w.heap.size]? = some (.cells (img l) 98 (0, 0)) ∧ wr.heap[w.heap.size + 1]? = some (.cells (img b) 98 (0, 0)) ∧ (∃ c, wr.heap[w.heap.size + 1 + 1]? = some (.cells c 98 (0, 0)) ∧ c.size = 64) ∧ Below w.heap.size w wr
set_option maxHeartbeats 400000 in
theorem behind_any (n : Nat) (a b : List Nat) (h1 : n ≤ 64) (ha : a.length = 64) (hb : b.length = 64) (hin : ∀ i, a.getD i 0 < 64) (w : World) :
    Calls Try.prog 58 #[.int .i64 n, .agg (img a), .agg (img b)] w fun e w' => e = .returned (.agg (img (bhd n a b))) ∧ Below w.heap.size w w' := by
  have HA := Lib.hid ha; clear ha
  have HB := Lib.hid hb; clear hb
  have HI := Lib.hid hin; clear hin
  go_enter Try.func58, Try.ntmps58
  go_wp2
  go_loopw [9] (fun i wr => ∃ k : Nat, k ≤ n ∧ i = .int .i64 k ∧ Bh w wr (bhd k a b) b) (fun i _ => n - (intOf i).toNat)
  case atStart =>
    refine ⟨0, by omega, rfl, ?_⟩
    rw [bhd_zero a b HA.out]
    exact ⟨by repeat (first | exact hp_new (by simp) | refine hp_old ?_), by repeat (first | exact hp_new (by simp) | refine hp_old ?_), ⟨_, hp_new (by simp), rfl⟩, by repeat (first | exact Below.refl _ _ | refine bl_alloc ?_ _)⟩
  case round =>
    obtain ⟨k, hk, rfl, H⟩ := hrel
    by_cases hlt : k < n
    · have hk64 : k < 64 := by omega
      have hx64 := HI.out k
      have c1 : wr.cell? ⟨w.heap.size, k, none⟩ = some (.int .i64 ((a.getD k 0 : Nat) : Int)) := by
        rw [cell_of_row _ _ _ _ _ _ H.1, img_get _ _ (by rw [bhd_len]; omega), bhd_get k a b hk64]
      have c2 : wr.cell? ⟨w.heap.size + 1, a.getD k 0, none⟩ = some (.int .i64 ((b.getD (a.getD k 0) 0 : Nat) : Int)) := by
        rw [cell_of_row _ _ _ _ _ _ H.2.1, img_get _ _ (by rw [HB.out]; omega)]
      have f1 : wr.frozen? ⟨w.heap.size, k, none⟩ = false := frozen_of_row _ _ _ _ _ H.1
      have H2 : Bh w (wr.setCell ⟨w.heap.size, k, none⟩ (.int .i64 ((b.getD (a.getD k 0) 0 : Nat) : Int))) (bhd (k+1) a b) b := by
        obtain ⟨g1, g2, ⟨c, g3, g3'⟩, g4⟩ := H
        refine ⟨?_, hp_cell (by simp) g2, ⟨c, hp_cell (by simp; omega) g3, g3'⟩, bl_cell g4 (by simp) _⟩
        rw [heap_setCell_same _ _ _ _ _ _ g1, img_set, bhd_set k a b]
      clear H
      have H2 := Lib.hid H2
      generalize a.getD k 0 = x at *
      generalize b.getD x 0 = y at *
      go_wp2
      go_roundw
      case rel => exact ⟨k+1, by omega, by go_num, H2.out⟩
      case measure => simp [intOf]; omega
    · have : k = n := by omega
      subst this
      obtain ⟨g1, g2, ⟨c, g3, g3'⟩, g4⟩ := H
      have G1 := Lib.hid g1; have G3 := Lib.hid g3; have G3' := Lib.hid g3'; have G4 := Lib.hid g4
      clear g1 g2 g3 g3' g4
      go_wp2_with (first | (refine wpList_load_row rfl 98 _ rfl w.heap.size rfl 98 _ _ (.array 64 3) G1.out (by kernel_rfl) rfl (by rw [img_size, bhd_len]; kernel_rfl) ?_) | (refine wpList_store_row rfl 98 _ _ rfl (w.heap.size+1+1) _ rfl rfl 98 c G3.out (by rw [img_size, bhd_len]; kernel_rfl) (by rw [G3'.out, img_size, bhd_len]) (img_one _) ?_))
      refine bodyPost_ret (v := .agg (img (bhd k a b))) ?_ rfl ⟨rfl, bl_row G4.out (by omega) _⟩
      exact results_cell_row rfl _ _ (w.heap.size+1+1) 98 _ _ (.array 64 3) rfl (setRow_heap _ _ c _ _ _ G3.out) (by kernel_rfl) rfl (by rw [img_size, bhd_len]; kernel_rfl)
end Go.Proofs.Ytpebnldoimoahaa
