/- The walks of trans.same, Identity, Compose and Power. -/
import Derived.Test.YtpebnldoimoahaaTrG
namespace Go.Proofs.Ytpebnldoimoahaa
open Go.RowKit Go.Proofs.YtpebnldoimoahaaW.PrintWords

theorem padk_full (L : List Nat) (h : L.length = 64) : padk 64 L = L := by
  apply List.ext_getElem (by simp [padk, h])
  intro i h1 h2
  simp only [padk, List.length_map, List.length_range] at h1
  simp [padk, h1, List.getD_eq_getElem?_getD, List.getElem?_eq_getElem h2]
set_option maxRecDepth 100000 in
set_option maxHeartbeats 800000 in
theorem same_img_any (w : World) : Calls Try.prog 57 #[] w fun e w' => e = .returned (.agg (img (List.range 64))) ∧ Below w.heap.size w w' := by
  go_enter Try.func57, Try.ntmps57
  go_wp2
  go_loopw [3] (fun i wr => ∃ k : Nat, k ≤ 64 ∧ i = .int .i64 k ∧ Hid (wr.heap[w.heap.size + 1]? = some (.cells (img (padk k (List.range 64))) 98 (0, 0)) ∧ (∃ c, wr.heap[w.heap.size]? = some (.cells c 98 (0, 0)) ∧ c.size = 64) ∧ Below w.heap.size w wr)) (fun i _ => 64 - (intOf i).toNat)
  case atStart =>
    exact ⟨0, by omega, rfl, Lib.hid ⟨by rw [padk_zero]; exact hp_new (by simp), ⟨_, hp_old (hp_new rfl), rfl⟩, by repeat (first | exact Below.refl _ _ | refine bl_alloc ?_ _)⟩⟩
  case round =>
    obtain ⟨k, hk, rfl, H⟩ := hrel
    by_cases hkl : k < 64
    · have f1 : wr.frozen? ⟨w.heap.size + 1, k, none⟩ = false := frozen_of_row _ _ _ _ _ H.out.1
      have c1 : wr.cell? ⟨w.heap.size + 1, k, none⟩ = some (.int .i64 0) := by
        rw [cell_of_row _ _ _ _ _ _ H.out.1, img_get _ _ (by rw [padk_len]; omega), padk_getD, if_neg (by omega)]; rfl
      have H2 : Hid ((wr.setCell ⟨w.heap.size + 1, k, none⟩ (.int .i64 k)).heap[w.heap.size + 1]? = some (.cells (img (padk (k + 1) (List.range 64))) 98 (0, 0)) ∧ (∃ c, (wr.setCell ⟨w.heap.size + 1, k, none⟩ (.int .i64 k)).heap[w.heap.size]? = some (.cells c 98 (0, 0)) ∧ c.size = 64) ∧ Below w.heap.size w (wr.setCell ⟨w.heap.size + 1, k, none⟩ (.int .i64 k))) := by
        obtain ⟨g1, ⟨c, g3, g3'⟩, g4⟩ := H.out
        refine Lib.hid ⟨?_, ⟨c, hp_cell (by simp) g3, g3'⟩, bl_cell g4 (by simp) _⟩
        rw [heap_setCell_same _ _ _ _ _ _ g1, img_set, ← padk_set]
        simp [hkl]
      go_wp2
      go_roundw
      case rel => exact ⟨k + 1, by omega, by go_num, H2⟩
      case measure => simp [intOf]; omega
    · have : k = 64 := by omega
      subst this
      rw [padk_full _ (by simp)] at H
      obtain ⟨g1, ⟨c, g3, g3'⟩, g4⟩ := H.out
      have G1 := Lib.hid g1; have G3 := Lib.hid g3; have G3' := Lib.hid g3'; have G4 := Lib.hid g4
      clear g1 g3 g3' g4
      go_wp2_with (first | (refine ld_im (w.heap.size + 1) (by simp) G1.out rfl _ rfl rfl ?_) | (refine st_im w.heap.size (by simp) G3.out G3'.out rfl _ _ rfl rfl rfl ?_))
      refine bodyPost_ret (v := .agg (img (List.range 64))) ?_ rfl ⟨rfl, bl_row G4.out (by omega) _⟩
      exact results_cell_row rfl _ _ w.heap.size 98 _ _ _ rfl (setRow_heap _ _ c _ _ _ G3.out) Try.underlying98 rfl (im_z _ (by simp))

theorem range_lt (i : Nat) : (List.range 64).getD i 0 < 64 := by
  by_cases h : i < 64 <;> simp [h]
theorem zeros7_len : (List.replicate 7 (0 : Nat)).length = 7 := by simp
/-- What Identity answers. -/
def idT (n : Int) : Int × List Nat × Int := if n < 1 ∨ 64 < n then (0, List.replicate 7 0, 6) else (n, pks (List.range 64) n.toNat, 0)
set_option maxRecDepth 100000 in
set_option maxHeartbeats 800000 in
theorem identity_any (n : Int) (w : World) : Calls Try.prog 26 #[.int .i64 n] w fun e w' => e = .returned (.tuple #[.agg (tvv (idT n).1 (idT n).2.1), .int .i64 (idT n).2.2]) ∧ Below w.heap.size w w' := by
  by_cases hs : n < 1 ∨ 64 < n
  · have HE : Hid (idT n = (0, List.replicate 7 0, 6)) := Lib.hid (if_pos hs)
    have hd : (decide (n < 1) || decide (64 < n)) = true := by simp; omega
    clear hs
    go_enter Try.func26, Try.ntmps26
    go_wp2_with (refine st_tr w.heap.size (n := 0) (l := List.replicate 7 0) (by simp) (hp_new rfl) rfl rfl _ _ rfl rfl rfl ?_)
    all_goals
      refine bodyPost_ret (v := .tuple #[.agg (tvv 0 (List.replicate 7 0)), .int .i64 6]) ?_ rfl ⟨by rw [HE.out], bl_row (bl_alloc (Below.refl _ _) _) (by omega) _⟩
      refine (results_cell_tmp (p := 2) (t := 3) (by rfl) _ _ w.heap.size 26 _ _ _ ?_ (setRow_heap _ _ _ _ _ _ (hp_new rfl)) Try.underlying26 rfl (tr_z _ _ (by simp))).trans ?_ <;> rfl
  · have HE : Hid (idT n = (n, pks (List.range 64) n.toNat, 0)) := Lib.hid (if_neg hs)
    have h1 : 1 ≤ n := by omega
    have h2 : n ≤ 64 := by omega
    clear hs
    obtain ⟨m, rfl⟩ := Int.eq_ofNat_of_zero_le (show 0 ≤ n by omega)
    rw [Int.toNat_natCast] at HE
    go_enter Try.func26, Try.ntmps26
    go_wp2_with fail
    refine (same_img_any _).mono ?_
    rintro e w1 ⟨rfl, hb⟩
    have HB := Lib.hid hb; clear hb
    go_wp2_with fail
    refine (pack_any m (List.range 64) (by omega) (by simp) range_lt _).mono ?_
    rintro e w2 ⟨rfl, hb⟩
    have HB2 := Lib.hid hb; clear hb
    have G4 := Lib.hid (hp_below' HB2.out (hp_below' HB.out (hp_new (w := w) rfl)))
    have G5 := Lib.hid (bl_then (bl_then (bl_alloc (Below.refl _ w) _) HB.out) HB2.out)
    go_wp2_with (refine st_tr w.heap.size (pks_len _ _) G4.out rfl rfl _ _ rfl rfl rfl ?_)
    refine bodyPost_ret (v := .tuple #[.agg (tvv m (pks (List.range 64) m)), .int .i64 0]) ?_ rfl ⟨by rw [HE.out], bl_row G5.out (by omega) _⟩
    refine (results_cell_tmp (p := 2) (t := 3) (by rfl) _ _ w.heap.size 26 _ _ _ ?_ (setRow_heap _ _ _ _ _ _ G4.out) Try.underlying26 rfl (tr_z _ _ (pks_len _ _))).trans ?_ <;> rfl
end Go.Proofs.Ytpebnldoimoahaa
