/- The walks of the statements' small helpers: num, knows. -/
import Derived.Test.YtpebnldoimoahaaTrF
import Derived.Test.YtpebnldoimoahaaSl
namespace Go.Proofs.Ytpebnldoimoahaa
open Go.RowKit Go.Proofs.YtpebnldoimoahaaW.PrintWords

theorem num_any (x : Int) (w : World) : Calls Try.prog 17 #[.int .i64 x] w fun e w' => e = .returned (.int .i64 x) ∧ w = w' := by
  go_enter Try.func17, Try.ntmps17
  go_wp2
  go_ret
  exact ⟨rfl, rfl⟩
theorem knows_make : makeT [1, 2, 0, 3] = (4, [786561, 0, 0, 0, 0, 0, 0], 0) := by kernel_rfl
theorem knows_good : goodT 4 [786561, 0, 0, 0, 0, 0, 0] = true := by kernel_rfl
theorem knows_cyc : cyc (ims 4 [786561, 0, 0, 0, 0, 0, 0]) 4 4 = (0, 3) := by kernel_rfl
set_option maxRecDepth 100000 in
set_option maxHeartbeats 1000000 in
theorem knows_any (w : World) : Calls Try.prog 21 #[] w fun e w' => e = .returned (.bool true) ∧ Below w.heap.size w w' := by
  go_enter Try.func21, Try.ntmps21
  go_wp2_with fail
  refine (make_any (some ⟨w.heap.size, 0, none⟩) 4 [1, 2, 0, 3] _ ?hc).mono ?_
  case hc =>
    refine C_block [1, 2, 0, 3] (hp_new rfl) (by decide) ?_
    intro j hj
    match j, hj with
    | 0, _ => rfl
    | 1, _ => rfl
    | 2, _ => rfl
    | 3, _ => rfl
  rintro e w1 ⟨rfl, hb⟩
  rw [knows_make]
  have HB := Lib.hid hb; clear hb
  go_wp2_with (first | (refine st_tr_new (n := 4) (l := [786561, 0, 0, 0, 0, 0, 0]) rfl rfl rfl _ _ rfl rfl rfl ?_) | (refine ld_tr w1.heap.size (n := 4) (l := [786561, 0, 0, 0, 0, 0, 0]) rfl (hp_new rfl) rfl _ rfl rfl ?_))
  refine (cycle_any 4 [786561, 0, 0, 0, 0, 0, 0] rfl (Lib.hid ?hs) _).mono ?_
  case hs =>
    intro i
    match i with
    | 0 => decide
    | 1 => decide
    | 2 => decide
    | 3 => decide
    | 4 => decide
    | 5 => decide
    | 6 => decide
    | i + 7 => simp
  rintro e w2 ⟨rfl, hb⟩
  rw [knows_good, if_pos rfl, show (4 : Int).toNat = 4 from rfl, knows_cyc]
  have HB2 := Lib.hid hb; clear hb
  have HC := Lib.hid (hp_below' HB2.out (hp_new (w := w1) (o := .cells (tvv 4 [786561, 0, 0, 0, 0, 0, 0]) 26) rfl))
  have c0 : w2.cell? ⟨w1.heap.size, 0, none⟩ = some (.int .i64 4) := by rw [cell_of_row _ _ _ _ _ _ HC.out]; rfl
  have c1 : w2.cell? ⟨w1.heap.size, 1, none⟩ = some (.int .u64 786561) := by rw [cell_of_row _ _ _ _ _ _ HC.out]; rfl
  go_wp2_with (first | (go_at_call 17; refine (num_any _ _).mono ?_; rintro e w' ⟨rfl, rfl⟩))
  go_ret
  exact ⟨rfl, bl_trans (bl_alloc (bl_trans (bl_alloc (Below.refl _ _) _) (by simp) HB.out) _) (by have := HB.out.size; simp at this ⊢; omega) HB2.out⟩
end Go.Proofs.Ytpebnldoimoahaa
