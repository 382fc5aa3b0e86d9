/- The walks of the reference's Packed and Images. -/
import Derived.Test.YtpebnldoimoahaaTrG
namespace Go.Proofs.Ytpebnldoimoahaa
open Go.RowKit Go.Proofs.YtpebnldoimoahaaW.PrintWords
/-- Natural numbers as Go's. -/
def zl (l : List Nat) : List Int := l.map fun (n : Nat) => (n : Int)
theorem zl_len (l : List Nat) : (zl l).length = l.length := by simp [zl]
theorem zl_rd (l : List Nat) (i : Nat) : rd (zl l) i = ((l.getD i 0 : Nat) : Int) := by
  unfold rd zl
  rw [Int.toNat_natCast]
  simp only [List.getD_eq_getElem?_getD, List.getElem?_map]
  cases l[i]? <;> rfl
def Pd (w wr : World) (n : Int) (ws : List Nat) : Prop := wr.heap[w.heap.size + 1]? = some (.cells (tvv n ws) 26 (0, 0)) ∧ (∃ c, wr.heap[w.heap.size]? = some (.cells c 26 (0, 0)) ∧ c.size = 8) ∧ Below w.heap.size w wr
set_option maxRecDepth 100000 in
set_option maxHeartbeats 800000 in
theorem packed_any (A : Option Addr) (c : Nat) (l : List Nat) (w : World) (hr : Kd.C (Kd.int .i64) w A (zl l).length (zl l)) (hn : l.length ≤ 64) (hlt : ∀ i, l.getD i 0 < 64) :
    Calls Try.prog 54 #[.slice A l.length c] w fun e w' => e = .returned (.agg (tvv l.length (pks l l.length))) ∧ Below w.heap.size w w' := by
  have HR := Aside0.mk hr
  have HI := Lib.hid hlt
  clear hr hlt
  go_enter Try.func54, Try.ntmps54
  go_wp2
  go_loopw [4] (fun i wr => ∃ k : Nat, k ≤ l.length ∧ i = .int .i64 k ∧ Pd w wr l.length (pks l k)) (fun i _ => l.length - (intOf i).toNat)
  case atStart =>
    refine ⟨0, by omega, rfl, ?_⟩
    rw [pks_zero]
    unfold Pd
    rw [tvv_zeros]
    exact ⟨hp_new (by simp), ⟨_, hp_old (hp_new rfl), rfl⟩, by repeat (first | exact Below.refl _ _ | refine bl_alloc ?_ _)⟩
  case round =>
    obtain ⟨k, hk, rfl, H⟩ := hrel
    by_cases hkl : k < l.length
    · obtain ⟨ad, rfl, hcell⟩ := Kd.at_int (Kd.C_below HR.out H.2.2) k (by omega) (by rw [zl_len]; omega)
      rw [Int.toNat_natCast, zl_rd] at hcell
      have hk64 : k < 64 := by omega
      have c1 : wr.cell? ⟨w.heap.size + 1, 1 + k / 10, none⟩ = some (.int .u64 ((pw l (10 * (k / 10)) (k % 10) : Nat) : Int)) := by
        rw [cell_of_row _ _ _ _ _ _ H.1, tvv_get _ _ _ (by rw [pks_len]; omega), pks_at l k hk64]
      have f1 : wr.frozen? ⟨w.heap.size + 1, 1 + k / 10, none⟩ = false := frozen_of_row _ _ _ _ _ H.1
      have hy := HI.out k
      have hv := or_in (pw l (10 * (k / 10)) (k % 10)) (l.getD k 0) (k % 10) (pw_lt l _ HI.out _) hy (by omega)
      have H2 : Pd w (wr.setCell ⟨w.heap.size + 1, 1 + k / 10, none⟩ (.int .u64 (bits .or .u64 ((pw l (10 * (k / 10)) (k % 10) : Nat) : Int) (IntKind.u64.wrap (((l.getD k 0 : Nat) : Int) * 2 ^ (6 * (k % 10))))))).drew l.length (pks l (k + 1)) := by
        obtain ⟨g2, ⟨c, g3, g3'⟩, g4⟩ := H
        rw [hv]
        refine ⟨?_, ⟨c, hp_cell (by simp) g3, g3'⟩, (bl_cell g4 (by simp) _).drew⟩
        rw [heap_drew, heap_setCell_same _ _ _ _ _ _ g2, tvv_set, pks_set l k]
      clear H hv
      have H2 := Lib.hid H2
      generalize l.getD k 0 = y at *
      generalize pw l (10 * (k / 10)) (k % 10) = x at *
      go_wp2
      go_region
      go_wp2
      go_roundw
      case rel => exact ⟨k+1, by omega, by go_num, H2.out⟩
      case measure => simp [intOf]; omega
    · have : k = l.length := by omega
      subst this
      obtain ⟨g2, ⟨c, g3, g3'⟩, g4⟩ := H
      have G2 := Lib.hid g2; have G3 := Lib.hid g3; have G3' := Lib.hid g3'; have G4 := Lib.hid g4
      clear g2 g3 g3' g4
      go_wp2_with (first | (refine ld_tr (w.heap.size + 1) (pks_len _ _) G2.out rfl _ rfl rfl ?_) | (refine st_tr w.heap.size (pks_len _ _) G3.out G3'.out rfl _ _ rfl rfl rfl ?_))
      refine bodyPost_ret (v := .agg (tvv l.length (pks l l.length))) ?_ rfl ⟨rfl, bl_row G4.out (by omega) _⟩
      exact results_cell_row rfl _ _ w.heap.size 26 _ _ _ rfl (setRow_heap _ _ c _ _ _ G3.out) Try.underlying26 rfl (tr_z _ _ (pks_len _ _))
end Go.Proofs.Ytpebnldoimoahaa
