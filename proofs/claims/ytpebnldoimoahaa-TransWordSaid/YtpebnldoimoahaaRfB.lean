/- The walk of the reference's Images. -/
import Derived.Test.YtpebnldoimoahaaRfA
namespace Go.Proofs.Ytpebnldoimoahaa
open Go.RowKit Go.Proofs.YtpebnldoimoahaaW.PrintWords
/-- The first k images. -/
def imk (k : Nat) (ws : List Nat) : List Nat := (List.range k).map (im ws)
theorem imk_len (k : Nat) (ws : List Nat) : (imk k ws).length = k := by simp [imk]
theorem imk_succ (k : Nat) (ws : List Nat) : zl (imk (k + 1) ws) = zl (imk k ws) ++ [((im ws k : Nat) : Int)] := by
  simp [imk, zl, List.range_succ]
set_option maxRecDepth 100000 in
set_option maxHeartbeats 800000 in
theorem images_any (n : Nat) (ws : List Nat) (h1 : n ≤ 64) (hl : ws.length = 7) (hw : Hid (∀ i, ws.getD i 0 < 18446744073709551616)) (w : World) :
    Calls Try.prog 56 #[.agg (tvv n ws)] w fun e w' => ∃ v, e = .returned v ∧ Own w' w.heap.size v (zl (imk n ws)) ∧ Below w.heap.size w w' := by
  have HL := Lib.hid hl; clear hl
  go_enter Try.func56, Try.ntmps56
  go_wp2
  go_loopw [3, 4] (fun v i wr => ∃ k : Nat, k ≤ n ∧ i = .int .i64 k ∧ Hid (wr.heap[w.heap.size]? = some (.cells (tvv n ws) 26 (0, 0)) ∧ Own wr w.heap.size v (zl (imk k ws)) ∧ Below w.heap.size w wr)) (fun _ i _ => n - (intOf i).toNat)
  case atStart =>
    exact ⟨0, by omega, rfl, Lib.hid ⟨hp_new rfl, Kd.R_nil _ _ _ _ _, bl_alloc (Below.refl _ _) _⟩⟩
  case round =>
    obtain ⟨k, hk, rfl, H⟩ := hrel
    have c0 : wr.cell? ⟨w.heap.size, 0, none⟩ = some (.int .i64 n) := by rw [cell_of_row _ _ _ _ _ _ H.out.1, tvv_zero]
    by_cases hkl : k < n
    · have hk64 : k < 64 := by omega
      have c1 : wr.cell? ⟨w.heap.size, 1 + k / 10, none⟩ = some (.int .u64 ((ws.getD (k / 10) 0 : Nat) : Int)) := by
        rw [cell_of_row _ _ _ _ _ _ H.out.1, tvv_get _ _ _ (by rw [HL.out]; omega)]
      have hv : bits .and .u64 (((ws.getD (k / 10) 0 : Nat) : Int) / 2 ^ (6 * (k % 10))) 63 = ((im ws k : Nat) : Int) := shr_in _ _ (hw.out _)
      have hi1 : im ws k < 64 := im_lt ws k
      have HK := Lib.hid (imk_succ k ws)
      generalize im ws k = y at *
      generalize ws.getD (k / 10) 0 = x at *
      have HO := Aside0.mk H.out.2.1
      have HB := Aside0.mk H.out.2.2
      have HX := Lib.hid H.out.1
      clear H
      have HLK := Lib.hid (show (zl (imk k ws)).length = k by rw [zl_len, imk_len])
      generalize zl (imk k ws) = xs at *
      go_wp2_with (first | (at_builtin; (refine Kd.R_append (Kd.int .i64) (w0 := w) w.heap.size rfl (.tmp 15) (.tmp 28) 22 3 (.int .i64 0) 8 rfl Try.underlying22 info_int rfl (by decide) (by omega) u3 xs (y : Int) [.int .i64 y] (fun _ => True) (fun _ => False) rfl rfl ?aP (fun _ hk => hk.elim) ?aF ?aO ?aB ?aS ?aL ?_); (case aP => exact rfl); (case aB => exact HB.out); (case aF => exact (fun _ _ => trivial)); (case aO => exact HO.out); (case aS => exact below_size HB.out); (case aL => have := HLK.out; omega); intro v1 w1 ho hb hg hat; have HO1 := Aside0.mk ho; have HB1 := Aside0.mk hb; have HX1 := Lib.hid hg; have HX2 := Lib.hid hat; clear ho hb hg hat))
      have HX3 := Lib.hid (HX1.out.block _ (hp_lt HX.out) ?hne)
      go_roundw
      case rel => exact ⟨k + 1, by omega, by go_num, Lib.hid ⟨HX3.out.trans HX.out, by rw [HK.out]; exact HO1.out, HB1.out⟩⟩
      case measure => simp [intOf]; omega
      case hne => exact Kd.R_ne HO.out HX.out (by decide)
    · have : k = n := by omega
      subst this
      go_wp2
      go_ret
      exact ⟨_, rfl, H.out.2.1, H.out.2.2⟩
end Go.Proofs.Ytpebnldoimoahaa
