/- The walk of the reference's Kernel. -/
import Derived.Test.YtpebnldoimoahaaKer
namespace Go.Proofs.Ytpebnldoimoahaa
open Go.RowKit Go.Proofs.YtpebnldoimoahaaW.PrintWords
theorem krk_succ (l : List Nat) (k : Nat) : zl ((List.range (k + 1)).map (kr l)) = zl ((List.range k).map (kr l)) ++ [((kr l k : Nat) : Int)] := by
  simp [List.range_succ, zl]
set_option maxRecDepth 100000 in
set_option maxHeartbeats 2000000 in
theorem rkernel_any (n : Int) (ws : List Nat) (hl : ws.length = 7) (hw : Hid (∀ i, ws.getD i 0 < 18446744073709551616)) (w : World) :
    Calls Try.prog 49 #[.agg (tvv n ws)] w (RlR (krl (lsT (goodT n ws) n.toNat ws)) (chkE (goodT n ws)) w) := by
  have HL := Lib.hid hl; clear hl
  have HM := Lib.hid (lsT_small (n := n) (ws := ws) rfl)
  have HLS := Aside0.mk (rlist_l n ws HL.out hw)
  generalize lsT (goodT n ws) n.toNat ws = l at *
  generalize chkE (goodT n ws) = er at *
  go_enter Try.func49, Try.ntmps49
  go_wp2_with (refine ld_tr w.heap.size HL.out (hp_new rfl) rfl _ rfl rfl ?_)
  refine (HLS.out _).mono ?_
  rintro e w1 ⟨v, rfl, ho, hb⟩
  have HB := Lib.hid (bl_then (bl_alloc (Below.refl _ w) _) hb)
  obtain ⟨A, c, rfl, _, hC⟩ := own_slice l.length rfl ho
  have HC := Aside0.mk hC
  clear hb ho hC
  go_wp2
  go_loopw [6, 7] (fun v i wr => ∃ k : Nat, k ≤ l.length ∧ i = .int .i64 k ∧ Hid (Own wr w1.heap.size v (zl ((List.range k).map (kr l))) ∧ Below w1.heap.size w1 wr)) (fun _ i _ => l.length - (intOf i).toNat)
  case atStart => exact ⟨0, by omega, rfl, Lib.hid ⟨Kd.R_nil _ _ _ _ _, Below.refl _ _⟩⟩
  case round =>
    obtain ⟨k, hk, rfl, H⟩ := hrel
    have hm64 := HM.out
    by_cases hkl : k < l.length
    · obtain ⟨ad, rfl⟩ := at_some HC.out k hkl
      have HO := Aside0.mk H.out.1
      have HBB := Aside0.mk H.out.2
      have HK := Lib.hid (krk_succ l k)
      have HLK := Lib.hid (show (zl ((List.range k).map (kr l))).length = k by rw [zl_len]; simp)
      have HSP := Lib.hid (kr_spec l k)
      generalize zl ((List.range k).map (kr l)) = xs at *
      clear H
      go_wp2
      go_loopw [8] (fun q wi => ∃ j : Nat, j ≤ k ∧ q = .int .i64 j ∧ Hid (∀ q, q < j → l.getD q 0 ≠ l.getD k 0) ∧ Aside0 (Own wi w1.heap.size u6 xs) ∧ Aside0 (Below w1.heap.size w1 wi)) (fun q _ => l.length - (intOf q).toNat)
      case atStart => exact ⟨0, by omega, rfl, Lib.hid (by omega), HO, HBB⟩
      case round =>
        obtain ⟨j, hj, rfl, HJ, HO, HBB⟩ := hrel
        have c2 := at_cell (Kd.C_below HC.out HBB.out) j (by omega)
        have c3 := at_cell (Kd.C_below HC.out HBB.out) k hkl
        by_cases he : l.getD j 0 = l.getD k 0
        · have HE := Lib.hid (kr_eq hj HJ.out he)
          rw [HE.out] at HK
          rw [he] at c2
          clear he
          generalize l.getD k 0 = y at *
          go_wp2
          go_quiet (fail)
          have HO2 := Aside0.mk (Kd.R_drewN HO.out nq)
          have HBB2 := Aside0.mk (bl_drewN HBB.out nq)
          clear HO HBB c2 c3
          go_wp2_with (first | (at_builtin; refine Kd.R_append (Kd.int .i64) (w0 := w1) w1.heap.size rfl (.tmp 31) (.tmp 33) 22 3 (.int .i64 0) 8 rfl Try.underlying22 info_int rfl (by decide) (by omega) u6 xs (j : Int) [.int .i64 j] (fun _ => True) (fun _ => False) rfl rfl ?aP (fun _ hk => hk.elim) ?aF ?aO ?aB ?aS ?aL ?_; (case aP => exact rfl); (case aB => exact HBB2.out); (case aF => exact (fun _ _ => trivial)); (case aO => exact HO2.out); (case aS => exact below_size HBB2.out); (case aL => have := HLK.out; omega); intro v1 w2 ho hb hg hat; have HO1 := Aside0.mk ho; have HB1 := Aside0.mk hb; clear ho hb hg hat))
          go_roundw
          case rel => exact ⟨k + 1, by omega, by go_num, Lib.hid ⟨by rw [HK.out]; exact HO1.out, HB1.out⟩⟩
          case measure => simp [intOf]; omega
        · have hjk : j < k := by
            apply Classical.byContradiction
            intro h
            exact he (by rw [show j = k by omega])
          have HN : Hid (∀ q, q < j + 1 → l.getD q 0 ≠ l.getD k 0) := Lib.hid (fun q hq => by
            by_cases e : q = j
            · subst e; exact he
            · exact HJ.out q (by omega))
          have hne : (((l.getD j 0 : Nat) : Int) != ((l.getD k 0 : Nat) : Int)) = true := by rw [bne_iff_ne]; omega
          clear he
          generalize l.getD j 0 = x at *
          generalize l.getD k 0 = y at *
          go_wp2
          go_quiet (fail)
          go_wp2
          go_roundw
          case rel => exact ⟨j + 1, by omega, by go_num, HN, Aside0.mk (Kd.R_drewN HO.out nq), Aside0.mk (bl_drewN HBB.out nq)⟩
          case measure => simp [intOf]; omega
    · have : k = l.length := by omega
      subst this
      go_wp2
      go_ret2
      exact ⟨_, rfl, Kd.R_lower H.out.1 HB.out.size, bl_then HB.out H.out.2⟩
end Go.Proofs.Ytpebnldoimoahaa
