/- The walks of the reference's rest, then and List. -/
import Derived.Test.YtpebnldoimoahaaRfC
import Derived.Test.YtpebnldoimoahaaTrJ
namespace Go.Proofs.Ytpebnldoimoahaa
open Go.RowKit Go.Proofs.YtpebnldoimoahaaW.PrintWords
theorem zl_snoc (l : List Nat) (x : Nat) : zl (l ++ [x]) = zl l ++ [(x : Int)] := by simp [zl]
set_option maxRecDepth 100000 in
set_option maxHeartbeats 800000 in
theorem rest_any (n : Nat) (hn : n ≤ 1000000) (w : World) :
    Calls Try.prog 59 #[.int .i64 n] w fun e w' => ∃ v, e = .returned v ∧ Own w' w.heap.size v (zl (List.range n)) ∧ Below w.heap.size w w' := by
  go_enter Try.func59, Try.ntmps59
  go_wp2
  go_loopw [3, 4] (fun v i wr => ∃ k : Nat, k ≤ n ∧ i = .int .i64 k ∧ Hid (Own wr w.heap.size v (zl (List.range k)) ∧ Below w.heap.size w wr)) (fun _ i _ => n - (intOf i).toNat)
  case atStart => exact ⟨0, by omega, rfl, Lib.hid ⟨Kd.R_nil _ _ _ _ _, Below.refl _ _⟩⟩
  case round =>
    obtain ⟨k, hk, rfl, H⟩ := hrel
    by_cases hkl : k < n
    · have HO := Aside0.mk H.out.1
      have HB := Aside0.mk H.out.2
      clear H
      have HK := Lib.hid (show zl (List.range (k + 1)) = zl (List.range k) ++ [(k : Int)] by rw [List.range_succ, zl_snoc])
      have HLK := Lib.hid (show (zl (List.range k)).length = k by rw [zl_len]; simp)
      generalize zl (List.range k) = xs at *
      go_wp2_with (first | (at_builtin; refine Kd.R_append (Kd.int .i64) (w0 := w) w.heap.size rfl (.tmp 10) (.tmp 12) 22 3 (.int .i64 0) 8 rfl Try.underlying22 info_int rfl (by decide) (by omega) u3 xs (k : Int) [.int .i64 k] (fun _ => True) (fun _ => False) rfl rfl ?aP (fun _ hk => hk.elim) ?aF ?aO ?aB ?aS ?aL ?_; (case aP => exact rfl); (case aB => exact HB.out); (case aF => exact (fun _ _ => trivial)); (case aO => exact HO.out); (case aS => exact below_size HB.out); (case aL => have := HLK.out; omega); intro v1 w1 ho hb hg hat; have HO1 := Aside0.mk ho; have HB1 := Aside0.mk hb; clear ho hb hg hat))
      go_roundw
      case rel => exact ⟨k + 1, by omega, by go_num, Lib.hid ⟨by rw [HK.out]; exact HO1.out, HB1.out⟩⟩
      case measure => simp [intOf]; omega
    · have : k = n := by omega
      subst this
      go_wp2
      go_ret
      exact ⟨_, rfl, H.out.1, H.out.2⟩
set_option maxRecDepth 100000 in
set_option maxHeartbeats 800000 in
theorem then_any (A : Option Addr) (c : Nat) (l : List Nat) (B : Option Addr) (d : Nat) (m : List Nat) (hn : l.length ≤ 1000000) (hlt : ∀ i, i < l.length → l.getD i 0 < m.length) (w : World)
    (hA : Kd.C (Kd.int .i64) w A l.length (zl l)) (hB : Kd.C (Kd.int .i64) w B m.length (zl m)) :
    Calls Try.prog 60 #[.slice A l.length c, .slice B m.length d] w fun e w' => ∃ v, e = .returned v ∧ Own w' w.heap.size v (zl (l.map (fun x => m.getD x 0))) ∧ Below w.heap.size w w' := by
  have HA := Aside0.mk hA
  have HBB := Aside0.mk hB
  have HI := Lib.hid hlt
  clear hA hB hlt
  go_enter Try.func60, Try.ntmps60
  go_wp2
  go_loopw [5, 6] (fun v i wr => ∃ k : Nat, k ≤ l.length ∧ i = .int .i64 k ∧ Hid (Own wr w.heap.size v (zl ((l.take k).map (fun x => m.getD x 0))) ∧ Below w.heap.size w wr)) (fun _ i _ => l.length - (intOf i).toNat)
  case atStart => exact ⟨0, by omega, rfl, Lib.hid ⟨Kd.R_nil _ _ _ _ _, Below.refl _ _⟩⟩
  case round =>
    obtain ⟨k, hk, rfl, H⟩ := hrel
    by_cases hkl : k < l.length
    · have HO := Aside0.mk H.out.1
      have HB := Aside0.mk H.out.2
      have hx := HI.out k hkl
      obtain ⟨ad, rfl, hc1⟩ := Kd.at_int (Kd.C_below HA.out H.out.2) k (by omega) (by omega)
      obtain ⟨bd, rfl, hc2⟩ := Kd.at_int (Kd.C_below HBB.out H.out.2) ((l.getD k 0 : Nat) : Int) (by omega) (by omega)
      rw [Int.toNat_natCast, zl_rd] at hc1 hc2
      clear H
      have HK := Lib.hid (show zl ((l.take (k + 1)).map (fun x => m.getD x 0)) = zl ((l.take k).map (fun x => m.getD x 0)) ++ [((m.getD (l.getD k 0) 0 : Nat) : Int)] by
        rw [List.take_succ_eq_append_getElem hkl, List.map_append, List.map_singleton, zl_snoc]
        simp [List.getD_eq_getElem?_getD, List.getElem?_eq_getElem hkl])
      have HLK := Lib.hid (show (zl ((l.take k).map (fun x => m.getD x 0))).length = k by rw [zl_len]; simp; omega)
      generalize zl ((l.take k).map (fun x => m.getD x 0)) = xs at *
      generalize m.getD (l.getD k 0) 0 = y at *
      generalize l.getD k 0 = x at *
      go_wp2_with (first | (at_builtin; refine Kd.R_append (Kd.int .i64) (w0 := w) w.heap.size rfl (.tmp 13) (.tmp 21) 22 3 (.int .i64 0) 8 rfl Try.underlying22 info_int rfl (by decide) (by omega) u5 xs (y : Int) [.int .i64 y] (fun _ => True) (fun _ => False) rfl rfl ?aP (fun _ hk => hk.elim) ?aF ?aO ?aB ?aS ?aL ?_; (case aP => exact rfl); (case aB => exact HB.out); (case aF => exact (fun _ _ => trivial)); (case aO => exact HO.out); (case aS => exact below_size HB.out); (case aL => have := HLK.out; omega); intro v1 w1 ho hb hg hat; have HO1 := Aside0.mk ho; have HB1 := Aside0.mk hb; clear ho hb hg hat))
      go_roundw
      case rel => exact ⟨k + 1, by omega, by go_num, Lib.hid ⟨by rw [HK.out]; exact HO1.out, HB1.out⟩⟩
      case measure => simp [intOf]; omega
    · have : k = l.length := by omega
      subst this
      rw [List.take_length] at H
      go_wp2
      go_ret
      exact ⟨_, rfl, H.out.1, H.out.2⟩
end Go.Proofs.Ytpebnldoimoahaa
