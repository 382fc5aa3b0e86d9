/- The walk of the statements' made: images below n out of any numbers. -/
import Derived.Test.YtpebnldoimoahaaGood
import Derived.Test.YtpebnldoimoahaaHp
namespace Go.Proofs.Ytpebnldoimoahaa
open Go.RowKit Go.Proofs.YtpebnldoimoahaaW.PrintWords
/-- One image. -/
def mdN (n : Nat) (x : Int) : Nat := (Int.tmod (Int.tmod x n + n) n).toNat
def mdE (n : Nat) (l : List Int) (i : Nat) : Nat := if i < l.length then mdN n (l.getD i 0) else i
def mdL (n : Nat) (l : List Int) (k : Nat) : List Nat := (List.range k).map (mdE n l)
theorem mdN_eq (n : Nat) (x : Int) (h : 1 ≤ n) : Int.tmod (Int.tmod x n + n) n = (mdN n x : Int) ∧ mdN n x < n ∧ -(n : Int) < Int.tmod x n ∧ Int.tmod x n < n := by
  have hn : (0 : Int) < n := by omega
  have h3 : -(n : Int) < Int.tmod x n ∧ Int.tmod x n < n := by
    have h1 := Int.tmod_lt_of_pos x hn
    have h2 := Int.lt_tmod_of_pos x hn
    exact ⟨by omega, h1⟩
  have h4 : 0 ≤ Int.tmod (Int.tmod x n + n) n := Int.tmod_nonneg _ (by omega)
  have h5 := Int.tmod_lt_of_pos (Int.tmod x n + n) hn
  unfold mdN
  exact ⟨by omega, by omega, h3⟩
theorem mdL_gd {n : Nat} (l : List Int) (h1 : 1 ≤ n) (h : n ≤ 64) : Gd n (mdL n l n) :=
  ⟨h1, h, by simp [mdL], fun i hi => by
    rw [show (mdL n l n).getD i 0 = mdE n l i by simp [mdL, List.getD_eq_getElem?_getD, hi]]
    unfold mdE
    split
    · exact (mdN_eq n _ h1).2.1
    · exact hi⟩
theorem mdL_succ (n : Nat) (l : List Int) (k : Nat) : zl (mdL n l (k + 1)) = zl (mdL n l k) ++ [((mdE n l k : Nat) : Int)] := by
  simp [mdL, List.range_succ, zl]
theorem mdL_len (n : Nat) (l : List Int) (k : Nat) : (mdL n l k).length = k := by simp [mdL]
set_option maxRecDepth 100000 in
set_option maxHeartbeats 800000 in
theorem made_any (n : Nat) (h1 : 1 ≤ n) (hn : n ≤ 64) (A : Option Addr) (c : Nat) (l : List Int) (w : World) (hr : Kd.C (Kd.int .i64) w A l.length l) :
    Calls Try.prog 22 #[.int .i64 n, .slice A l.length c] w fun e w' => ∃ v, e = .returned v ∧ Own w' w.heap.size v (zl (mdL n l n)) ∧ Below w.heap.size w w' := by
  have HR := Aside0.mk hr
  clear hr
  go_enter Try.func22, Try.ntmps22
  go_wp2
  go_loopw [5, 6] (fun v i wr => ∃ k : Nat, k ≤ n ∧ i = .int .i64 k ∧ Hid (Own wr w.heap.size v (zl (mdL n l k)) ∧ Below w.heap.size w wr)) (fun _ i _ => n - (intOf i).toNat)
  case atStart => exact ⟨0, by omega, rfl, Lib.hid ⟨Kd.R_nil _ _ _ _ _, Below.refl _ _⟩⟩
  case round =>
    obtain ⟨k, hk, rfl, H⟩ := hrel
    have HO := Aside0.mk H.out.1
    have HB := Aside0.mk H.out.2
    clear H
    by_cases hkl : k < n
    · have HK := Lib.hid (mdL_succ n l k)
      have HLK := Lib.hid (show (zl (mdL n l k)).length = k by rw [zl_len, mdL_len])
      generalize zl (mdL n l k) = xs at *
      by_cases hin : k < l.length
      · obtain ⟨ad, rfl, hcell⟩ := Kd.at_int (Kd.C_below HR.out HB.out) k (by omega) (by omega)
        rw [Int.toNat_natCast] at hcell
        have HE : Hid (mdE n l k = mdN n (rd l k)) := Lib.hid (by unfold mdE rd; rw [if_pos hin, Int.toNat_natCast])
        generalize rd l k = x at *
        generalize mdE n l k = y at *
        obtain ⟨q1, q2, q3, q4⟩ := mdN_eq n x h1
        rw [← HE.out] at q1 q2
        have q5 : wrap64 (Int.tmod x n + n) = Int.tmod x n + n := IntWalk.wrap64_in _ ⟨by omega, by omega⟩
        have q6 : ((n : Int) == 0) = false := by rw [beq_eq_false_iff_ne]; omega
        have Q := Lib.hid q2
        clear q2 q3 q4 HE
        go_wp2_with (first | (at_builtin; refine Kd.R_append (Kd.int .i64) (w0 := w) w.heap.size rfl (.tmp 28) (.tmp 30) 22 3 (.int .i64 0) 8 rfl Try.underlying22 info_int rfl (by decide) (by omega) u5 xs (y : Int) [.int .i64 y] (fun _ => True) (fun _ => False) rfl rfl ?aP (fun _ hk => hk.elim) ?aF ?aO ?aB ?aS ?aL ?_; (case aP => exact rfl); (case aB => exact HB.out); (case aF => exact (fun _ _ => trivial)); (case aO => exact HO.out); (case aS => exact below_size HB.out); (case aL => have := HLK.out; omega); intro v1 w1 ho hb hg hat; have HO1 := Aside0.mk ho; have HB1 := Aside0.mk hb; clear ho hb hg hat))
        go_roundw
        case rel => exact ⟨k + 1, by omega, by go_num, Lib.hid ⟨by rw [HK.out]; exact HO1.out, HB1.out⟩⟩
        case measure => simp [intOf]; omega
      · have HE : Hid (mdE n l k = k) := Lib.hid (by unfold mdE; rw [if_neg hin])
        rw [HE.out] at HK
        go_wp2_with (first | (at_builtin; refine Kd.R_append (Kd.int .i64) (w0 := w) w.heap.size rfl (.tmp 28) (.tmp 30) 22 3 (.int .i64 0) 8 rfl Try.underlying22 info_int rfl (by decide) (by omega) u5 xs (k : Int) [.int .i64 k] (fun _ => True) (fun _ => False) rfl rfl ?aP (fun _ hk => hk.elim) ?aF ?aO ?aB ?aS ?aL ?_; (case aP => exact rfl); (case aB => exact HB.out); (case aF => exact (fun _ _ => trivial)); (case aO => exact HO.out); (case aS => exact below_size HB.out); (case aL => have := HLK.out; omega); intro v1 w1 ho hb hg hat; have HO1 := Aside0.mk ho; have HB1 := Aside0.mk hb; clear ho hb hg hat))
        go_roundw
        case rel => exact ⟨k + 1, by omega, by go_num, Lib.hid ⟨by rw [HK.out]; exact HO1.out, HB1.out⟩⟩
        case measure => simp [intOf]; omega
    · have : k = n := by omega
      subst this
      go_wp2
      go_ret
      exact ⟨_, rfl, HO.out, HB.out⟩
end Go.Proofs.Ytpebnldoimoahaa
