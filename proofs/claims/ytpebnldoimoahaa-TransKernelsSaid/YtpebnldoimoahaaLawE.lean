/- The walk of the statement TransKernels. Printed by gen_kernels.py. -/
import Derived.Test.YtpebnldoimoahaaGoodE
namespace Go.Proofs.Ytpebnldoimoahaa
open Go.RowKit Go.Proofs.YtpebnldoimoahaaW.PrintWords
set_option linter.unusedSimpArgs false
set_option linter.unusedVariables false
abbrev SV (x : Nat) : Obj := .cells (sv x) 69 (0, 0)
theorem sv_get (x j : Nat) (h : j < 8) : (sv x)[j]? = some (.int .u64 ((if j = 0 then x else 0 : Nat) : Int)) := by
  match j, h with
  | 0, _ => simp [sv]
  | 1, _ => simp [sv]
  | 2, _ => simp [sv]
  | 3, _ => simp [sv]
  | 4, _ => simp [sv]
  | 5, _ => simp [sv]
  | 6, _ => simp [sv]
  | 7, _ => simp [sv]
theorem and_zero : bits .andNot .u64 ((0 : Nat) : Int) ((0 : Nat) : Int) = 0 := by decide
set_option maxRecDepth 100000 in
set_option maxHeartbeats 30000000 in
theorem transKernels_any (w : World) (x : Int) (A : Option Addr) (c : Nat) (a : List Int) (hA : Kd.C (Kd.int .i64) w A a.length a) (B : Option Addr) (d : Nat) (b : List Int) (hB : Kd.C (Kd.int .i64) w B b.length b) :
    Calls Try.prog 9 #[.int .i64 x, .slice A a.length c, .slice B b.length d] w fun e w' => e = .returned (.bool true) ∧ Below w.heap.size w w' := by
  have HA := Aside0.mk hA; have HB := Aside0.mk hB; clear hA hB
  obtain ⟨hn1, hn⟩ := nN_in x
  obtain ⟨hx1, hx2⟩ := nN_walk x
  generalize nN x = n at *
  have ga := mdL_gd a hn1 hn; have gb := mdL_gd b hn1 hn
  have D1 := Aside0.mk (made_any n hn1 hn A c a); have D2 := Aside0.mk (made_any n hn1 hn B d b)
  generalize mdL n a n = L at *
  generalize mdL n b n = M at *
  have M1 := Aside0.mk (@make_g n L ga); have M2 := Aside0.mk (@make_g n M gb)
  have lL := Lib.hid ga.len; have lM := Lib.hid gb.len
  have C1 := Aside0.mk (compose_g ga gb); have I1 := Aside0.mk (image_g (ga.thn gb)); have I2 := Aside0.mk (image_g gb)
  have K1 := Aside0.mk (kernel_g ga); have K2 := Aside0.mk (kernel_g (ga.thn gb))
  have HZ := Lib.hid (bo_thn ga gb)
  have HJ : Hid (∀ x y, x < n → y < n → (krl L).getD x 0 = (krl L).getD y 0 → (krl (thn L M)).getD x 0 = (krl (thn L M)).getD y 0) := Lib.hid (fun x y hx hy he => krl_thn ga gb hx hy he)
  have lk1 := Lib.hid (show (krl L).length = n by rw [krl_len, ga.len]); have lk2 := Lib.hid (show (krl (thn L M)).length = n by rw [krl_len, (ga.thn gb).len])
  generalize krl L = kL at *
  generalize krl (thn L M) = kT at *
  generalize bo (thn L M) = s1 at *
  generalize bo M = s2 at *
  clear ga gb
  have lqs := Lib.hid (pks_len L n)
  generalize pks L n = qs at *
  have lqt := Lib.hid (pks_len M n)
  generalize pks M n = qt at *
  have lqst := Lib.hid (pks_len (thn L M) n)
  generalize pks (thn L M) n = qst at *
  go_enter Try.func9, Try.ntmps9
  have H0 := Lib.hid (Hp.start w)
  go_wp2_with fail
  refine (D1.out _ (Kd.C_below HA.out H0.out.2)).mono ?_
  rintro e w1 ⟨v, rfl, ho, hb⟩
  have H1 := Lib.hid (H0.out.keep hb)
  obtain ⟨X0, xc0, rfl, _, hX⟩ := own_slice n lL.out ho
  have HX0 := Aside0.mk hX
  clear hb H0 ho hX
  go_wp2_with fail
  refine (M1.out X0 xc0 _ HX0.out).mono ?_
  rintro e w2 ⟨rfl, hb⟩
  have H2 := Lib.hid (H1.out.keep hb)
  clear hb H1 HX0
  go_wp2_with (first | (refine st2 _ _ rfl rfl rfl rfl lqs.out rfl ?_) | (refine ld2 _ rfl w2.heap.size rfl lqs.out ((H2.out.alloc _).at 0 rfl) rfl ?_))
  refine (D2.out _ (Kd.C_below HB.out (H2.out.alloc _).2)).mono ?_
  rintro e w3 ⟨v, rfl, ho, hb⟩
  have H3 := Lib.hid ((H2.out.alloc _).keep hb)
  obtain ⟨X1, xc1, rfl, _, hX⟩ := own_slice n lM.out ho
  have HX1 := Aside0.mk hX
  clear hb H2 ho hX
  go_wp2_with (first | (refine ld2 _ rfl (w2.heap.size) rfl lqs.out (H3.out.at 0 rfl) rfl ?_))
  refine (M2.out X1 xc1 _ HX1.out).mono ?_
  rintro e w4 ⟨rfl, hb⟩
  have H4 := Lib.hid (H3.out.keep hb)
  clear hb H3 HX1
  go_wp2_with (first | (refine st2 _ _ rfl rfl rfl rfl lqt.out rfl ?_) | (refine ld2 _ rfl w4.heap.size rfl lqt.out ((H4.out.alloc _).at 0 rfl) rfl ?_) | (refine ld2 _ rfl (w2.heap.size) rfl lqs.out ((H4.out.alloc _).at 1 rfl) rfl ?_))
  refine (C1.out _).mono ?_
  rintro e w5 ⟨rfl, hb⟩
  have H5 := Lib.hid ((H4.out.alloc _).keep hb)
  clear hb H4
  go_wp2_with (first | (refine st2 _ _ rfl rfl rfl rfl lqst.out rfl ?_) | (refine ld2 _ rfl w5.heap.size rfl lqst.out ((H5.out.alloc _).at 0 rfl) rfl ?_) | (refine ld2 _ rfl (w4.heap.size) rfl lqt.out ((H5.out.alloc _).at 1 rfl) rfl ?_) | (refine ld2 _ rfl (w2.heap.size) rfl lqs.out ((H5.out.alloc _).at 2 rfl) rfl ?_))
  refine (I1.out _).mono ?_
  rintro e w6 ⟨rfl, hb⟩
  have H6 := Lib.hid ((H5.out.alloc _).keep hb)
  clear hb H5
  go_wp2_with (first | (refine st_sv_new _ _ rfl rfl rfl rfl rfl ?_) | (refine ld2 _ rfl (w5.heap.size) rfl lqst.out ((H6.out.alloc (SV s1)).at 1 rfl) rfl ?_) | (refine ld2 _ rfl (w4.heap.size) rfl lqt.out ((H6.out.alloc (SV s1)).at 2 rfl) rfl ?_) | (refine ld2 _ rfl (w2.heap.size) rfl lqs.out ((H6.out.alloc (SV s1)).at 3 rfl) rfl ?_))
  refine (I2.out _).mono ?_
  rintro e w7 ⟨rfl, hb⟩
  have H7 := Lib.hid ((H6.out.alloc (SV s1)).keep hb)
  clear hb H6
  go_wp2_with (first | (refine st_sv_new _ _ rfl rfl rfl rfl rfl ?_) | (refine ld2 _ rfl (w5.heap.size) rfl lqst.out ((H7.out.alloc (SV s2)).at 2 rfl) rfl ?_) | (refine ld2 _ rfl (w4.heap.size) rfl lqt.out ((H7.out.alloc (SV s2)).at 3 rfl) rfl ?_) | (refine ld2 _ rfl (w2.heap.size) rfl lqs.out ((H7.out.alloc (SV s2)).at 4 rfl) rfl ?_))
  refine (K1.out _).mono ?_
  rintro e w8 ⟨v1, rfl, ho, hb⟩
  have H8 := Lib.hid ((H7.out.alloc (SV s2)).keep hb)
  obtain ⟨Y1, yc1, rfl, _, hY⟩ := own_slice n lk1.out ho
  have HY1 := Aside0.mk hY
  clear hb ho hY H7
  go_wp2_with (first | (refine ld2 _ rfl (w5.heap.size) rfl lqst.out (H8.out.at 2 rfl) rfl ?_) | (refine ld2 _ rfl (w4.heap.size) rfl lqt.out (H8.out.at 3 rfl) rfl ?_) | (refine ld2 _ rfl (w2.heap.size) rfl lqs.out (H8.out.at 4 rfl) rfl ?_))
  refine (K2.out _).mono ?_
  rintro e w9 ⟨v2, rfl, ho, hb⟩
  have H9 := Lib.hid (H8.out.keep hb)
  obtain ⟨Y2, yc2, rfl, _, hY⟩ := own_slice n lk2.out ho
  have HY2 := Aside0.mk hY
  have HY1b := Aside0.mk (Kd.C_below HY1.out hb)
  clear hb ho hY H8 HY1
  go_wp2_with fail
  refine (num_any 0 _).mono ?_
  rintro e w' ⟨rfl, rfl⟩
  go_wp2_with fail
  refine (num_any 0 _).mono ?_
  rintro e w' ⟨rfl, rfl⟩
  go_wp2_with fail
  refine (num_any 0 _).mono ?_
  rintro e w' ⟨rfl, rfl⟩
  go_wp2_with fail
  refine (num_any 0 _).mono ?_
  rintro e w' ⟨rfl, rfl⟩
  go_wp2_with fail
  refine (num_any 0 _).mono ?_
  rintro e w' ⟨rfl, rfl⟩
  go_wp2_with fail
  refine (num_any 0 _).mono ?_
  rintro e w' ⟨rfl, rfl⟩
  go_wp2_with fail
  refine (num_any 0 _).mono ?_
  rintro e w' ⟨rfl, rfl⟩
  go_wp2_with fail
  refine (knows_any _).mono ?_
  rintro e w10 ⟨rfl, hb⟩
  have H10 := Lib.hid (H9.out.keep hb)
  have HY2b := Aside0.mk (Kd.C_below HY2.out hb)
  have HY1c := Aside0.mk (Kd.C_below HY1b.out hb)
  clear hb H9 HY2 HY1b
  have G1 := Lib.hid (H10.out.at 1 rfl)
  have G2 := Lib.hid (H10.out.at 0 rfl)
  have GB := Lib.hid H10.out.2
  clear H10
  generalize w7.heap.size = E2 at *
  generalize w6.heap.size = E1 at *
  go_wp2_with fail
  go_loopw [21] (fun i wr => ∃ j : Nat, j ≤ 8 ∧ i = .int .i64 j ∧ Hid (Below w10.heap.size w10 wr)) (fun i _ => 8 - (intOf i).toNat)
  case atStart => exact ⟨0, by omega, rfl, Lib.hid (Below.refl _ _)⟩
  case round =>
    obtain ⟨j, hj, rfl, H⟩ := hrel
    by_cases hj8 : j < 8
    · have c1 : wr.cell? ⟨E1, j, none⟩ = some (.int .u64 ((if j = 0 then s1 else 0 : Nat) : Int)) := by rw [cell_of_row _ _ _ _ _ _ (hp_below' H.out G1.out), sv_get _ _ hj8]
      have c2 : wr.cell? ⟨E2, j, none⟩ = some (.int .u64 ((if j = 0 then s2 else 0 : Nat) : Int)) := by rw [cell_of_row _ _ _ _ _ _ (hp_below' H.out G2.out), sv_get _ _ hj8]
      have hz : bits .andNot .u64 ((if j = 0 then s1 else 0 : Nat) : Int) ((if j = 0 then s2 else 0 : Nat) : Int) = 0 := by
        by_cases e : j = 0
        · rw [if_pos e, if_pos e]; exact HZ.out
        · rw [if_neg e, if_neg e]; exact and_zero
      generalize (if j = 0 then s1 else 0 : Nat) = t1 at *
      generalize (if j = 0 then s2 else 0 : Nat) = t2 at *
      go_wp2
      go_quiet (fail)
      go_wp2
      go_roundw
      case rel => exact ⟨j + 1, by omega, by go_num, Lib.hid (bl_drewN H.out _)⟩
      case measure => simp [intOf]; omega
    · have e8 : j = 8 := by omega
      subst e8
      have HYA := Aside0.mk (Kd.C_below HY1c.out H.out)
      have HYB := Aside0.mk (Kd.C_below HY2b.out H.out)
      have HBB := Lib.hid (bl_then GB.out H.out)
      obtain ⟨ad1, rfl⟩ := at_some HYA.out 0 (by omega)
      obtain ⟨ad2, rfl⟩ := at_some HYB.out 0 (by omega)
      clear HY1c HY2b H G1 G2 GB
      go_wp2
      generalize wr.heap.size = D at *
      go_loopw [22] (fun i wi => ∃ p : Nat, p ≤ n ∧ i = .int .i64 p ∧ Aside0 (Kd.C (Kd.int .i64) wi (some ad1) n (zl kL)) ∧ Aside0 (Kd.C (Kd.int .i64) wi (some ad2) n (zl kT)) ∧ Hid (Below w.heap.size w wi)) (fun i _ => n - (intOf i).toNat)
      case atStart => exact ⟨0, by omega, rfl, HYA, HYB, HBB⟩
      case round =>
        obtain ⟨p, hp, rfl, HYA, HYB, HBB⟩ := hrel
        by_cases hpn : p < n
        · go_wp2
          generalize wr.heap.size = D2 at *
          go_loopw [23] (fun i wi => ∃ q : Nat, q ≤ n ∧ i = .int .i64 q ∧ Aside0 (Kd.C (Kd.int .i64) wi (some ad1) n (zl kL)) ∧ Aside0 (Kd.C (Kd.int .i64) wi (some ad2) n (zl kT)) ∧ Hid (Below w.heap.size w wi)) (fun i _ => n - (intOf i).toNat)
          case atStart => exact ⟨0, by omega, rfl, HYA, HYB, HBB⟩
          case round =>
            obtain ⟨q, hq, rfl, HYA, HYB, HBB⟩ := hrel
            by_cases hqn : q < n
            · have c1 := at_cell HYA.out p hpn
              have c2 := at_cell HYA.out q hqn
              have c3 := at_cell HYB.out p hpn
              have c4 := at_cell HYB.out q hqn
              by_cases he : kL.getD p 0 = kL.getD q 0
              · have he2 := HJ.out p q hpn hqn he
                rw [he] at c1
                rw [he2] at c3
                clear he he2
                generalize kL.getD q 0 = y1 at *
                generalize kT.getD q 0 = y2 at *
                go_wp2
                go_quiet (fail)
                go_wp2
                go_roundw
                case rel => exact ⟨q + 1, by omega, by go_num, Aside0.mk (Kd.C_drewN HYA.out _), Aside0.mk (Kd.C_drewN HYB.out _), Lib.hid (bl_drewN HBB.out _)⟩
                case measure => simp [intOf]; omega
              · have hne : (((kL.getD p 0 : Nat) : Int) == ((kL.getD q 0 : Nat) : Int)) = false := by rw [beq_eq_false_iff_ne]; omega
                clear he
                generalize kL.getD p 0 = y0 at *
                generalize kL.getD q 0 = y1 at *
                generalize kT.getD p 0 = y2 at *
                generalize kT.getD q 0 = y3 at *
                go_wp2
                go_quiet (fail)
                go_wp2
                go_roundw
                case rel => exact ⟨q + 1, by omega, by go_num, Aside0.mk (Kd.C_drewN HYA.out _), Aside0.mk (Kd.C_drewN HYB.out _), Lib.hid (bl_drewN HBB.out _)⟩
                case measure => simp [intOf]; omega
            · have e8 : q = n := by omega
              subst e8
              go_wp2
              go_roundw
              case rel => exact ⟨p + 1, by omega, by go_num, HYA, HYB, HBB⟩
              case measure => simp [intOf]; omega
        · have e8 : p = n := by omega
          subst e8
          go_wp2
          go_ret
          exact ⟨rfl, HBB.out⟩
/-- In the form of the row. -/
theorem transKernels_row (w : World) (x : Int) (_ : -9223372036854775808 ≤ x ∧ x ≤ 9223372036854775807) (A : Option Addr) (c : Nat) (a : List Int) (hA : Kd.C (Kd.int .i64) w A a.length a) (_ : a.length ≤ 17592186043904) (_ : ∀ x ∈ a, -9223372036854775808 ≤ x ∧ x ≤ 9223372036854775807)
    (B : Option Addr) (d : Nat) (b : List Int) (hB : Kd.C (Kd.int .i64) w B b.length b) (_ : b.length ≤ 17592186043904) (_ : ∀ x ∈ b, -9223372036854775808 ≤ x ∧ x ≤ 9223372036854775807) :
    Calls Try.prog 9 #[.int .i64 x, .slice A a.length c, .slice B b.length d] w fun e w' => e = .returned (.bool true) ∧ Below w.heap.size w w' :=
  transKernels_any w x A c a hA B d b hB
end Go.Proofs.Ytpebnldoimoahaa
