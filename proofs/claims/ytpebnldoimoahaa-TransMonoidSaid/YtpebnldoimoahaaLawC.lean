/- The walk of the statement TransMonoid. Printed by gen_monoid.py. -/
import Derived.Test.YtpebnldoimoahaaGoodC
namespace Go.Proofs.Ytpebnldoimoahaa
open Go.RowKit Go.Proofs.YtpebnldoimoahaaW.PrintWords
set_option linter.unusedSimpArgs false
set_option linter.unusedVariables false
set_option maxRecDepth 100000 in
set_option maxHeartbeats 4000000 in
theorem transMonoid_any (w : World) (x : Int) (A : Option Addr) (c : Nat) (a : List Int) (hA : Kd.C (Kd.int .i64) w A a.length a) (B : Option Addr) (d : Nat) (b : List Int) (hB : Kd.C (Kd.int .i64) w B b.length b)
    (C : Option Addr) (z : Nat) (f : List Int) (hC : Kd.C (Kd.int .i64) w C f.length f) (k j : Nat) (hk : Hid (k < 18446744073709551616)) (hj : Hid (j < 18446744073709551616)) :
    Calls Try.prog 7 #[.int .i64 x, .slice A a.length c, .slice B b.length d, .slice C f.length z, .int .u64 k, .int .u64 j] w fun e w' => e = .returned (.bool true) ∧ Below w.heap.size w w' := by
  have HA := Aside0.mk hA; have HB := Aside0.mk hB; have HC := Aside0.mk hC; clear hA hB hC
  obtain ⟨hn1, hn⟩ := nN_in x
  obtain ⟨hx1, hx2⟩ := nN_walk x
  generalize nN x = n at *
  have ga := mdL_gd a hn1 hn; have gb := mdL_gd b hn1 hn; have gc := mdL_gd f hn1 hn; have g1 := Gd.range hn1 hn
  have D1 := Aside0.mk (made_any n hn1 hn A c a); have D2 := Aside0.mk (made_any n hn1 hn B d b); have D3 := Aside0.mk (made_any n hn1 hn C z f)
  generalize mdL n a n = L at *
  generalize mdL n b n = M at *
  generalize mdL n f n = N at *
  have M1 := Aside0.mk (@make_g n L ga); have M2 := Aside0.mk (@make_g n M gb); have M3 := Aside0.mk (@make_g n N gc)
  have lL := Lib.hid ga.len; have lM := Lib.hid gb.len; have lN := Lib.hid gc.len
  have I1 := identity_g hn1 hn
  have C1 := compose_g ga gb; have C2 := compose_g gb gc; have C3 := compose_g (ga.thn gb) gc; have C4 := compose_g ga (gb.thn gc)
  have C5 := compose_g g1 ga; have C6 := compose_g ga g1
  rw [thn_assoc ga gb gc] at C3
  rw [thn_left ga] at C5
  rw [thn_right ga] at C6
  have P1 := power_g ga k hk.out; have P2 := power_g ga j hj.out; have P3 := fun h => power_g ga (k + j) h
  have C7 := compose_g (ga.pwr k) (ga.pwr j)
  rw [thn_pwr ga] at C7
  have I1 := Aside0.mk I1; have C1 := Aside0.mk C1; have C2 := Aside0.mk C2; have C3 := Aside0.mk C3; have C4 := Aside0.mk C4; have C5 := Aside0.mk C5; have C6 := Aside0.mk C6; have C7 := Aside0.mk C7
  have P1 := Aside0.mk P1; have P2 := Aside0.mk P2; have P3 := Aside0.mk P3
  clear ga gb gc g1
  have lqs := Lib.hid (pks_len L n)
  generalize pks L n = qs at *
  have lqt := Lib.hid (pks_len M n)
  generalize pks M n = qt at *
  have lqu := Lib.hid (pks_len N n)
  generalize pks N n = qu at *
  have lqi := Lib.hid (pks_len (List.range n) n)
  generalize pks (List.range n) n = qi at *
  have lqst := Lib.hid (pks_len (thn L M) n)
  generalize pks (thn L M) n = qst at *
  have lqtu := Lib.hid (pks_len (thn M N) n)
  generalize pks (thn M N) n = qtu at *
  have lqx := Lib.hid (pks_len (thn L (thn M N)) n)
  generalize pks (thn L (thn M N)) n = qx at *
  have lqv := Lib.hid (pks_len (pwr n L k) n)
  generalize pks (pwr n L k) n = qv at *
  have lqw := Lib.hid (pks_len (pwr n L j) n)
  generalize pks (pwr n L j) n = qw at *
  have lqz := Lib.hid (pks_len (pwr n L (k + j)) n)
  generalize pks (pwr n L (k + j)) n = qz at *
  go_enter Try.func7, Try.ntmps7
  have H0 := Lib.hid (Hp.start w)
  go_wp2_with fail
  refine (D1.out _ (Kd.C_below HA.out H0.out.2)).mono ?_
  rintro e w1 ⟨v, rfl, ho, hb⟩
  have H1 := Lib.hid (H0.out.keep hb)
  obtain ⟨X0, xc0, rfl, _, hX⟩ := own_slice n lL.out ho
  have HX0 := Aside0.mk hX
  clear hb H0 ho hX
  go_wp2_with fail
  refine (M1.out X0 xc0 _ HX0.out).mono ?_
  rintro e w2 ⟨rfl, hb⟩
  have H2 := Lib.hid (H1.out.keep hb)
  clear hb H1 HX0
  go_wp2_with (first | (refine st_tr_new lqs.out rfl rfl _ _ rfl rfl rfl ?_) | (refine ld_trw w2.heap.size lqs.out ((H2.out.alloc _).at 0 rfl) rfl _ rfl rfl ?_))
  refine (D2.out _ (Kd.C_below HB.out (H2.out.alloc _).2)).mono ?_
  rintro e w3 ⟨v, rfl, ho, hb⟩
  have H3 := Lib.hid ((H2.out.alloc _).keep hb)
  obtain ⟨X1, xc1, rfl, _, hX⟩ := own_slice n lM.out ho
  have HX1 := Aside0.mk hX
  clear hb H2 ho hX
  go_wp2_with (first | (refine ld_trw (w2.heap.size) lqs.out (H3.out.at 0 rfl) rfl _ rfl rfl ?_))
  refine (M2.out X1 xc1 _ HX1.out).mono ?_
  rintro e w4 ⟨rfl, hb⟩
  have H4 := Lib.hid (H3.out.keep hb)
  clear hb H3 HX1
  go_wp2_with (first | (refine st_tr_new lqt.out rfl rfl _ _ rfl rfl rfl ?_) | (refine ld_trw w4.heap.size lqt.out ((H4.out.alloc _).at 0 rfl) rfl _ rfl rfl ?_) | (refine ld_trw (w2.heap.size) lqs.out ((H4.out.alloc _).at 1 rfl) rfl _ rfl rfl ?_))
  refine (D3.out _ (Kd.C_below HC.out (H4.out.alloc _).2)).mono ?_
  rintro e w5 ⟨v, rfl, ho, hb⟩
  have H5 := Lib.hid ((H4.out.alloc _).keep hb)
  obtain ⟨X2, xc2, rfl, _, hX⟩ := own_slice n lN.out ho
  have HX2 := Aside0.mk hX
  clear hb H4 ho hX
  go_wp2_with (first | (refine ld_trw (w4.heap.size) lqt.out (H5.out.at 0 rfl) rfl _ rfl rfl ?_) | (refine ld_trw (w2.heap.size) lqs.out (H5.out.at 1 rfl) rfl _ rfl rfl ?_))
  refine (M3.out X2 xc2 _ HX2.out).mono ?_
  rintro e w6 ⟨rfl, hb⟩
  have H6 := Lib.hid (H5.out.keep hb)
  clear hb H5 HX2
  go_wp2_with (first | (refine st_tr_new lqu.out rfl rfl _ _ rfl rfl rfl ?_) | (refine ld_trw w6.heap.size lqu.out ((H6.out.alloc _).at 0 rfl) rfl _ rfl rfl ?_) | (refine ld_trw (w4.heap.size) lqt.out ((H6.out.alloc _).at 1 rfl) rfl _ rfl rfl ?_) | (refine ld_trw (w2.heap.size) lqs.out ((H6.out.alloc _).at 2 rfl) rfl _ rfl rfl ?_))
  refine (I1.out _).mono ?_
  rintro e w7 ⟨rfl, hb⟩
  have H7 := Lib.hid ((H6.out.alloc _).keep hb)
  clear hb H6
  go_wp2_with (first | (refine st_tr_new lqi.out rfl rfl _ _ rfl rfl rfl ?_) | (refine ld_trw w7.heap.size lqi.out ((H7.out.alloc _).at 0 rfl) rfl _ rfl rfl ?_) | (refine ld_trw (w6.heap.size) lqu.out ((H7.out.alloc _).at 1 rfl) rfl _ rfl rfl ?_) | (refine ld_trw (w4.heap.size) lqt.out ((H7.out.alloc _).at 2 rfl) rfl _ rfl rfl ?_) | (refine ld_trw (w2.heap.size) lqs.out ((H7.out.alloc _).at 3 rfl) rfl _ rfl rfl ?_))
  refine (C1.out _).mono ?_
  rintro e w8 ⟨rfl, hb⟩
  have H8 := Lib.hid ((H7.out.alloc _).keep hb)
  clear hb H7
  go_wp2_with (first | (refine st_tr_new lqst.out rfl rfl _ _ rfl rfl rfl ?_) | (refine ld_trw w8.heap.size lqst.out ((H8.out.alloc _).at 0 rfl) rfl _ rfl rfl ?_) | (refine ld_trw (w7.heap.size) lqi.out ((H8.out.alloc _).at 1 rfl) rfl _ rfl rfl ?_) | (refine ld_trw (w6.heap.size) lqu.out ((H8.out.alloc _).at 2 rfl) rfl _ rfl rfl ?_) | (refine ld_trw (w4.heap.size) lqt.out ((H8.out.alloc _).at 3 rfl) rfl _ rfl rfl ?_) | (refine ld_trw (w2.heap.size) lqs.out ((H8.out.alloc _).at 4 rfl) rfl _ rfl rfl ?_))
  refine (C2.out _).mono ?_
  rintro e w9 ⟨rfl, hb⟩
  have H9 := Lib.hid ((H8.out.alloc _).keep hb)
  clear hb H8
  go_wp2_with (first | (refine st_tr_new lqtu.out rfl rfl _ _ rfl rfl rfl ?_) | (refine ld_trw w9.heap.size lqtu.out ((H9.out.alloc _).at 0 rfl) rfl _ rfl rfl ?_) | (refine ld_trw (w8.heap.size) lqst.out ((H9.out.alloc _).at 1 rfl) rfl _ rfl rfl ?_) | (refine ld_trw (w7.heap.size) lqi.out ((H9.out.alloc _).at 2 rfl) rfl _ rfl rfl ?_) | (refine ld_trw (w6.heap.size) lqu.out ((H9.out.alloc _).at 3 rfl) rfl _ rfl rfl ?_) | (refine ld_trw (w4.heap.size) lqt.out ((H9.out.alloc _).at 4 rfl) rfl _ rfl rfl ?_) | (refine ld_trw (w2.heap.size) lqs.out ((H9.out.alloc _).at 5 rfl) rfl _ rfl rfl ?_))
  refine (C3.out _).mono ?_
  rintro e w10 ⟨rfl, hb⟩
  have H10 := Lib.hid ((H9.out.alloc _).keep hb)
  clear hb H9
  go_wp2_with (first | (refine st_tr_new lqx.out rfl rfl _ _ rfl rfl rfl ?_) | (refine ld_trw w10.heap.size lqx.out ((H10.out.alloc _).at 0 rfl) rfl _ rfl rfl ?_) | (refine ld_trw (w9.heap.size) lqtu.out ((H10.out.alloc _).at 1 rfl) rfl _ rfl rfl ?_) | (refine ld_trw (w8.heap.size) lqst.out ((H10.out.alloc _).at 2 rfl) rfl _ rfl rfl ?_) | (refine ld_trw (w7.heap.size) lqi.out ((H10.out.alloc _).at 3 rfl) rfl _ rfl rfl ?_) | (refine ld_trw (w6.heap.size) lqu.out ((H10.out.alloc _).at 4 rfl) rfl _ rfl rfl ?_) | (refine ld_trw (w4.heap.size) lqt.out ((H10.out.alloc _).at 5 rfl) rfl _ rfl rfl ?_) | (refine ld_trw (w2.heap.size) lqs.out ((H10.out.alloc _).at 6 rfl) rfl _ rfl rfl ?_))
  refine (C4.out _).mono ?_
  rintro e w11 ⟨rfl, hb⟩
  have H11 := Lib.hid ((H10.out.alloc _).keep hb)
  clear hb H10
  go_wp2_with (first | (refine st_tr_new lqx.out rfl rfl _ _ rfl rfl rfl ?_) | (refine ld_trw w11.heap.size lqx.out ((H11.out.alloc _).at 0 rfl) rfl _ rfl rfl ?_) | (refine ld_trw (w10.heap.size) lqx.out ((H11.out.alloc _).at 1 rfl) rfl _ rfl rfl ?_) | (refine ld_trw (w9.heap.size) lqtu.out ((H11.out.alloc _).at 2 rfl) rfl _ rfl rfl ?_) | (refine ld_trw (w8.heap.size) lqst.out ((H11.out.alloc _).at 3 rfl) rfl _ rfl rfl ?_) | (refine ld_trw (w7.heap.size) lqi.out ((H11.out.alloc _).at 4 rfl) rfl _ rfl rfl ?_) | (refine ld_trw (w6.heap.size) lqu.out ((H11.out.alloc _).at 5 rfl) rfl _ rfl rfl ?_) | (refine ld_trw (w4.heap.size) lqt.out ((H11.out.alloc _).at 6 rfl) rfl _ rfl rfl ?_) | (refine ld_trw (w2.heap.size) lqs.out ((H11.out.alloc _).at 7 rfl) rfl _ rfl rfl ?_))
  refine (num_any 0 _).mono ?_
  rintro e w' ⟨rfl, rfl⟩
  go_wp2_with (first | (refine st_tr_new lqx.out rfl rfl _ _ rfl rfl rfl ?_) | (refine ld_trw w11.heap.size lqx.out ((H11.out.alloc _).at 0 rfl) rfl _ rfl rfl ?_) | (refine ld_trw (w10.heap.size) lqx.out ((H11.out.alloc _).at 1 rfl) rfl _ rfl rfl ?_) | (refine ld_trw (w9.heap.size) lqtu.out ((H11.out.alloc _).at 2 rfl) rfl _ rfl rfl ?_) | (refine ld_trw (w8.heap.size) lqst.out ((H11.out.alloc _).at 3 rfl) rfl _ rfl rfl ?_) | (refine ld_trw (w7.heap.size) lqi.out ((H11.out.alloc _).at 4 rfl) rfl _ rfl rfl ?_) | (refine ld_trw (w6.heap.size) lqu.out ((H11.out.alloc _).at 5 rfl) rfl _ rfl rfl ?_) | (refine ld_trw (w4.heap.size) lqt.out ((H11.out.alloc _).at 6 rfl) rfl _ rfl rfl ?_) | (refine ld_trw (w2.heap.size) lqs.out ((H11.out.alloc _).at 7 rfl) rfl _ rfl rfl ?_))
  refine (num_any 0 _).mono ?_
  rintro e w' ⟨rfl, rfl⟩
  go_wp2_with (first | (refine st_tr_new lqx.out rfl rfl _ _ rfl rfl rfl ?_) | (refine ld_trw w11.heap.size lqx.out ((H11.out.alloc _).at 0 rfl) rfl _ rfl rfl ?_) | (refine ld_trw (w10.heap.size) lqx.out ((H11.out.alloc _).at 1 rfl) rfl _ rfl rfl ?_) | (refine ld_trw (w9.heap.size) lqtu.out ((H11.out.alloc _).at 2 rfl) rfl _ rfl rfl ?_) | (refine ld_trw (w8.heap.size) lqst.out ((H11.out.alloc _).at 3 rfl) rfl _ rfl rfl ?_) | (refine ld_trw (w7.heap.size) lqi.out ((H11.out.alloc _).at 4 rfl) rfl _ rfl rfl ?_) | (refine ld_trw (w6.heap.size) lqu.out ((H11.out.alloc _).at 5 rfl) rfl _ rfl rfl ?_) | (refine ld_trw (w4.heap.size) lqt.out ((H11.out.alloc _).at 6 rfl) rfl _ rfl rfl ?_) | (refine ld_trw (w2.heap.size) lqs.out ((H11.out.alloc _).at 7 rfl) rfl _ rfl rfl ?_))
  refine (num_any 0 _).mono ?_
  rintro e w' ⟨rfl, rfl⟩
  go_wp2_with (first | (refine st_tr_new lqx.out rfl rfl _ _ rfl rfl rfl ?_) | (refine ld_trw w11.heap.size lqx.out ((H11.out.alloc _).at 0 rfl) rfl _ rfl rfl ?_) | (refine ld_trw (w10.heap.size) lqx.out ((H11.out.alloc _).at 1 rfl) rfl _ rfl rfl ?_) | (refine ld_trw (w9.heap.size) lqtu.out ((H11.out.alloc _).at 2 rfl) rfl _ rfl rfl ?_) | (refine ld_trw (w8.heap.size) lqst.out ((H11.out.alloc _).at 3 rfl) rfl _ rfl rfl ?_) | (refine ld_trw (w7.heap.size) lqi.out ((H11.out.alloc _).at 4 rfl) rfl _ rfl rfl ?_) | (refine ld_trw (w6.heap.size) lqu.out ((H11.out.alloc _).at 5 rfl) rfl _ rfl rfl ?_) | (refine ld_trw (w4.heap.size) lqt.out ((H11.out.alloc _).at 6 rfl) rfl _ rfl rfl ?_) | (refine ld_trw (w2.heap.size) lqs.out ((H11.out.alloc _).at 7 rfl) rfl _ rfl rfl ?_))
  refine (num_any 0 _).mono ?_
  rintro e w' ⟨rfl, rfl⟩
  go_wp2_with (first | (refine st_tr_new lqx.out rfl rfl _ _ rfl rfl rfl ?_) | (refine ld_trw w11.heap.size lqx.out ((H11.out.alloc _).at 0 rfl) rfl _ rfl rfl ?_) | (refine ld_trw (w10.heap.size) lqx.out ((H11.out.alloc _).at 1 rfl) rfl _ rfl rfl ?_) | (refine ld_trw (w9.heap.size) lqtu.out ((H11.out.alloc _).at 2 rfl) rfl _ rfl rfl ?_) | (refine ld_trw (w8.heap.size) lqst.out ((H11.out.alloc _).at 3 rfl) rfl _ rfl rfl ?_) | (refine ld_trw (w7.heap.size) lqi.out ((H11.out.alloc _).at 4 rfl) rfl _ rfl rfl ?_) | (refine ld_trw (w6.heap.size) lqu.out ((H11.out.alloc _).at 5 rfl) rfl _ rfl rfl ?_) | (refine ld_trw (w4.heap.size) lqt.out ((H11.out.alloc _).at 6 rfl) rfl _ rfl rfl ?_) | (refine ld_trw (w2.heap.size) lqs.out ((H11.out.alloc _).at 7 rfl) rfl _ rfl rfl ?_))
  refine (num_any 0 _).mono ?_
  rintro e w' ⟨rfl, rfl⟩
  go_wp2_with (first | (refine st_tr_new lqx.out rfl rfl _ _ rfl rfl rfl ?_) | (refine ld_trw w11.heap.size lqx.out ((H11.out.alloc _).at 0 rfl) rfl _ rfl rfl ?_) | (refine ld_trw (w10.heap.size) lqx.out ((H11.out.alloc _).at 1 rfl) rfl _ rfl rfl ?_) | (refine ld_trw (w9.heap.size) lqtu.out ((H11.out.alloc _).at 2 rfl) rfl _ rfl rfl ?_) | (refine ld_trw (w8.heap.size) lqst.out ((H11.out.alloc _).at 3 rfl) rfl _ rfl rfl ?_) | (refine ld_trw (w7.heap.size) lqi.out ((H11.out.alloc _).at 4 rfl) rfl _ rfl rfl ?_) | (refine ld_trw (w6.heap.size) lqu.out ((H11.out.alloc _).at 5 rfl) rfl _ rfl rfl ?_) | (refine ld_trw (w4.heap.size) lqt.out ((H11.out.alloc _).at 6 rfl) rfl _ rfl rfl ?_) | (refine ld_trw (w2.heap.size) lqs.out ((H11.out.alloc _).at 7 rfl) rfl _ rfl rfl ?_))
  refine (num_any 0 _).mono ?_
  rintro e w' ⟨rfl, rfl⟩
  go_wp2_with (first | (refine st_tr_new lqx.out rfl rfl _ _ rfl rfl rfl ?_) | (refine ld_trw w11.heap.size lqx.out ((H11.out.alloc _).at 0 rfl) rfl _ rfl rfl ?_) | (refine ld_trw (w10.heap.size) lqx.out ((H11.out.alloc _).at 1 rfl) rfl _ rfl rfl ?_) | (refine ld_trw (w9.heap.size) lqtu.out ((H11.out.alloc _).at 2 rfl) rfl _ rfl rfl ?_) | (refine ld_trw (w8.heap.size) lqst.out ((H11.out.alloc _).at 3 rfl) rfl _ rfl rfl ?_) | (refine ld_trw (w7.heap.size) lqi.out ((H11.out.alloc _).at 4 rfl) rfl _ rfl rfl ?_) | (refine ld_trw (w6.heap.size) lqu.out ((H11.out.alloc _).at 5 rfl) rfl _ rfl rfl ?_) | (refine ld_trw (w4.heap.size) lqt.out ((H11.out.alloc _).at 6 rfl) rfl _ rfl rfl ?_) | (refine ld_trw (w2.heap.size) lqs.out ((H11.out.alloc _).at 7 rfl) rfl _ rfl rfl ?_))
  refine (num_any 0 _).mono ?_
  rintro e w' ⟨rfl, rfl⟩
  go_wp2_with (first | (refine st_tr_new lqx.out rfl rfl _ _ rfl rfl rfl ?_) | (refine ld_trw w11.heap.size lqx.out ((H11.out.alloc _).at 0 rfl) rfl _ rfl rfl ?_) | (refine ld_trw (w10.heap.size) lqx.out ((H11.out.alloc _).at 1 rfl) rfl _ rfl rfl ?_) | (refine ld_trw (w9.heap.size) lqtu.out ((H11.out.alloc _).at 2 rfl) rfl _ rfl rfl ?_) | (refine ld_trw (w8.heap.size) lqst.out ((H11.out.alloc _).at 3 rfl) rfl _ rfl rfl ?_) | (refine ld_trw (w7.heap.size) lqi.out ((H11.out.alloc _).at 4 rfl) rfl _ rfl rfl ?_) | (refine ld_trw (w6.heap.size) lqu.out ((H11.out.alloc _).at 5 rfl) rfl _ rfl rfl ?_) | (refine ld_trw (w4.heap.size) lqt.out ((H11.out.alloc _).at 6 rfl) rfl _ rfl rfl ?_) | (refine ld_trw (w2.heap.size) lqs.out ((H11.out.alloc _).at 7 rfl) rfl _ rfl rfl ?_))
  refine (num_any 0 _).mono ?_
  rintro e w' ⟨rfl, rfl⟩
  go_wp2_with (first | (refine st_tr_new lqx.out rfl rfl _ _ rfl rfl rfl ?_) | (refine ld_trw w11.heap.size lqx.out ((H11.out.alloc _).at 0 rfl) rfl _ rfl rfl ?_) | (refine ld_trw (w10.heap.size) lqx.out ((H11.out.alloc _).at 1 rfl) rfl _ rfl rfl ?_) | (refine ld_trw (w9.heap.size) lqtu.out ((H11.out.alloc _).at 2 rfl) rfl _ rfl rfl ?_) | (refine ld_trw (w8.heap.size) lqst.out ((H11.out.alloc _).at 3 rfl) rfl _ rfl rfl ?_) | (refine ld_trw (w7.heap.size) lqi.out ((H11.out.alloc _).at 4 rfl) rfl _ rfl rfl ?_) | (refine ld_trw (w6.heap.size) lqu.out ((H11.out.alloc _).at 5 rfl) rfl _ rfl rfl ?_) | (refine ld_trw (w4.heap.size) lqt.out ((H11.out.alloc _).at 6 rfl) rfl _ rfl rfl ?_) | (refine ld_trw (w2.heap.size) lqs.out ((H11.out.alloc _).at 7 rfl) rfl _ rfl rfl ?_) | (refine ne_tr false lqx.out lqx.out rfl _ _ _ rfl rfl rfl (neT_dec _ _) ?_) | (refine ne_tr false lqs.out lqs.out rfl _ _ _ rfl rfl rfl (neT_dec _ _) ?_))
  refine (knows_any _).mono ?_
  rintro e w12 ⟨rfl, hb⟩
  have H12 := Lib.hid ((H11.out.alloc _).keep hb)
  clear hb H11
  go_wp2_with (first | (refine ld_trw (w11.heap.size) lqx.out (H12.out.at 0 rfl) rfl _ rfl rfl ?_) | (refine ld_trw (w10.heap.size) lqx.out (H12.out.at 1 rfl) rfl _ rfl rfl ?_) | (refine ld_trw (w9.heap.size) lqtu.out (H12.out.at 2 rfl) rfl _ rfl rfl ?_) | (refine ld_trw (w8.heap.size) lqst.out (H12.out.at 3 rfl) rfl _ rfl rfl ?_) | (refine ld_trw (w7.heap.size) lqi.out (H12.out.at 4 rfl) rfl _ rfl rfl ?_) | (refine ld_trw (w6.heap.size) lqu.out (H12.out.at 5 rfl) rfl _ rfl rfl ?_) | (refine ld_trw (w4.heap.size) lqt.out (H12.out.at 6 rfl) rfl _ rfl rfl ?_) | (refine ld_trw (w2.heap.size) lqs.out (H12.out.at 7 rfl) rfl _ rfl rfl ?_))
  refine (C5.out _).mono ?_
  rintro e w13 ⟨rfl, hb⟩
  have H13 := Lib.hid (H12.out.keep hb)
  clear hb H12
  go_wp2_with (first | (refine st_tr_new lqs.out rfl rfl _ _ rfl rfl rfl ?_) | (refine ld_trw w13.heap.size lqs.out ((H13.out.alloc _).at 0 rfl) rfl _ rfl rfl ?_) | (refine ld_trw (w11.heap.size) lqx.out ((H13.out.alloc _).at 1 rfl) rfl _ rfl rfl ?_) | (refine ld_trw (w10.heap.size) lqx.out ((H13.out.alloc _).at 2 rfl) rfl _ rfl rfl ?_) | (refine ld_trw (w9.heap.size) lqtu.out ((H13.out.alloc _).at 3 rfl) rfl _ rfl rfl ?_) | (refine ld_trw (w8.heap.size) lqst.out ((H13.out.alloc _).at 4 rfl) rfl _ rfl rfl ?_) | (refine ld_trw (w7.heap.size) lqi.out ((H13.out.alloc _).at 5 rfl) rfl _ rfl rfl ?_) | (refine ld_trw (w6.heap.size) lqu.out ((H13.out.alloc _).at 6 rfl) rfl _ rfl rfl ?_) | (refine ld_trw (w4.heap.size) lqt.out ((H13.out.alloc _).at 7 rfl) rfl _ rfl rfl ?_) | (refine ld_trw (w2.heap.size) lqs.out ((H13.out.alloc _).at 8 rfl) rfl _ rfl rfl ?_))
  refine (C6.out _).mono ?_
  rintro e w14 ⟨rfl, hb⟩
  have H14 := Lib.hid ((H13.out.alloc _).keep hb)
  clear hb H13
  go_wp2_with (first | (refine st_tr_new lqs.out rfl rfl _ _ rfl rfl rfl ?_) | (refine ld_trw w14.heap.size lqs.out ((H14.out.alloc _).at 0 rfl) rfl _ rfl rfl ?_) | (refine ld_trw (w13.heap.size) lqs.out ((H14.out.alloc _).at 1 rfl) rfl _ rfl rfl ?_) | (refine ld_trw (w11.heap.size) lqx.out ((H14.out.alloc _).at 2 rfl) rfl _ rfl rfl ?_) | (refine ld_trw (w10.heap.size) lqx.out ((H14.out.alloc _).at 3 rfl) rfl _ rfl rfl ?_) | (refine ld_trw (w9.heap.size) lqtu.out ((H14.out.alloc _).at 4 rfl) rfl _ rfl rfl ?_) | (refine ld_trw (w8.heap.size) lqst.out ((H14.out.alloc _).at 5 rfl) rfl _ rfl rfl ?_) | (refine ld_trw (w7.heap.size) lqi.out ((H14.out.alloc _).at 6 rfl) rfl _ rfl rfl ?_) | (refine ld_trw (w6.heap.size) lqu.out ((H14.out.alloc _).at 7 rfl) rfl _ rfl rfl ?_) | (refine ld_trw (w4.heap.size) lqt.out ((H14.out.alloc _).at 8 rfl) rfl _ rfl rfl ?_) | (refine ld_trw (w2.heap.size) lqs.out ((H14.out.alloc _).at 9 rfl) rfl _ rfl rfl ?_))
  refine (num_any 0 _).mono ?_
  rintro e w' ⟨rfl, rfl⟩
  go_wp2_with (first | (refine st_tr_new lqs.out rfl rfl _ _ rfl rfl rfl ?_) | (refine ld_trw w14.heap.size lqs.out ((H14.out.alloc _).at 0 rfl) rfl _ rfl rfl ?_) | (refine ld_trw (w13.heap.size) lqs.out ((H14.out.alloc _).at 1 rfl) rfl _ rfl rfl ?_) | (refine ld_trw (w11.heap.size) lqx.out ((H14.out.alloc _).at 2 rfl) rfl _ rfl rfl ?_) | (refine ld_trw (w10.heap.size) lqx.out ((H14.out.alloc _).at 3 rfl) rfl _ rfl rfl ?_) | (refine ld_trw (w9.heap.size) lqtu.out ((H14.out.alloc _).at 4 rfl) rfl _ rfl rfl ?_) | (refine ld_trw (w8.heap.size) lqst.out ((H14.out.alloc _).at 5 rfl) rfl _ rfl rfl ?_) | (refine ld_trw (w7.heap.size) lqi.out ((H14.out.alloc _).at 6 rfl) rfl _ rfl rfl ?_) | (refine ld_trw (w6.heap.size) lqu.out ((H14.out.alloc _).at 7 rfl) rfl _ rfl rfl ?_) | (refine ld_trw (w4.heap.size) lqt.out ((H14.out.alloc _).at 8 rfl) rfl _ rfl rfl ?_) | (refine ld_trw (w2.heap.size) lqs.out ((H14.out.alloc _).at 9 rfl) rfl _ rfl rfl ?_))
  refine (num_any 0 _).mono ?_
  rintro e w' ⟨rfl, rfl⟩
  have H14a := Lib.hid (H14.out.alloc (TR n qs))
  by_cases hkj : k + j < 18446744073709551616
  · have hw1 : IntKind.u64.wrap ((k : Int) + (j : Int)) = ((k + j : Nat) : Int) := by
      rw [IntWalk.u64_in _ ⟨by omega, by omega⟩]; rfl
    have P3 := Aside0.mk (P3.out hkj)
    have HH := H14a
    clear H14 H14a
    go_wp2_with (first | (refine ld_trw (w14.heap.size) lqs.out (HH.out.at 0 rfl) rfl _ rfl rfl ?_) | (refine ld_trw (w13.heap.size) lqs.out (HH.out.at 1 rfl) rfl _ rfl rfl ?_) | (refine ld_trw (w11.heap.size) lqx.out (HH.out.at 2 rfl) rfl _ rfl rfl ?_) | (refine ld_trw (w10.heap.size) lqx.out (HH.out.at 3 rfl) rfl _ rfl rfl ?_) | (refine ld_trw (w9.heap.size) lqtu.out (HH.out.at 4 rfl) rfl _ rfl rfl ?_) | (refine ld_trw (w8.heap.size) lqst.out (HH.out.at 5 rfl) rfl _ rfl rfl ?_) | (refine ld_trw (w7.heap.size) lqi.out (HH.out.at 6 rfl) rfl _ rfl rfl ?_) | (refine ld_trw (w6.heap.size) lqu.out (HH.out.at 7 rfl) rfl _ rfl rfl ?_) | (refine ld_trw (w4.heap.size) lqt.out (HH.out.at 8 rfl) rfl _ rfl rfl ?_) | (refine ld_trw (w2.heap.size) lqs.out (HH.out.at 9 rfl) rfl _ rfl rfl ?_) | (refine ne_tr false lqx.out lqx.out rfl _ _ _ rfl rfl rfl (neT_dec _ _) ?_) | (refine ne_tr false lqs.out lqs.out rfl _ _ _ rfl rfl rfl (neT_dec _ _) ?_))
    refine (P1.out _).mono ?_
    rintro e w15 ⟨rfl, hb⟩
    have H15 := Lib.hid (HH.out.keep hb)
    clear hb HH
    go_wp2_with (first | (refine st_tr_new lqv.out rfl rfl _ _ rfl rfl rfl ?_) | (refine ld_trw w15.heap.size lqv.out ((H15.out.alloc _).at 0 rfl) rfl _ rfl rfl ?_) | (refine ld_trw (w14.heap.size) lqs.out ((H15.out.alloc _).at 1 rfl) rfl _ rfl rfl ?_) | (refine ld_trw (w13.heap.size) lqs.out ((H15.out.alloc _).at 2 rfl) rfl _ rfl rfl ?_) | (refine ld_trw (w11.heap.size) lqx.out ((H15.out.alloc _).at 3 rfl) rfl _ rfl rfl ?_) | (refine ld_trw (w10.heap.size) lqx.out ((H15.out.alloc _).at 4 rfl) rfl _ rfl rfl ?_) | (refine ld_trw (w9.heap.size) lqtu.out ((H15.out.alloc _).at 5 rfl) rfl _ rfl rfl ?_) | (refine ld_trw (w8.heap.size) lqst.out ((H15.out.alloc _).at 6 rfl) rfl _ rfl rfl ?_) | (refine ld_trw (w7.heap.size) lqi.out ((H15.out.alloc _).at 7 rfl) rfl _ rfl rfl ?_) | (refine ld_trw (w6.heap.size) lqu.out ((H15.out.alloc _).at 8 rfl) rfl _ rfl rfl ?_) | (refine ld_trw (w4.heap.size) lqt.out ((H15.out.alloc _).at 9 rfl) rfl _ rfl rfl ?_) | (refine ld_trw (w2.heap.size) lqs.out ((H15.out.alloc _).at 10 rfl) rfl _ rfl rfl ?_))
    refine (P2.out _).mono ?_
    rintro e w16 ⟨rfl, hb⟩
    have H16 := Lib.hid ((H15.out.alloc _).keep hb)
    clear hb H15
    go_wp2_with (first | (refine st_tr_new lqw.out rfl rfl _ _ rfl rfl rfl ?_) | (refine ld_trw w16.heap.size lqw.out ((H16.out.alloc _).at 0 rfl) rfl _ rfl rfl ?_) | (refine ld_trw (w15.heap.size) lqv.out ((H16.out.alloc _).at 1 rfl) rfl _ rfl rfl ?_) | (refine ld_trw (w14.heap.size) lqs.out ((H16.out.alloc _).at 2 rfl) rfl _ rfl rfl ?_) | (refine ld_trw (w13.heap.size) lqs.out ((H16.out.alloc _).at 3 rfl) rfl _ rfl rfl ?_) | (refine ld_trw (w11.heap.size) lqx.out ((H16.out.alloc _).at 4 rfl) rfl _ rfl rfl ?_) | (refine ld_trw (w10.heap.size) lqx.out ((H16.out.alloc _).at 5 rfl) rfl _ rfl rfl ?_) | (refine ld_trw (w9.heap.size) lqtu.out ((H16.out.alloc _).at 6 rfl) rfl _ rfl rfl ?_) | (refine ld_trw (w8.heap.size) lqst.out ((H16.out.alloc _).at 7 rfl) rfl _ rfl rfl ?_) | (refine ld_trw (w7.heap.size) lqi.out ((H16.out.alloc _).at 8 rfl) rfl _ rfl rfl ?_) | (refine ld_trw (w6.heap.size) lqu.out ((H16.out.alloc _).at 9 rfl) rfl _ rfl rfl ?_) | (refine ld_trw (w4.heap.size) lqt.out ((H16.out.alloc _).at 10 rfl) rfl _ rfl rfl ?_) | (refine ld_trw (w2.heap.size) lqs.out ((H16.out.alloc _).at 11 rfl) rfl _ rfl rfl ?_))
    refine (P3.out _).mono ?_
    rintro e w17 ⟨rfl, hb⟩
    have H17 := Lib.hid ((H16.out.alloc _).keep hb)
    clear hb H16
    go_wp2_with (first | (refine st_tr_new lqz.out rfl rfl _ _ rfl rfl rfl ?_) | (refine ld_trw w17.heap.size lqz.out ((H17.out.alloc _).at 0 rfl) rfl _ rfl rfl ?_) | (refine ld_trw (w16.heap.size) lqw.out ((H17.out.alloc _).at 1 rfl) rfl _ rfl rfl ?_) | (refine ld_trw (w15.heap.size) lqv.out ((H17.out.alloc _).at 2 rfl) rfl _ rfl rfl ?_) | (refine ld_trw (w14.heap.size) lqs.out ((H17.out.alloc _).at 3 rfl) rfl _ rfl rfl ?_) | (refine ld_trw (w13.heap.size) lqs.out ((H17.out.alloc _).at 4 rfl) rfl _ rfl rfl ?_) | (refine ld_trw (w11.heap.size) lqx.out ((H17.out.alloc _).at 5 rfl) rfl _ rfl rfl ?_) | (refine ld_trw (w10.heap.size) lqx.out ((H17.out.alloc _).at 6 rfl) rfl _ rfl rfl ?_) | (refine ld_trw (w9.heap.size) lqtu.out ((H17.out.alloc _).at 7 rfl) rfl _ rfl rfl ?_) | (refine ld_trw (w8.heap.size) lqst.out ((H17.out.alloc _).at 8 rfl) rfl _ rfl rfl ?_) | (refine ld_trw (w7.heap.size) lqi.out ((H17.out.alloc _).at 9 rfl) rfl _ rfl rfl ?_) | (refine ld_trw (w6.heap.size) lqu.out ((H17.out.alloc _).at 10 rfl) rfl _ rfl rfl ?_) | (refine ld_trw (w4.heap.size) lqt.out ((H17.out.alloc _).at 11 rfl) rfl _ rfl rfl ?_) | (refine ld_trw (w2.heap.size) lqs.out ((H17.out.alloc _).at 12 rfl) rfl _ rfl rfl ?_))
    refine (C7.out _).mono ?_
    rintro e w18 ⟨rfl, hb⟩
    have H18 := Lib.hid ((H17.out.alloc _).keep hb)
    clear hb H17
    go_wp2_with (first | (refine st_tr_new lqz.out rfl rfl _ _ rfl rfl rfl ?_) | (refine ld_trw w18.heap.size lqz.out ((H18.out.alloc _).at 0 rfl) rfl _ rfl rfl ?_) | (refine ld_trw (w17.heap.size) lqz.out ((H18.out.alloc _).at 1 rfl) rfl _ rfl rfl ?_) | (refine ld_trw (w16.heap.size) lqw.out ((H18.out.alloc _).at 2 rfl) rfl _ rfl rfl ?_) | (refine ld_trw (w15.heap.size) lqv.out ((H18.out.alloc _).at 3 rfl) rfl _ rfl rfl ?_) | (refine ld_trw (w14.heap.size) lqs.out ((H18.out.alloc _).at 4 rfl) rfl _ rfl rfl ?_) | (refine ld_trw (w13.heap.size) lqs.out ((H18.out.alloc _).at 5 rfl) rfl _ rfl rfl ?_) | (refine ld_trw (w11.heap.size) lqx.out ((H18.out.alloc _).at 6 rfl) rfl _ rfl rfl ?_) | (refine ld_trw (w10.heap.size) lqx.out ((H18.out.alloc _).at 7 rfl) rfl _ rfl rfl ?_) | (refine ld_trw (w9.heap.size) lqtu.out ((H18.out.alloc _).at 8 rfl) rfl _ rfl rfl ?_) | (refine ld_trw (w8.heap.size) lqst.out ((H18.out.alloc _).at 9 rfl) rfl _ rfl rfl ?_) | (refine ld_trw (w7.heap.size) lqi.out ((H18.out.alloc _).at 10 rfl) rfl _ rfl rfl ?_) | (refine ld_trw (w6.heap.size) lqu.out ((H18.out.alloc _).at 11 rfl) rfl _ rfl rfl ?_) | (refine ld_trw (w4.heap.size) lqt.out ((H18.out.alloc _).at 12 rfl) rfl _ rfl rfl ?_) | (refine ld_trw (w2.heap.size) lqs.out ((H18.out.alloc _).at 13 rfl) rfl _ rfl rfl ?_) | (refine eq_tr true lqz.out lqz.out rfl _ _ _ rfl rfl rfl (sameT_dec _ _) ?_))
    refine (num_any 0 _).mono ?_
    rintro e w' ⟨rfl, rfl⟩
    go_wp2_with (first | (refine st_tr_new lqz.out rfl rfl _ _ rfl rfl rfl ?_) | (refine ld_trw w18.heap.size lqz.out ((H18.out.alloc _).at 0 rfl) rfl _ rfl rfl ?_) | (refine ld_trw (w17.heap.size) lqz.out ((H18.out.alloc _).at 1 rfl) rfl _ rfl rfl ?_) | (refine ld_trw (w16.heap.size) lqw.out ((H18.out.alloc _).at 2 rfl) rfl _ rfl rfl ?_) | (refine ld_trw (w15.heap.size) lqv.out ((H18.out.alloc _).at 3 rfl) rfl _ rfl rfl ?_) | (refine ld_trw (w14.heap.size) lqs.out ((H18.out.alloc _).at 4 rfl) rfl _ rfl rfl ?_) | (refine ld_trw (w13.heap.size) lqs.out ((H18.out.alloc _).at 5 rfl) rfl _ rfl rfl ?_) | (refine ld_trw (w11.heap.size) lqx.out ((H18.out.alloc _).at 6 rfl) rfl _ rfl rfl ?_) | (refine ld_trw (w10.heap.size) lqx.out ((H18.out.alloc _).at 7 rfl) rfl _ rfl rfl ?_) | (refine ld_trw (w9.heap.size) lqtu.out ((H18.out.alloc _).at 8 rfl) rfl _ rfl rfl ?_) | (refine ld_trw (w8.heap.size) lqst.out ((H18.out.alloc _).at 9 rfl) rfl _ rfl rfl ?_) | (refine ld_trw (w7.heap.size) lqi.out ((H18.out.alloc _).at 10 rfl) rfl _ rfl rfl ?_) | (refine ld_trw (w6.heap.size) lqu.out ((H18.out.alloc _).at 11 rfl) rfl _ rfl rfl ?_) | (refine ld_trw (w4.heap.size) lqt.out ((H18.out.alloc _).at 12 rfl) rfl _ rfl rfl ?_) | (refine ld_trw (w2.heap.size) lqs.out ((H18.out.alloc _).at 13 rfl) rfl _ rfl rfl ?_) | (refine eq_tr true lqz.out lqz.out rfl _ _ _ rfl rfl rfl (sameT_dec _ _) ?_))
    refine (num_any 0 _).mono ?_
    rintro e w' ⟨rfl, rfl⟩
    go_wp2_with (first | (refine st_tr_new lqz.out rfl rfl _ _ rfl rfl rfl ?_) | (refine ld_trw w18.heap.size lqz.out ((H18.out.alloc _).at 0 rfl) rfl _ rfl rfl ?_) | (refine ld_trw (w17.heap.size) lqz.out ((H18.out.alloc _).at 1 rfl) rfl _ rfl rfl ?_) | (refine ld_trw (w16.heap.size) lqw.out ((H18.out.alloc _).at 2 rfl) rfl _ rfl rfl ?_) | (refine ld_trw (w15.heap.size) lqv.out ((H18.out.alloc _).at 3 rfl) rfl _ rfl rfl ?_) | (refine ld_trw (w14.heap.size) lqs.out ((H18.out.alloc _).at 4 rfl) rfl _ rfl rfl ?_) | (refine ld_trw (w13.heap.size) lqs.out ((H18.out.alloc _).at 5 rfl) rfl _ rfl rfl ?_) | (refine ld_trw (w11.heap.size) lqx.out ((H18.out.alloc _).at 6 rfl) rfl _ rfl rfl ?_) | (refine ld_trw (w10.heap.size) lqx.out ((H18.out.alloc _).at 7 rfl) rfl _ rfl rfl ?_) | (refine ld_trw (w9.heap.size) lqtu.out ((H18.out.alloc _).at 8 rfl) rfl _ rfl rfl ?_) | (refine ld_trw (w8.heap.size) lqst.out ((H18.out.alloc _).at 9 rfl) rfl _ rfl rfl ?_) | (refine ld_trw (w7.heap.size) lqi.out ((H18.out.alloc _).at 10 rfl) rfl _ rfl rfl ?_) | (refine ld_trw (w6.heap.size) lqu.out ((H18.out.alloc _).at 11 rfl) rfl _ rfl rfl ?_) | (refine ld_trw (w4.heap.size) lqt.out ((H18.out.alloc _).at 12 rfl) rfl _ rfl rfl ?_) | (refine ld_trw (w2.heap.size) lqs.out ((H18.out.alloc _).at 13 rfl) rfl _ rfl rfl ?_) | (refine eq_tr true lqz.out lqz.out rfl _ _ _ rfl rfl rfl (sameT_dec _ _) ?_))
    refine (num_any 0 _).mono ?_
    rintro e w' ⟨rfl, rfl⟩
    go_wp2_with (first | (refine st_tr_new lqz.out rfl rfl _ _ rfl rfl rfl ?_) | (refine ld_trw w18.heap.size lqz.out ((H18.out.alloc _).at 0 rfl) rfl _ rfl rfl ?_) | (refine ld_trw (w17.heap.size) lqz.out ((H18.out.alloc _).at 1 rfl) rfl _ rfl rfl ?_) | (refine ld_trw (w16.heap.size) lqw.out ((H18.out.alloc _).at 2 rfl) rfl _ rfl rfl ?_) | (refine ld_trw (w15.heap.size) lqv.out ((H18.out.alloc _).at 3 rfl) rfl _ rfl rfl ?_) | (refine ld_trw (w14.heap.size) lqs.out ((H18.out.alloc _).at 4 rfl) rfl _ rfl rfl ?_) | (refine ld_trw (w13.heap.size) lqs.out ((H18.out.alloc _).at 5 rfl) rfl _ rfl rfl ?_) | (refine ld_trw (w11.heap.size) lqx.out ((H18.out.alloc _).at 6 rfl) rfl _ rfl rfl ?_) | (refine ld_trw (w10.heap.size) lqx.out ((H18.out.alloc _).at 7 rfl) rfl _ rfl rfl ?_) | (refine ld_trw (w9.heap.size) lqtu.out ((H18.out.alloc _).at 8 rfl) rfl _ rfl rfl ?_) | (refine ld_trw (w8.heap.size) lqst.out ((H18.out.alloc _).at 9 rfl) rfl _ rfl rfl ?_) | (refine ld_trw (w7.heap.size) lqi.out ((H18.out.alloc _).at 10 rfl) rfl _ rfl rfl ?_) | (refine ld_trw (w6.heap.size) lqu.out ((H18.out.alloc _).at 11 rfl) rfl _ rfl rfl ?_) | (refine ld_trw (w4.heap.size) lqt.out ((H18.out.alloc _).at 12 rfl) rfl _ rfl rfl ?_) | (refine ld_trw (w2.heap.size) lqs.out ((H18.out.alloc _).at 13 rfl) rfl _ rfl rfl ?_) | (refine eq_tr true lqz.out lqz.out rfl _ _ _ rfl rfl rfl (sameT_dec _ _) ?_))
    refine (num_any 0 _).mono ?_
    rintro e w' ⟨rfl, rfl⟩
    go_wp2_with (first | (refine st_tr_new lqz.out rfl rfl _ _ rfl rfl rfl ?_) | (refine ld_trw w18.heap.size lqz.out ((H18.out.alloc _).at 0 rfl) rfl _ rfl rfl ?_) | (refine ld_trw (w17.heap.size) lqz.out ((H18.out.alloc _).at 1 rfl) rfl _ rfl rfl ?_) | (refine ld_trw (w16.heap.size) lqw.out ((H18.out.alloc _).at 2 rfl) rfl _ rfl rfl ?_) | (refine ld_trw (w15.heap.size) lqv.out ((H18.out.alloc _).at 3 rfl) rfl _ rfl rfl ?_) | (refine ld_trw (w14.heap.size) lqs.out ((H18.out.alloc _).at 4 rfl) rfl _ rfl rfl ?_) | (refine ld_trw (w13.heap.size) lqs.out ((H18.out.alloc _).at 5 rfl) rfl _ rfl rfl ?_) | (refine ld_trw (w11.heap.size) lqx.out ((H18.out.alloc _).at 6 rfl) rfl _ rfl rfl ?_) | (refine ld_trw (w10.heap.size) lqx.out ((H18.out.alloc _).at 7 rfl) rfl _ rfl rfl ?_) | (refine ld_trw (w9.heap.size) lqtu.out ((H18.out.alloc _).at 8 rfl) rfl _ rfl rfl ?_) | (refine ld_trw (w8.heap.size) lqst.out ((H18.out.alloc _).at 9 rfl) rfl _ rfl rfl ?_) | (refine ld_trw (w7.heap.size) lqi.out ((H18.out.alloc _).at 10 rfl) rfl _ rfl rfl ?_) | (refine ld_trw (w6.heap.size) lqu.out ((H18.out.alloc _).at 11 rfl) rfl _ rfl rfl ?_) | (refine ld_trw (w4.heap.size) lqt.out ((H18.out.alloc _).at 12 rfl) rfl _ rfl rfl ?_) | (refine ld_trw (w2.heap.size) lqs.out ((H18.out.alloc _).at 13 rfl) rfl _ rfl rfl ?_) | (refine eq_tr true lqz.out lqz.out rfl _ _ _ rfl rfl rfl (sameT_dec _ _) ?_))
    go_ret
    exact ⟨rfl, (H18.out.alloc _).2⟩
  · have hw1 : IntKind.u64.wrap ((k : Int) + (j : Int)) = ((k + j - 18446744073709551616 : Nat) : Int) := by
      have := hk.out; have := hj.out
      rw [IntKind.wrap_u64]; omega
    have hw2 : k + j - 18446744073709551616 < k := by have := hk.out; have := hj.out; omega
    have HH := H14a
    clear H14 H14a
    go_wp2_with (first | (refine ld_trw (w14.heap.size) lqs.out (HH.out.at 0 rfl) rfl _ rfl rfl ?_) | (refine ld_trw (w13.heap.size) lqs.out (HH.out.at 1 rfl) rfl _ rfl rfl ?_) | (refine ld_trw (w11.heap.size) lqx.out (HH.out.at 2 rfl) rfl _ rfl rfl ?_) | (refine ld_trw (w10.heap.size) lqx.out (HH.out.at 3 rfl) rfl _ rfl rfl ?_) | (refine ld_trw (w9.heap.size) lqtu.out (HH.out.at 4 rfl) rfl _ rfl rfl ?_) | (refine ld_trw (w8.heap.size) lqst.out (HH.out.at 5 rfl) rfl _ rfl rfl ?_) | (refine ld_trw (w7.heap.size) lqi.out (HH.out.at 6 rfl) rfl _ rfl rfl ?_) | (refine ld_trw (w6.heap.size) lqu.out (HH.out.at 7 rfl) rfl _ rfl rfl ?_) | (refine ld_trw (w4.heap.size) lqt.out (HH.out.at 8 rfl) rfl _ rfl rfl ?_) | (refine ld_trw (w2.heap.size) lqs.out (HH.out.at 9 rfl) rfl _ rfl rfl ?_) | (refine ne_tr false lqx.out lqx.out rfl _ _ _ rfl rfl rfl (neT_dec _ _) ?_) | (refine ne_tr false lqs.out lqs.out rfl _ _ _ rfl rfl rfl (neT_dec _ _) ?_))
    go_ret
    exact ⟨rfl, HH.out.2⟩
/-- In the form of the row. -/
theorem transMonoid_row (w : World) (x : Int) (_ : -9223372036854775808 ≤ x ∧ x ≤ 9223372036854775807) (A : Option Addr) (c : Nat) (a : List Int) (hA : Kd.C (Kd.int .i64) w A a.length a) (_ : a.length ≤ 17592186043904) (_ : ∀ x ∈ a, -9223372036854775808 ≤ x ∧ x ≤ 9223372036854775807)
    (B : Option Addr) (d : Nat) (b : List Int) (hB : Kd.C (Kd.int .i64) w B b.length b) (_ : b.length ≤ 17592186043904) (_ : ∀ x ∈ b, -9223372036854775808 ≤ x ∧ x ≤ 9223372036854775807)
    (C : Option Addr) (z : Nat) (f : List Int) (hC : Kd.C (Kd.int .i64) w C f.length f) (_ : f.length ≤ 17592186043904) (_ : ∀ x ∈ f, -9223372036854775808 ≤ x ∧ x ≤ 9223372036854775807) (k : Int) (hk : 0 ≤ k ∧ k ≤ 18446744073709551615) (j : Int) (hj : 0 ≤ j ∧ j ≤ 18446744073709551615) :
    Calls Try.prog 7 #[.int .i64 x, .slice A a.length c, .slice B b.length d, .slice C f.length z, .int .u64 k, .int .u64 j] w fun e w' => e = .returned (.bool true) ∧ Below w.heap.size w w' := by
  obtain ⟨k, rfl⟩ := Int.eq_ofNat_of_zero_le hk.1
  obtain ⟨j, rfl⟩ := Int.eq_ofNat_of_zero_le hj.1
  exact transMonoid_any w x A c a hA B d b hB C z f hC k j (Lib.hid (by omega)) (Lib.hid (by omega))
end Go.Proofs.Ytpebnldoimoahaa
