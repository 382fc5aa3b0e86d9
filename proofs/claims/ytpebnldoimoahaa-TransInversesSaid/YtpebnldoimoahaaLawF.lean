/- The walk of the statement TransInverses. Printed by gen_inverses.py. -/
import Derived.Test.YtpebnldoimoahaaInvAll
namespace Go.Proofs.Ytpebnldoimoahaa
open Go.RowKit Go.Proofs.YtpebnldoimoahaaW.PrintWords
set_option linter.unusedSimpArgs false
set_option linter.unusedVariables false
/-- What the walk needs of two permutations, all names opaque. -/
theorem inv_names {n : Nat} {L M : List Nat} (h : Prm n L) (h' : Prm n M) {qs : List Nat} (hq : qs = pks L n) : ∃ (qt qst qis qit qb qo : List Nat) (per : Nat), qt.length = 7 ∧ qst.length = 7 ∧ qis.length = 7 ∧ qit.length = 7 ∧ qb.length = 7 ∧ qo.length = 7 ∧
    (∀ A c w, Kd.C (Kd.int .i64) w A n (zl M) → Calls Try.prog 15 #[.slice A n c] w fun e w' => e = .returned (.tuple #[.agg (tvv n qt), .int .i64 0]) ∧ Below w.heap.size w w') ∧
    (∀ w, Calls Try.prog 25 #[.agg (tvv n qs), .agg (tvv n qt)] w fun e w' => e = .returned (.tuple #[.agg (tvv n qst), .int .i64 0]) ∧ Below w.heap.size w w') ∧
    (∀ w, Calls Try.prog 43 #[.agg (tvv n qs)] w fun e w' => e = .returned (.tuple #[.agg (tvv n qis), .int .i64 0]) ∧ Below w.heap.size w w') ∧
    (∀ w, Calls Try.prog 43 #[.agg (tvv n qt)] w fun e w' => e = .returned (.tuple #[.agg (tvv n qit), .int .i64 0]) ∧ Below w.heap.size w w') ∧
    (∀ w, Calls Try.prog 43 #[.agg (tvv n qst)] w fun e w' => e = .returned (.tuple #[.agg (tvv n qb), .int .i64 0]) ∧ Below w.heap.size w w') ∧
    (∀ w, Calls Try.prog 25 #[.agg (tvv n qit), .agg (tvv n qis)] w fun e w' => e = .returned (.tuple #[.agg (tvv n qb), .int .i64 0]) ∧ Below w.heap.size w w') ∧
    (∀ w, Calls Try.prog 43 #[.agg (tvv n qis)] w fun e w' => e = .returned (.tuple #[.agg (tvv n qs), .int .i64 0]) ∧ Below w.heap.size w w') ∧
    (∀ w, Calls Try.prog 25 #[.agg (tvv n qs), .agg (tvv n qis)] w fun e w' => e = .returned (.tuple #[.agg (tvv n qo), .int .i64 0]) ∧ Below w.heap.size w w') ∧
    (∀ w, Calls Try.prog 26 #[.int .i64 n] w fun e w' => e = .returned (.tuple #[.agg (tvv n qo), .int .i64 0]) ∧ Below w.heap.size w w') ∧
    (∀ w, Calls Try.prog 23 #[.agg (tvv n qs)] w fun e w' => e = .returned (.tuple #[.int .i64 0, .int .i64 per, .int .i64 0]) ∧ Below w.heap.size w w') := by
  subst hq
  have V3 := inverse_g (h.thn h')
  rw [h.both h'] at V3
  have V4 := inverse_g h.inv
  rw [h.twice] at V4
  have C3 := compose_g h.toGd h.inv.toGd
  rw [h.unit] at C3
  have Y1 := cycle_g h.toGd
  rw [h.index] at Y1
  exact ⟨pks M n, pks (thn L M) n, pks (inv n L) n, pks (inv n M) n, pks (thn (inv n M) (inv n L)) n, pks (List.range n) n, (cyc L n n).2, pks_len _ _, pks_len _ _, pks_len _ _, pks_len _ _, pks_len _ _, pks_len _ _,
    fun A c w hr => make_g h'.toGd A c w hr, compose_g h.toGd h'.toGd, inverse_g h, inverse_g h', V3, compose_g h'.inv.toGd h.inv.toGd, V4, C3, identity_g h.one h.max, Y1⟩
set_option maxRecDepth 100000 in
set_option maxHeartbeats 30000000 in
theorem transInverses_any (w : World) (x : Int) (A : Option Addr) (c : Nat) (a : List Int) (hA : Kd.C (Kd.int .i64) w A a.length a) (B : Option Addr) (d : Nat) (b : List Int) (hB : Kd.C (Kd.int .i64) w B b.length b) :
    Calls Try.prog 12 #[.int .i64 x, .slice A a.length c, .slice B b.length d] w fun e w' => e = .returned (.bool true) ∧ Below w.heap.size w w' := by
  have HA := Aside0.mk hA; have HB := Aside0.mk hB; clear hA hB
  obtain ⟨hn1, hn⟩ := nN_in x
  obtain ⟨hx1, hx2⟩ := nN_walk x
  generalize nN x = n at *
  have D1 := Aside0.mk (shuffled_any n hn1 hn A c a); have D2 := Aside0.mk (shuffled_any n hn1 hn B d b)
  go_enter Try.func12, Try.ntmps12
  have H0 := Lib.hid (Hp.start w)
  go_wp2_with fail
  refine (D1.out _ (Kd.C_below HA.out H0.out.2)).mono ?_
  rintro e w1 ⟨v, L, rfl, hP, ho, hb⟩
  have H1 := Lib.hid (H0.out.keep hb)
  obtain ⟨X0, xc0, rfl, _, hX⟩ := own_slice n hP.len ho
  have HX0 := Aside0.mk hX
  have HP0 := Lib.hid hP
  obtain ⟨qs, hqs⟩ : ∃ q, q = pks L n := ⟨_, rfl⟩
  have M1 := make_g hP.toGd
  rw [← hqs] at M1
  replace M1 := Aside0.mk M1
  have lqs := Lib.hid (show qs.length = 7 by rw [hqs]; exact pks_len _ _)
  have HQS := Lib.hid hqs
  clear hb H0 ho hX hP hqs
  go_wp2_with fail
  refine (M1.out X0 xc0 _ HX0.out).mono ?_
  rintro e w2 ⟨rfl, hb⟩
  have H2 := Lib.hid (H1.out.keep hb)
  clear hb H1 HX0
  go_wp2_with (first | (refine st2 _ _ rfl rfl rfl rfl lqs.out rfl ?_) | (refine ld2 _ rfl w2.heap.size rfl lqs.out ((H2.out.alloc _).at 0 rfl) rfl ?_))
  refine (D2.out _ (Kd.C_below HB.out (H2.out.alloc _).2)).mono ?_
  rintro e w3 ⟨v, M, rfl, hP, ho, hb⟩
  have H3 := Lib.hid ((H2.out.alloc _).keep hb)
  obtain ⟨X1, xc1, rfl, _, hX⟩ := own_slice n hP.len ho
  have HX1 := Aside0.mk hX
  obtain ⟨qt, qst, qis, qit, qb, qo, per, l1, l2, l3, l4, l5, l6, M2, C1, V1, V2, V3, C2, V4, C3, I1, Y1⟩ := inv_names HP0.out hP HQS.out
  replace M2 := Aside0.mk M2; replace C1 := Aside0.mk C1; replace V1 := Aside0.mk V1; replace V2 := Aside0.mk V2; replace V3 := Aside0.mk V3; replace C2 := Aside0.mk C2; replace V4 := Aside0.mk V4; replace C3 := Aside0.mk C3; replace I1 := Aside0.mk I1; replace Y1 := Aside0.mk Y1
  have lqt := Lib.hid l1; have lqst := Lib.hid l2; have lqis := Lib.hid l3; have lqit := Lib.hid l4; have lqb := Lib.hid l5; have lqo := Lib.hid l6
  clear hb H2 ho hX hP HP0 HQS l1 l2 l3 l4 l5 l6 M1 D1 D2 hx1 hx2
  go_wp2_with (first | (refine ld2 _ rfl (w2.heap.size) rfl lqs.out (H3.out.at 0 rfl) rfl ?_))
  refine (M2.out X1 xc1 _ HX1.out).mono ?_
  rintro e w4 ⟨rfl, hb⟩
  have H4 := Lib.hid (H3.out.keep hb)
  clear hb H3 HX1
  go_wp2_with (first | (refine st2 _ _ rfl rfl rfl rfl lqt.out rfl ?_) | (refine ld2 _ rfl w4.heap.size rfl lqt.out ((H4.out.alloc _).at 0 rfl) rfl ?_) | (refine ld2 _ rfl (w2.heap.size) rfl lqs.out ((H4.out.alloc _).at 1 rfl) rfl ?_))
  refine (C1.out _).mono ?_
  rintro e w5 ⟨rfl, hb⟩
  have H5 := Lib.hid ((H4.out.alloc _).keep hb)
  clear hb H4
  go_wp2_with (first | (refine st2 _ _ rfl rfl rfl rfl lqst.out rfl ?_) | (refine ld2 _ rfl w5.heap.size rfl lqst.out ((H5.out.alloc _).at 0 rfl) rfl ?_) | (refine ld2 _ rfl (w4.heap.size) rfl lqt.out ((H5.out.alloc _).at 1 rfl) rfl ?_) | (refine ld2 _ rfl (w2.heap.size) rfl lqs.out ((H5.out.alloc _).at 2 rfl) rfl ?_))
  refine (V1.out _).mono ?_
  rintro e w6 ⟨rfl, hb⟩
  have H6 := Lib.hid ((H5.out.alloc _).keep hb)
  clear hb H5
  go_wp2_with (first | (refine st2 _ _ rfl rfl rfl rfl lqis.out rfl ?_) | (refine ld2 _ rfl w6.heap.size rfl lqis.out ((H6.out.alloc _).at 0 rfl) rfl ?_) | (refine ld2 _ rfl (w5.heap.size) rfl lqst.out ((H6.out.alloc _).at 1 rfl) rfl ?_) | (refine ld2 _ rfl (w4.heap.size) rfl lqt.out ((H6.out.alloc _).at 2 rfl) rfl ?_) | (refine ld2 _ rfl (w2.heap.size) rfl lqs.out ((H6.out.alloc _).at 3 rfl) rfl ?_))
  refine (V2.out _).mono ?_
  rintro e w7 ⟨rfl, hb⟩
  have H7 := Lib.hid ((H6.out.alloc _).keep hb)
  clear hb H6
  go_wp2_with (first | (refine st2 _ _ rfl rfl rfl rfl lqit.out rfl ?_) | (refine ld2 _ rfl w7.heap.size rfl lqit.out ((H7.out.alloc _).at 0 rfl) rfl ?_) | (refine ld2 _ rfl (w6.heap.size) rfl lqis.out ((H7.out.alloc _).at 1 rfl) rfl ?_) | (refine ld2 _ rfl (w5.heap.size) rfl lqst.out ((H7.out.alloc _).at 2 rfl) rfl ?_) | (refine ld2 _ rfl (w4.heap.size) rfl lqt.out ((H7.out.alloc _).at 3 rfl) rfl ?_) | (refine ld2 _ rfl (w2.heap.size) rfl lqs.out ((H7.out.alloc _).at 4 rfl) rfl ?_))
  refine (V3.out _).mono ?_
  rintro e w8 ⟨rfl, hb⟩
  have H8 := Lib.hid ((H7.out.alloc _).keep hb)
  clear hb H7
  go_wp2_with (first | (refine st2 _ _ rfl rfl rfl rfl lqb.out rfl ?_) | (refine ld2 _ rfl w8.heap.size rfl lqb.out ((H8.out.alloc _).at 0 rfl) rfl ?_) | (refine ld2 _ rfl (w7.heap.size) rfl lqit.out ((H8.out.alloc _).at 1 rfl) rfl ?_) | (refine ld2 _ rfl (w6.heap.size) rfl lqis.out ((H8.out.alloc _).at 2 rfl) rfl ?_) | (refine ld2 _ rfl (w5.heap.size) rfl lqst.out ((H8.out.alloc _).at 3 rfl) rfl ?_) | (refine ld2 _ rfl (w4.heap.size) rfl lqt.out ((H8.out.alloc _).at 4 rfl) rfl ?_) | (refine ld2 _ rfl (w2.heap.size) rfl lqs.out ((H8.out.alloc _).at 5 rfl) rfl ?_))
  refine (C2.out _).mono ?_
  rintro e w9 ⟨rfl, hb⟩
  have H9 := Lib.hid ((H8.out.alloc _).keep hb)
  clear hb H8
  go_wp2_with (first | (refine st2 _ _ rfl rfl rfl rfl lqb.out rfl ?_) | (refine ld2 _ rfl w9.heap.size rfl lqb.out ((H9.out.alloc _).at 0 rfl) rfl ?_) | (refine ld2 _ rfl (w8.heap.size) rfl lqb.out ((H9.out.alloc _).at 1 rfl) rfl ?_) | (refine ld2 _ rfl (w7.heap.size) rfl lqit.out ((H9.out.alloc _).at 2 rfl) rfl ?_) | (refine ld2 _ rfl (w6.heap.size) rfl lqis.out ((H9.out.alloc _).at 3 rfl) rfl ?_) | (refine ld2 _ rfl (w5.heap.size) rfl lqst.out ((H9.out.alloc _).at 4 rfl) rfl ?_) | (refine ld2 _ rfl (w4.heap.size) rfl lqt.out ((H9.out.alloc _).at 5 rfl) rfl ?_) | (refine ld2 _ rfl (w2.heap.size) rfl lqs.out ((H9.out.alloc _).at 6 rfl) rfl ?_))
  refine (V4.out _).mono ?_
  rintro e w10 ⟨rfl, hb⟩
  have H10 := Lib.hid ((H9.out.alloc _).keep hb)
  clear hb H9
  go_wp2_with (first | (refine st2 _ _ rfl rfl rfl rfl lqs.out rfl ?_) | (refine ld2 _ rfl w10.heap.size rfl lqs.out ((H10.out.alloc _).at 0 rfl) rfl ?_) | (refine ld2 _ rfl (w9.heap.size) rfl lqb.out ((H10.out.alloc _).at 1 rfl) rfl ?_) | (refine ld2 _ rfl (w8.heap.size) rfl lqb.out ((H10.out.alloc _).at 2 rfl) rfl ?_) | (refine ld2 _ rfl (w7.heap.size) rfl lqit.out ((H10.out.alloc _).at 3 rfl) rfl ?_) | (refine ld2 _ rfl (w6.heap.size) rfl lqis.out ((H10.out.alloc _).at 4 rfl) rfl ?_) | (refine ld2 _ rfl (w5.heap.size) rfl lqst.out ((H10.out.alloc _).at 5 rfl) rfl ?_) | (refine ld2 _ rfl (w4.heap.size) rfl lqt.out ((H10.out.alloc _).at 6 rfl) rfl ?_) | (refine ld2 _ rfl (w2.heap.size) rfl lqs.out ((H10.out.alloc _).at 7 rfl) rfl ?_))
  refine (C3.out _).mono ?_
  rintro e w11 ⟨rfl, hb⟩
  have H11 := Lib.hid ((H10.out.alloc _).keep hb)
  clear hb H10
  go_wp2_with (first | (refine st2 _ _ rfl rfl rfl rfl lqo.out rfl ?_) | (refine ld2 _ rfl w11.heap.size rfl lqo.out ((H11.out.alloc _).at 0 rfl) rfl ?_) | (refine ld2 _ rfl (w10.heap.size) rfl lqs.out ((H11.out.alloc _).at 1 rfl) rfl ?_) | (refine ld2 _ rfl (w9.heap.size) rfl lqb.out ((H11.out.alloc _).at 2 rfl) rfl ?_) | (refine ld2 _ rfl (w8.heap.size) rfl lqb.out ((H11.out.alloc _).at 3 rfl) rfl ?_) | (refine ld2 _ rfl (w7.heap.size) rfl lqit.out ((H11.out.alloc _).at 4 rfl) rfl ?_) | (refine ld2 _ rfl (w6.heap.size) rfl lqis.out ((H11.out.alloc _).at 5 rfl) rfl ?_) | (refine ld2 _ rfl (w5.heap.size) rfl lqst.out ((H11.out.alloc _).at 6 rfl) rfl ?_) | (refine ld2 _ rfl (w4.heap.size) rfl lqt.out ((H11.out.alloc _).at 7 rfl) rfl ?_) | (refine ld2 _ rfl (w2.heap.size) rfl lqs.out ((H11.out.alloc _).at 8 rfl) rfl ?_))
  refine (I1.out _).mono ?_
  rintro e w12 ⟨rfl, hb⟩
  have H12 := Lib.hid ((H11.out.alloc _).keep hb)
  clear hb H11
  go_wp2_with (first | (refine st2 _ _ rfl rfl rfl rfl lqo.out rfl ?_) | (refine ld2 _ rfl w12.heap.size rfl lqo.out ((H12.out.alloc _).at 0 rfl) rfl ?_) | (refine ld2 _ rfl (w11.heap.size) rfl lqo.out ((H12.out.alloc _).at 1 rfl) rfl ?_) | (refine ld2 _ rfl (w10.heap.size) rfl lqs.out ((H12.out.alloc _).at 2 rfl) rfl ?_) | (refine ld2 _ rfl (w9.heap.size) rfl lqb.out ((H12.out.alloc _).at 3 rfl) rfl ?_) | (refine ld2 _ rfl (w8.heap.size) rfl lqb.out ((H12.out.alloc _).at 4 rfl) rfl ?_) | (refine ld2 _ rfl (w7.heap.size) rfl lqit.out ((H12.out.alloc _).at 5 rfl) rfl ?_) | (refine ld2 _ rfl (w6.heap.size) rfl lqis.out ((H12.out.alloc _).at 6 rfl) rfl ?_) | (refine ld2 _ rfl (w5.heap.size) rfl lqst.out ((H12.out.alloc _).at 7 rfl) rfl ?_) | (refine ld2 _ rfl (w4.heap.size) rfl lqt.out ((H12.out.alloc _).at 8 rfl) rfl ?_) | (refine ld2 _ rfl (w2.heap.size) rfl lqs.out ((H12.out.alloc _).at 9 rfl) rfl ?_))
  refine (Y1.out _).mono ?_
  rintro e w13 ⟨rfl, hb⟩
  have H13 := Lib.hid ((H12.out.alloc _).keep hb)
  clear hb H12
  go_wp2_with (first | (refine ld2 _ rfl (w12.heap.size) rfl lqo.out (H13.out.at 0 rfl) rfl ?_) | (refine ld2 _ rfl (w11.heap.size) rfl lqo.out (H13.out.at 1 rfl) rfl ?_) | (refine ld2 _ rfl (w10.heap.size) rfl lqs.out (H13.out.at 2 rfl) rfl ?_) | (refine ld2 _ rfl (w9.heap.size) rfl lqb.out (H13.out.at 3 rfl) rfl ?_) | (refine ld2 _ rfl (w8.heap.size) rfl lqb.out (H13.out.at 4 rfl) rfl ?_) | (refine ld2 _ rfl (w7.heap.size) rfl lqit.out (H13.out.at 5 rfl) rfl ?_) | (refine ld2 _ rfl (w6.heap.size) rfl lqis.out (H13.out.at 6 rfl) rfl ?_) | (refine ld2 _ rfl (w5.heap.size) rfl lqst.out (H13.out.at 7 rfl) rfl ?_) | (refine ld2 _ rfl (w4.heap.size) rfl lqt.out (H13.out.at 8 rfl) rfl ?_) | (refine ld2 _ rfl (w2.heap.size) rfl lqs.out (H13.out.at 9 rfl) rfl ?_) | (refine eq2 _ _ _ rfl true (sameT_dec _ qb) rfl rfl lqb.out lqb.out rfl ?_) | (refine eq2 _ _ _ rfl true (sameT_dec _ qs) rfl rfl lqs.out lqs.out rfl ?_) | (refine eq2 _ _ _ rfl true (sameT_dec _ qo) rfl rfl lqo.out lqo.out rfl ?_))
  refine (num_any 0 _).mono ?_
  rintro e w' ⟨rfl, rfl⟩
  go_wp2_with (first | (refine ld2 _ rfl (w12.heap.size) rfl lqo.out (H13.out.at 0 rfl) rfl ?_) | (refine ld2 _ rfl (w11.heap.size) rfl lqo.out (H13.out.at 1 rfl) rfl ?_) | (refine ld2 _ rfl (w10.heap.size) rfl lqs.out (H13.out.at 2 rfl) rfl ?_) | (refine ld2 _ rfl (w9.heap.size) rfl lqb.out (H13.out.at 3 rfl) rfl ?_) | (refine ld2 _ rfl (w8.heap.size) rfl lqb.out (H13.out.at 4 rfl) rfl ?_) | (refine ld2 _ rfl (w7.heap.size) rfl lqit.out (H13.out.at 5 rfl) rfl ?_) | (refine ld2 _ rfl (w6.heap.size) rfl lqis.out (H13.out.at 6 rfl) rfl ?_) | (refine ld2 _ rfl (w5.heap.size) rfl lqst.out (H13.out.at 7 rfl) rfl ?_) | (refine ld2 _ rfl (w4.heap.size) rfl lqt.out (H13.out.at 8 rfl) rfl ?_) | (refine ld2 _ rfl (w2.heap.size) rfl lqs.out (H13.out.at 9 rfl) rfl ?_) | (refine eq2 _ _ _ rfl true (sameT_dec _ qb) rfl rfl lqb.out lqb.out rfl ?_) | (refine eq2 _ _ _ rfl true (sameT_dec _ qs) rfl rfl lqs.out lqs.out rfl ?_) | (refine eq2 _ _ _ rfl true (sameT_dec _ qo) rfl rfl lqo.out lqo.out rfl ?_))
  refine (num_any 0 _).mono ?_
  rintro e w' ⟨rfl, rfl⟩
  go_wp2_with (first | (refine ld2 _ rfl (w12.heap.size) rfl lqo.out (H13.out.at 0 rfl) rfl ?_) | (refine ld2 _ rfl (w11.heap.size) rfl lqo.out (H13.out.at 1 rfl) rfl ?_) | (refine ld2 _ rfl (w10.heap.size) rfl lqs.out (H13.out.at 2 rfl) rfl ?_) | (refine ld2 _ rfl (w9.heap.size) rfl lqb.out (H13.out.at 3 rfl) rfl ?_) | (refine ld2 _ rfl (w8.heap.size) rfl lqb.out (H13.out.at 4 rfl) rfl ?_) | (refine ld2 _ rfl (w7.heap.size) rfl lqit.out (H13.out.at 5 rfl) rfl ?_) | (refine ld2 _ rfl (w6.heap.size) rfl lqis.out (H13.out.at 6 rfl) rfl ?_) | (refine ld2 _ rfl (w5.heap.size) rfl lqst.out (H13.out.at 7 rfl) rfl ?_) | (refine ld2 _ rfl (w4.heap.size) rfl lqt.out (H13.out.at 8 rfl) rfl ?_) | (refine ld2 _ rfl (w2.heap.size) rfl lqs.out (H13.out.at 9 rfl) rfl ?_) | (refine eq2 _ _ _ rfl true (sameT_dec _ qb) rfl rfl lqb.out lqb.out rfl ?_) | (refine eq2 _ _ _ rfl true (sameT_dec _ qs) rfl rfl lqs.out lqs.out rfl ?_) | (refine eq2 _ _ _ rfl true (sameT_dec _ qo) rfl rfl lqo.out lqo.out rfl ?_))
  refine (num_any 0 _).mono ?_
  rintro e w' ⟨rfl, rfl⟩
  go_wp2_with (first | (refine ld2 _ rfl (w12.heap.size) rfl lqo.out (H13.out.at 0 rfl) rfl ?_) | (refine ld2 _ rfl (w11.heap.size) rfl lqo.out (H13.out.at 1 rfl) rfl ?_) | (refine ld2 _ rfl (w10.heap.size) rfl lqs.out (H13.out.at 2 rfl) rfl ?_) | (refine ld2 _ rfl (w9.heap.size) rfl lqb.out (H13.out.at 3 rfl) rfl ?_) | (refine ld2 _ rfl (w8.heap.size) rfl lqb.out (H13.out.at 4 rfl) rfl ?_) | (refine ld2 _ rfl (w7.heap.size) rfl lqit.out (H13.out.at 5 rfl) rfl ?_) | (refine ld2 _ rfl (w6.heap.size) rfl lqis.out (H13.out.at 6 rfl) rfl ?_) | (refine ld2 _ rfl (w5.heap.size) rfl lqst.out (H13.out.at 7 rfl) rfl ?_) | (refine ld2 _ rfl (w4.heap.size) rfl lqt.out (H13.out.at 8 rfl) rfl ?_) | (refine ld2 _ rfl (w2.heap.size) rfl lqs.out (H13.out.at 9 rfl) rfl ?_) | (refine eq2 _ _ _ rfl true (sameT_dec _ qb) rfl rfl lqb.out lqb.out rfl ?_) | (refine eq2 _ _ _ rfl true (sameT_dec _ qs) rfl rfl lqs.out lqs.out rfl ?_) | (refine eq2 _ _ _ rfl true (sameT_dec _ qo) rfl rfl lqo.out lqo.out rfl ?_))
  refine (num_any 0 _).mono ?_
  rintro e w' ⟨rfl, rfl⟩
  go_wp2_with (first | (refine ld2 _ rfl (w12.heap.size) rfl lqo.out (H13.out.at 0 rfl) rfl ?_) | (refine ld2 _ rfl (w11.heap.size) rfl lqo.out (H13.out.at 1 rfl) rfl ?_) | (refine ld2 _ rfl (w10.heap.size) rfl lqs.out (H13.out.at 2 rfl) rfl ?_) | (refine ld2 _ rfl (w9.heap.size) rfl lqb.out (H13.out.at 3 rfl) rfl ?_) | (refine ld2 _ rfl (w8.heap.size) rfl lqb.out (H13.out.at 4 rfl) rfl ?_) | (refine ld2 _ rfl (w7.heap.size) rfl lqit.out (H13.out.at 5 rfl) rfl ?_) | (refine ld2 _ rfl (w6.heap.size) rfl lqis.out (H13.out.at 6 rfl) rfl ?_) | (refine ld2 _ rfl (w5.heap.size) rfl lqst.out (H13.out.at 7 rfl) rfl ?_) | (refine ld2 _ rfl (w4.heap.size) rfl lqt.out (H13.out.at 8 rfl) rfl ?_) | (refine ld2 _ rfl (w2.heap.size) rfl lqs.out (H13.out.at 9 rfl) rfl ?_) | (refine eq2 _ _ _ rfl true (sameT_dec _ qb) rfl rfl lqb.out lqb.out rfl ?_) | (refine eq2 _ _ _ rfl true (sameT_dec _ qs) rfl rfl lqs.out lqs.out rfl ?_) | (refine eq2 _ _ _ rfl true (sameT_dec _ qo) rfl rfl lqo.out lqo.out rfl ?_))
  refine (num_any 0 _).mono ?_
  rintro e w' ⟨rfl, rfl⟩
  go_wp2_with (first | (refine ld2 _ rfl (w12.heap.size) rfl lqo.out (H13.out.at 0 rfl) rfl ?_) | (refine ld2 _ rfl (w11.heap.size) rfl lqo.out (H13.out.at 1 rfl) rfl ?_) | (refine ld2 _ rfl (w10.heap.size) rfl lqs.out (H13.out.at 2 rfl) rfl ?_) | (refine ld2 _ rfl (w9.heap.size) rfl lqb.out (H13.out.at 3 rfl) rfl ?_) | (refine ld2 _ rfl (w8.heap.size) rfl lqb.out (H13.out.at 4 rfl) rfl ?_) | (refine ld2 _ rfl (w7.heap.size) rfl lqit.out (H13.out.at 5 rfl) rfl ?_) | (refine ld2 _ rfl (w6.heap.size) rfl lqis.out (H13.out.at 6 rfl) rfl ?_) | (refine ld2 _ rfl (w5.heap.size) rfl lqst.out (H13.out.at 7 rfl) rfl ?_) | (refine ld2 _ rfl (w4.heap.size) rfl lqt.out (H13.out.at 8 rfl) rfl ?_) | (refine ld2 _ rfl (w2.heap.size) rfl lqs.out (H13.out.at 9 rfl) rfl ?_) | (refine eq2 _ _ _ rfl true (sameT_dec _ qb) rfl rfl lqb.out lqb.out rfl ?_) | (refine eq2 _ _ _ rfl true (sameT_dec _ qs) rfl rfl lqs.out lqs.out rfl ?_) | (refine eq2 _ _ _ rfl true (sameT_dec _ qo) rfl rfl lqo.out lqo.out rfl ?_))
  refine (num_any 0 _).mono ?_
  rintro e w' ⟨rfl, rfl⟩
  go_wp2_with (first | (refine ld2 _ rfl (w12.heap.size) rfl lqo.out (H13.out.at 0 rfl) rfl ?_) | (refine ld2 _ rfl (w11.heap.size) rfl lqo.out (H13.out.at 1 rfl) rfl ?_) | (refine ld2 _ rfl (w10.heap.size) rfl lqs.out (H13.out.at 2 rfl) rfl ?_) | (refine ld2 _ rfl (w9.heap.size) rfl lqb.out (H13.out.at 3 rfl) rfl ?_) | (refine ld2 _ rfl (w8.heap.size) rfl lqb.out (H13.out.at 4 rfl) rfl ?_) | (refine ld2 _ rfl (w7.heap.size) rfl lqit.out (H13.out.at 5 rfl) rfl ?_) | (refine ld2 _ rfl (w6.heap.size) rfl lqis.out (H13.out.at 6 rfl) rfl ?_) | (refine ld2 _ rfl (w5.heap.size) rfl lqst.out (H13.out.at 7 rfl) rfl ?_) | (refine ld2 _ rfl (w4.heap.size) rfl lqt.out (H13.out.at 8 rfl) rfl ?_) | (refine ld2 _ rfl (w2.heap.size) rfl lqs.out (H13.out.at 9 rfl) rfl ?_) | (refine eq2 _ _ _ rfl true (sameT_dec _ qb) rfl rfl lqb.out lqb.out rfl ?_) | (refine eq2 _ _ _ rfl true (sameT_dec _ qs) rfl rfl lqs.out lqs.out rfl ?_) | (refine eq2 _ _ _ rfl true (sameT_dec _ qo) rfl rfl lqo.out lqo.out rfl ?_))
  refine (num_any 0 _).mono ?_
  rintro e w' ⟨rfl, rfl⟩
  go_wp2_with (first | (refine ld2 _ rfl (w12.heap.size) rfl lqo.out (H13.out.at 0 rfl) rfl ?_) | (refine ld2 _ rfl (w11.heap.size) rfl lqo.out (H13.out.at 1 rfl) rfl ?_) | (refine ld2 _ rfl (w10.heap.size) rfl lqs.out (H13.out.at 2 rfl) rfl ?_) | (refine ld2 _ rfl (w9.heap.size) rfl lqb.out (H13.out.at 3 rfl) rfl ?_) | (refine ld2 _ rfl (w8.heap.size) rfl lqb.out (H13.out.at 4 rfl) rfl ?_) | (refine ld2 _ rfl (w7.heap.size) rfl lqit.out (H13.out.at 5 rfl) rfl ?_) | (refine ld2 _ rfl (w6.heap.size) rfl lqis.out (H13.out.at 6 rfl) rfl ?_) | (refine ld2 _ rfl (w5.heap.size) rfl lqst.out (H13.out.at 7 rfl) rfl ?_) | (refine ld2 _ rfl (w4.heap.size) rfl lqt.out (H13.out.at 8 rfl) rfl ?_) | (refine ld2 _ rfl (w2.heap.size) rfl lqs.out (H13.out.at 9 rfl) rfl ?_) | (refine eq2 _ _ _ rfl true (sameT_dec _ qb) rfl rfl lqb.out lqb.out rfl ?_) | (refine eq2 _ _ _ rfl true (sameT_dec _ qs) rfl rfl lqs.out lqs.out rfl ?_) | (refine eq2 _ _ _ rfl true (sameT_dec _ qo) rfl rfl lqo.out lqo.out rfl ?_))
  refine (num_any 0 _).mono ?_
  rintro e w' ⟨rfl, rfl⟩
  go_wp2_with (first | (refine ld2 _ rfl (w12.heap.size) rfl lqo.out (H13.out.at 0 rfl) rfl ?_) | (refine ld2 _ rfl (w11.heap.size) rfl lqo.out (H13.out.at 1 rfl) rfl ?_) | (refine ld2 _ rfl (w10.heap.size) rfl lqs.out (H13.out.at 2 rfl) rfl ?_) | (refine ld2 _ rfl (w9.heap.size) rfl lqb.out (H13.out.at 3 rfl) rfl ?_) | (refine ld2 _ rfl (w8.heap.size) rfl lqb.out (H13.out.at 4 rfl) rfl ?_) | (refine ld2 _ rfl (w7.heap.size) rfl lqit.out (H13.out.at 5 rfl) rfl ?_) | (refine ld2 _ rfl (w6.heap.size) rfl lqis.out (H13.out.at 6 rfl) rfl ?_) | (refine ld2 _ rfl (w5.heap.size) rfl lqst.out (H13.out.at 7 rfl) rfl ?_) | (refine ld2 _ rfl (w4.heap.size) rfl lqt.out (H13.out.at 8 rfl) rfl ?_) | (refine ld2 _ rfl (w2.heap.size) rfl lqs.out (H13.out.at 9 rfl) rfl ?_) | (refine eq2 _ _ _ rfl true (sameT_dec _ qb) rfl rfl lqb.out lqb.out rfl ?_) | (refine eq2 _ _ _ rfl true (sameT_dec _ qs) rfl rfl lqs.out lqs.out rfl ?_) | (refine eq2 _ _ _ rfl true (sameT_dec _ qo) rfl rfl lqo.out lqo.out rfl ?_))
  refine (num_any 0 _).mono ?_
  rintro e w' ⟨rfl, rfl⟩
  go_wp2_with (first | (refine ld2 _ rfl (w12.heap.size) rfl lqo.out (H13.out.at 0 rfl) rfl ?_) | (refine ld2 _ rfl (w11.heap.size) rfl lqo.out (H13.out.at 1 rfl) rfl ?_) | (refine ld2 _ rfl (w10.heap.size) rfl lqs.out (H13.out.at 2 rfl) rfl ?_) | (refine ld2 _ rfl (w9.heap.size) rfl lqb.out (H13.out.at 3 rfl) rfl ?_) | (refine ld2 _ rfl (w8.heap.size) rfl lqb.out (H13.out.at 4 rfl) rfl ?_) | (refine ld2 _ rfl (w7.heap.size) rfl lqit.out (H13.out.at 5 rfl) rfl ?_) | (refine ld2 _ rfl (w6.heap.size) rfl lqis.out (H13.out.at 6 rfl) rfl ?_) | (refine ld2 _ rfl (w5.heap.size) rfl lqst.out (H13.out.at 7 rfl) rfl ?_) | (refine ld2 _ rfl (w4.heap.size) rfl lqt.out (H13.out.at 8 rfl) rfl ?_) | (refine ld2 _ rfl (w2.heap.size) rfl lqs.out (H13.out.at 9 rfl) rfl ?_) | (refine eq2 _ _ _ rfl true (sameT_dec _ qb) rfl rfl lqb.out lqb.out rfl ?_) | (refine eq2 _ _ _ rfl true (sameT_dec _ qs) rfl rfl lqs.out lqs.out rfl ?_) | (refine eq2 _ _ _ rfl true (sameT_dec _ qo) rfl rfl lqo.out lqo.out rfl ?_))
  refine (num_any 0 _).mono ?_
  rintro e w' ⟨rfl, rfl⟩
  go_wp2_with (first | (refine ld2 _ rfl (w12.heap.size) rfl lqo.out (H13.out.at 0 rfl) rfl ?_) | (refine ld2 _ rfl (w11.heap.size) rfl lqo.out (H13.out.at 1 rfl) rfl ?_) | (refine ld2 _ rfl (w10.heap.size) rfl lqs.out (H13.out.at 2 rfl) rfl ?_) | (refine ld2 _ rfl (w9.heap.size) rfl lqb.out (H13.out.at 3 rfl) rfl ?_) | (refine ld2 _ rfl (w8.heap.size) rfl lqb.out (H13.out.at 4 rfl) rfl ?_) | (refine ld2 _ rfl (w7.heap.size) rfl lqit.out (H13.out.at 5 rfl) rfl ?_) | (refine ld2 _ rfl (w6.heap.size) rfl lqis.out (H13.out.at 6 rfl) rfl ?_) | (refine ld2 _ rfl (w5.heap.size) rfl lqst.out (H13.out.at 7 rfl) rfl ?_) | (refine ld2 _ rfl (w4.heap.size) rfl lqt.out (H13.out.at 8 rfl) rfl ?_) | (refine ld2 _ rfl (w2.heap.size) rfl lqs.out (H13.out.at 9 rfl) rfl ?_) | (refine eq2 _ _ _ rfl true (sameT_dec _ qb) rfl rfl lqb.out lqb.out rfl ?_) | (refine eq2 _ _ _ rfl true (sameT_dec _ qs) rfl rfl lqs.out lqs.out rfl ?_) | (refine eq2 _ _ _ rfl true (sameT_dec _ qo) rfl rfl lqo.out lqo.out rfl ?_))
  refine (num_any 0 _).mono ?_
  rintro e w' ⟨rfl, rfl⟩
  go_wp2_with (first | (refine ld2 _ rfl (w12.heap.size) rfl lqo.out (H13.out.at 0 rfl) rfl ?_) | (refine ld2 _ rfl (w11.heap.size) rfl lqo.out (H13.out.at 1 rfl) rfl ?_) | (refine ld2 _ rfl (w10.heap.size) rfl lqs.out (H13.out.at 2 rfl) rfl ?_) | (refine ld2 _ rfl (w9.heap.size) rfl lqb.out (H13.out.at 3 rfl) rfl ?_) | (refine ld2 _ rfl (w8.heap.size) rfl lqb.out (H13.out.at 4 rfl) rfl ?_) | (refine ld2 _ rfl (w7.heap.size) rfl lqit.out (H13.out.at 5 rfl) rfl ?_) | (refine ld2 _ rfl (w6.heap.size) rfl lqis.out (H13.out.at 6 rfl) rfl ?_) | (refine ld2 _ rfl (w5.heap.size) rfl lqst.out (H13.out.at 7 rfl) rfl ?_) | (refine ld2 _ rfl (w4.heap.size) rfl lqt.out (H13.out.at 8 rfl) rfl ?_) | (refine ld2 _ rfl (w2.heap.size) rfl lqs.out (H13.out.at 9 rfl) rfl ?_) | (refine eq2 _ _ _ rfl true (sameT_dec _ qb) rfl rfl lqb.out lqb.out rfl ?_) | (refine eq2 _ _ _ rfl true (sameT_dec _ qs) rfl rfl lqs.out lqs.out rfl ?_) | (refine eq2 _ _ _ rfl true (sameT_dec _ qo) rfl rfl lqo.out lqo.out rfl ?_))
  refine (knows_any _).mono ?_
  rintro e w14 ⟨rfl, hb⟩
  have H14 := Lib.hid (H13.out.keep hb)
  clear hb H13
  go_wp2_with (first | (refine ld2 _ rfl (w12.heap.size) rfl lqo.out (H14.out.at 0 rfl) rfl ?_) | (refine ld2 _ rfl (w11.heap.size) rfl lqo.out (H14.out.at 1 rfl) rfl ?_) | (refine ld2 _ rfl (w10.heap.size) rfl lqs.out (H14.out.at 2 rfl) rfl ?_) | (refine ld2 _ rfl (w9.heap.size) rfl lqb.out (H14.out.at 3 rfl) rfl ?_) | (refine ld2 _ rfl (w8.heap.size) rfl lqb.out (H14.out.at 4 rfl) rfl ?_) | (refine ld2 _ rfl (w7.heap.size) rfl lqit.out (H14.out.at 5 rfl) rfl ?_) | (refine ld2 _ rfl (w6.heap.size) rfl lqis.out (H14.out.at 6 rfl) rfl ?_) | (refine ld2 _ rfl (w5.heap.size) rfl lqst.out (H14.out.at 7 rfl) rfl ?_) | (refine ld2 _ rfl (w4.heap.size) rfl lqt.out (H14.out.at 8 rfl) rfl ?_) | (refine ld2 _ rfl (w2.heap.size) rfl lqs.out (H14.out.at 9 rfl) rfl ?_) | (refine eq2 _ _ _ rfl true (sameT_dec _ qb) rfl rfl lqb.out lqb.out rfl ?_) | (refine eq2 _ _ _ rfl true (sameT_dec _ qs) rfl rfl lqs.out lqs.out rfl ?_) | (refine eq2 _ _ _ rfl true (sameT_dec _ qo) rfl rfl lqo.out lqo.out rfl ?_))
  go_ret
  exact ⟨rfl, H14.out.2⟩
/-- In the form of the row. -/
theorem transInverses_row (w : World) (x : Int) (_ : -9223372036854775808 ≤ x ∧ x ≤ 9223372036854775807) (A : Option Addr) (c : Nat) (a : List Int) (hA : Kd.C (Kd.int .i64) w A a.length a) (_ : a.length ≤ 17592186043904) (_ : ∀ x ∈ a, -9223372036854775808 ≤ x ∧ x ≤ 9223372036854775807)
    (B : Option Addr) (d : Nat) (b : List Int) (hB : Kd.C (Kd.int .i64) w B b.length b) (_ : b.length ≤ 17592186043904) (_ : ∀ x ∈ b, -9223372036854775808 ≤ x ∧ x ≤ 9223372036854775807) :
    Calls Try.prog 12 #[.int .i64 x, .slice A a.length c, .slice B b.length d] w fun e w' => e = .returned (.bool true) ∧ Below w.heap.size w w' :=
  transInverses_any w x A c a hA B d b hB
end Go.Proofs.Ytpebnldoimoahaa
