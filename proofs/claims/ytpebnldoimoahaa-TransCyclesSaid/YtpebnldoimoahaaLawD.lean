/- The walk of the statement TransCycles. Printed by gen_cycles.py. -/
import Derived.Test.YtpebnldoimoahaaGoodD
namespace Go.Proofs.Ytpebnldoimoahaa
open Go.RowKit Go.Proofs.YtpebnldoimoahaaW.PrintWords
set_option linter.unusedSimpArgs false
set_option linter.unusedVariables false
theorem dec_names (n : Int) (P Q : List Nat) : ∃ b, decide (n = n ∧ P = Q) = b := ⟨_, rfl⟩
/-- What the walk needs of the numbers, all names opaque. -/
theorem cyc_names {n : Nat} {L : List Nat} (h : Gd n L) (less : Int) : ∃ (i p q ip iq : Nat) (qs qx qw qf : List Nat) (b1 b2 : Bool),
    i < n ∧ 1 ≤ p ∧ p < 17179869184 ∧ 0 ≤ q ∧ q < p ∧ ip = i + p ∧ iq = i + (1 + q) ∧ qs.length = 7 ∧ qx.length = 7 ∧ qw.length = 7 ∧ qf.length = 7 ∧ qs = pks L n ∧
    Int.tmod (Int.tmod less p + p) p = (q : Int) ∧ wrap64 (Int.tmod less p + p) = Int.tmod less p + p ∧
    decide ((n : Int) = n ∧ qw = qx) = b1 ∧ ((1 + (q : Int)) == (p : Int)) = b1 ∧ decide ((n : Int) = n ∧ qf = qx) = b2 ∧ ((p : Int) == 1) = b2 ∧
    (∀ w, Calls Try.prog 23 #[.agg (tvv n qs)] w fun e w' => e = .returned (.tuple #[.int .i64 i, .int .i64 p, .int .i64 0]) ∧ Below w.heap.size w w') ∧
    (∀ w, Calls Try.prog 24 #[.agg (tvv n qs), .int .u64 i] w fun e w' => e = .returned (.tuple #[.agg (tvv n qx), .int .i64 0]) ∧ Below w.heap.size w w') ∧
    (∀ w, Calls Try.prog 24 #[.agg (tvv n qs), .int .u64 ip] w fun e w' => e = .returned (.tuple #[.agg (tvv n qx), .int .i64 0]) ∧ Below w.heap.size w w') ∧
    (∀ w, Calls Try.prog 24 #[.agg (tvv n qs), .int .u64 iq] w fun e w' => e = .returned (.tuple #[.agg (tvv n qw), .int .i64 0]) ∧ Below w.heap.size w w') ∧
    (∀ w, Calls Try.prog 25 #[.agg (tvv n qx), .agg (tvv n qs)] w fun e w' => e = .returned (.tuple #[.agg (tvv n qf), .int .i64 0]) ∧ Below w.heap.size w w') ∧
    (0 < i → ∃ (j jp : Nat) (qz qy : List Nat), (j : Int) = (i : Int) - 1 ∧ jp = j + p ∧ qz.length = 7 ∧ qy.length = 7 ∧ decide ((n : Int) = n ∧ qz = qy) = false ∧
      (∀ w, Calls Try.prog 24 #[.agg (tvv n qs), .int .u64 j] w fun e w' => e = .returned (.tuple #[.agg (tvv n qz), .int .i64 0]) ∧ Below w.heap.size w w') ∧
      (∀ w, Calls Try.prog 24 #[.agg (tvv n qs), .int .u64 jp] w fun e w' => e = .returned (.tuple #[.agg (tvv n qy), .int .i64 0]) ∧ Below w.heap.size w w')) := by
  have hi := cyc_index h.lt h.one
  have hp := cyc_small h.lt (Nat.le_refl n) h.max
  have hn := h.max
  have hq := mdN_eq (cyc L n n).2 less hp.1
  have hsame := fun q hq => @pwr_same n L h q hq
  have hless := fun hi q hq => @pwr_less n L h hi q hq
  have hcy := cycle_g h
  generalize (cyc L n n).1 = i at *
  generalize (cyc L n n).2 = p at *
  generalize mdN p less = r at *
  obtain ⟨q1, q2, q3, q4⟩ := hq
  have k1 : p ∣ r + 1 ↔ r + 1 = p := ⟨fun hd => by have := Nat.le_of_dvd (by omega) hd; omega, fun e => by rw [e]; exact Nat.dvd_refl _⟩
  have k2 : p ∣ 1 ↔ p = 1 := Nat.dvd_one
  refine ⟨i, p, r, i + p, i + (1 + r), pks L n, pks (pwr n L i) n, pks (pwr n L (i + (1 + r))) n, pks (thn (pwr n L i) L) n, decide (r + 1 = p), decide (p = 1), hi, hp.1, hp.2, by omega, by omega, rfl, rfl, pks_len _ _, pks_len _ _, pks_len _ _, pks_len _ _, rfl, q1, IntWalk.wrap64_in _ ⟨by omega, by omega⟩, ?_, ?_, ?_, ?_, hcy, ?_, ?_, ?_, ?_, ?_⟩
  · rw [Nat.add_comm 1 r, decide_eq_decide, (h.pwr _).inj (h.pwr _), hsame (r + 1) (by omega), k1]; simp
  · rw [Bool.eq_iff_iff, beq_iff_eq, decide_eq_true_iff]; omega
  · have e : thn (pwr n L i) L = pwr n L (i + 1) := by
      have := thn_pwr h i 1
      rw [pwr_one h] at this
      exact this
    rw [e, decide_eq_decide, (h.pwr _).inj (h.pwr _), hsame 1 (by omega), k2]; simp
  · rw [Bool.eq_iff_iff, beq_iff_eq, decide_eq_true_iff]; omega
  · exact power_g h i (by omega)
  · have := power_g h (i + p) (by omega)
    rw [(hsame p hp.1).2 (Nat.dvd_refl _)] at this
    exact this
  · exact power_g h (i + (1 + r)) (by omega)
  · exact compose_g (h.pwr i) h
  · intro h0
    refine ⟨i - 1, i - 1 + p, pks (pwr n L (i - 1)) n, pks (pwr n L (i - 1 + p)) n, by omega, rfl, pks_len _ _, pks_len _ _, ?_, power_g h (i - 1) (by omega), power_g h (i - 1 + p) (by omega)⟩
    rw [decide_eq_false_iff_not, (h.pwr _).inj (h.pwr _)]
    rintro ⟨_, e⟩
    exact hless h0 p hp.1 e.symm
set_option maxRecDepth 100000 in
set_option maxHeartbeats 30000000 in
theorem transCycles_any (w : World) (x : Int) (A : Option Addr) (c : Nat) (a : List Int) (hA : Kd.C (Kd.int .i64) w A a.length a) (less : Int) :
    Calls Try.prog 4 #[.int .i64 x, .slice A a.length c, .int .i64 less] w fun e w' => e = .returned (.bool true) ∧ Below w.heap.size w w' := by
  have HA := Aside0.mk hA; clear hA
  obtain ⟨hn1, hn⟩ := nN_in x
  obtain ⟨hx1, hx2⟩ := nN_walk x
  generalize nN x = n at *
  have ga := mdL_gd a hn1 hn
  have D1 := Aside0.mk (made_any n hn1 hn A c a)
  generalize mdL n a n = L at *
  have M1 := @make_g n L ga
  have lL := Lib.hid ga.len
  obtain ⟨i, p, q, ip, iq, qs, qx, qw, qf, b1, b2, hi, hp1, hp2, hq1, hq2, hip, hiq, l1, l2, l3, l4, hqs, e1, e2, hb1, e3, hb2, e4, CY, PX, PIP, PIQ, CF, PJ⟩ := cyc_names ga less
  rw [← hqs] at M1
  replace M1 := Aside0.mk M1; replace CY := Aside0.mk CY; replace PX := Aside0.mk PX; replace PIP := Aside0.mk PIP; replace PIQ := Aside0.mk PIQ; replace CF := Aside0.mk CF; replace PJ := Aside0.mk PJ
  have E1 := Lib.hid e1; have E2 := Lib.hid e2; have E3 := Lib.hid e3; have E4 := Lib.hid e4
  clear e1 e2 e3 e4
  have lqs := Lib.hid l1; have lqx := Lib.hid l2; have lqw := Lib.hid l3; have lqf := Lib.hid l4; have HB1 := Lib.hid hb1; have HB2 := Lib.hid hb2
  have E5 : Hid (IntKind.u64.wrap (i : Int) = i) := Lib.hid (IntWalk.u64_in _ ⟨by omega, by omega⟩)
  have E6 : Hid (IntKind.u64.wrap (p : Int) = p) := Lib.hid (IntWalk.u64_in _ ⟨by omega, by omega⟩)
  have E7 : Hid (IntKind.u64.wrap (1 + (q : Int)) = 1 + (q : Int)) := Lib.hid (IntWalk.u64_in _ ⟨by omega, by omega⟩)
  have E8 : Hid (IntKind.u64.wrap ((i : Int) + p) = ip) := Lib.hid (by rw [IntWalk.u64_in _ ⟨by omega, by omega⟩]; omega)
  have E9 : Hid (IntKind.u64.wrap ((i : Int) + (1 + (q : Int))) = iq) := Lib.hid (by rw [IntWalk.u64_in _ ⟨by omega, by omega⟩]; omega)
  have E10 : Hid (((p : Int) == 0) = false) := Lib.hid (by rw [beq_eq_false_iff_ne]; omega)
  have E11 : Hid (wrap64 (1 + (q : Int)) = 1 + (q : Int)) := Lib.hid (IntWalk.wrap64_in (1 + (q : Int)) ⟨by omega, by omega⟩)
  have E12 : Hid (decide ((i : Int) < 0) = false) := Lib.hid (by rw [decide_eq_false_iff_not]; omega)
  have E13 : Hid (decide ((n : Int) ≤ (i : Int)) = false) := Lib.hid (by rw [decide_eq_false_iff_not]; omega)
  have E14 : Hid (decide ((p : Int) < 1) = false) := Lib.hid (by rw [decide_eq_false_iff_not]; omega)
  clear ga hqs l1 l2 l3 l4 hip hiq hb1 hb2
  go_enter Try.func4, Try.ntmps4
  have H0 := Lib.hid (Hp.start w)
  go_wp2_with fail
  refine (D1.out _ (Kd.C_below HA.out H0.out.2)).mono ?_
  rintro e w1 ⟨v, rfl, ho, hb⟩
  have H1 := Lib.hid (H0.out.keep hb)
  obtain ⟨X0, xc0, rfl, _, hX⟩ := own_slice n lL.out ho
  have HX0 := Aside0.mk hX
  clear hb H0 ho hX
  go_wp2_with fail
  refine (M1.out X0 xc0 _ HX0.out).mono ?_
  rintro e w2 ⟨rfl, hb⟩
  have H2 := Lib.hid (H1.out.keep hb)
  clear hb H1 HX0
  clear hx1 hx2
  go_wp2_with (first | (refine st2 _ _ rfl rfl rfl rfl lqs.out rfl ?_) | (refine ld2 _ rfl w2.heap.size rfl lqs.out ((H2.out.alloc _).at 0 rfl) rfl ?_))
  refine (CY.out _).mono ?_
  rintro e w3 ⟨rfl, hb⟩
  have H3 := Lib.hid ((H2.out.alloc _).keep hb)
  clear hb H2
  go_wp2_with (first | (refine ld2 _ rfl (w2.heap.size) rfl lqs.out (H3.out.at 0 rfl) rfl ?_))
  refine (num_any 0 _).mono ?_
  rintro e w' ⟨rfl, rfl⟩
  go_wp2_with (first | (refine ld2 _ rfl (w2.heap.size) rfl lqs.out (H3.out.at 0 rfl) rfl ?_))
  refine (num_any 0 _).mono ?_
  rintro e w' ⟨rfl, rfl⟩
  have e12 := E12.out; have e13 := E13.out; have e14 := E14.out
  go_wp2_with (first | (refine ld2 _ rfl (w2.heap.size) rfl lqs.out (H3.out.at 0 rfl) rfl ?_))
  refine (knows_any _).mono ?_
  rintro e w4 ⟨rfl, hb⟩
  have H4 := Lib.hid (H3.out.keep hb)
  clear hb H3
  clear e12 e13 e14
  have e5 := E5.out
  go_wp2_with (first | (refine ld2 _ rfl (w2.heap.size) rfl lqs.out (H4.out.at 0 rfl) rfl ?_))
  refine (PX.out _).mono ?_
  rintro e w5 ⟨rfl, hb⟩
  have H5 := Lib.hid (H4.out.keep hb)
  clear hb H4
  have e6 := E6.out; have e8 := E8.out
  go_wp2_with (first | (refine st2 _ _ rfl rfl rfl rfl lqx.out rfl ?_) | (refine ld2 _ rfl w5.heap.size rfl lqx.out ((H5.out.alloc _).at 0 rfl) rfl ?_) | (refine ld2 _ rfl (w2.heap.size) rfl lqs.out ((H5.out.alloc _).at 1 rfl) rfl ?_))
  refine (PIP.out _).mono ?_
  rintro e w6 ⟨rfl, hb⟩
  have H6 := Lib.hid ((H5.out.alloc _).keep hb)
  clear hb H5
  clear e5 e6 e8
  go_wp2_with (first | (refine st2 _ _ rfl rfl rfl rfl lqx.out rfl ?_) | (refine ld2 _ rfl w6.heap.size rfl lqx.out ((H6.out.alloc _).at 0 rfl) rfl ?_) | (refine ld2 _ rfl (w5.heap.size) rfl lqx.out ((H6.out.alloc _).at 1 rfl) rfl ?_) | (refine ld2 _ rfl (w2.heap.size) rfl lqs.out ((H6.out.alloc _).at 2 rfl) rfl ?_) | (refine ne2 _ _ _ rfl false (neT_dec _ _) rfl rfl lqx.out lqx.out rfl ?_))
  refine (num_any 0 _).mono ?_
  rintro e w' ⟨rfl, rfl⟩
  go_wp2_with (first | (refine st2 _ _ rfl rfl rfl rfl lqx.out rfl ?_) | (refine ld2 _ rfl w6.heap.size rfl lqx.out ((H6.out.alloc _).at 0 rfl) rfl ?_) | (refine ld2 _ rfl (w5.heap.size) rfl lqx.out ((H6.out.alloc _).at 1 rfl) rfl ?_) | (refine ld2 _ rfl (w2.heap.size) rfl lqs.out ((H6.out.alloc _).at 2 rfl) rfl ?_) | (refine ne2 _ _ _ rfl false (neT_dec _ _) rfl rfl lqx.out lqx.out rfl ?_))
  refine (num_any 0 _).mono ?_
  rintro e w' ⟨rfl, rfl⟩
  have H6a := Lib.hid (H6.out.alloc (TR n qx))
  have HH := H6a
  clear H6 H6a
  by_cases h0 : i = 0
  · have hi0 : ¬ 0 < i := by omega
    clear PJ h0
    have e1 := E1.out; have e2 := E2.out; have e5 := E5.out; have e7 := E7.out; have e9 := E9.out; have e10 := E10.out; have e11 := E11.out
    go_wp2_with (first | (refine ld2 _ rfl (w6.heap.size) rfl lqx.out (HH.out.at 0 rfl) rfl ?_) | (refine ld2 _ rfl (w5.heap.size) rfl lqx.out (HH.out.at 1 rfl) rfl ?_) | (refine ld2 _ rfl (w2.heap.size) rfl lqs.out (HH.out.at 2 rfl) rfl ?_) | (refine ne2 _ _ _ rfl false (neT_dec _ _) rfl rfl lqx.out lqx.out rfl ?_))
    clear e1 e2 e5 e7 e9 e10 e11
    refine (PIQ.out _).mono ?_
    rintro e w7 ⟨rfl, hb⟩
    have H7 := Lib.hid (HH.out.keep hb)
    clear hb HH
    go_wp2_with (first | (refine st2 _ _ rfl rfl rfl rfl lqw.out rfl ?_) | (refine ld2 _ rfl w7.heap.size rfl lqw.out ((H7.out.alloc _).at 0 rfl) rfl ?_) | (refine ld2 _ rfl (w6.heap.size) rfl lqx.out ((H7.out.alloc _).at 1 rfl) rfl ?_) | (refine ld2 _ rfl (w5.heap.size) rfl lqx.out ((H7.out.alloc _).at 2 rfl) rfl ?_) | (refine ld2 _ rfl (w2.heap.size) rfl lqs.out ((H7.out.alloc _).at 3 rfl) rfl ?_))
    refine (CF.out _).mono ?_
    rintro e w8 ⟨rfl, hb⟩
    have H8 := Lib.hid ((H7.out.alloc _).keep hb)
    clear hb H7
    go_wp2_with (first | (refine st2 _ _ rfl rfl rfl rfl lqf.out rfl ?_) | (refine ld2 _ rfl w8.heap.size rfl lqf.out ((H8.out.alloc _).at 0 rfl) rfl ?_) | (refine ld2 _ rfl (w7.heap.size) rfl lqw.out ((H8.out.alloc _).at 1 rfl) rfl ?_) | (refine ld2 _ rfl (w6.heap.size) rfl lqx.out ((H8.out.alloc _).at 2 rfl) rfl ?_) | (refine ld2 _ rfl (w5.heap.size) rfl lqx.out ((H8.out.alloc _).at 3 rfl) rfl ?_) | (refine ld2 _ rfl (w2.heap.size) rfl lqs.out ((H8.out.alloc _).at 4 rfl) rfl ?_) | (refine eq2 _ _ _ rfl b1 (show decide ((n : Int) = n ∧ qw = qx) = b1 by simpa using HB1.out) rfl rfl lqw.out lqx.out rfl ?_) | (refine eq2 _ _ _ rfl b2 (show decide ((n : Int) = n ∧ qf = qx) = b2 by simpa using HB2.out) rfl rfl lqf.out lqx.out rfl ?_))
    refine (num_any 0 _).mono ?_
    rintro e w' ⟨rfl, rfl⟩
    go_wp2_with (first | (refine st2 _ _ rfl rfl rfl rfl lqf.out rfl ?_) | (refine ld2 _ rfl w8.heap.size rfl lqf.out ((H8.out.alloc _).at 0 rfl) rfl ?_) | (refine ld2 _ rfl (w7.heap.size) rfl lqw.out ((H8.out.alloc _).at 1 rfl) rfl ?_) | (refine ld2 _ rfl (w6.heap.size) rfl lqx.out ((H8.out.alloc _).at 2 rfl) rfl ?_) | (refine ld2 _ rfl (w5.heap.size) rfl lqx.out ((H8.out.alloc _).at 3 rfl) rfl ?_) | (refine ld2 _ rfl (w2.heap.size) rfl lqs.out ((H8.out.alloc _).at 4 rfl) rfl ?_) | (refine eq2 _ _ _ rfl b1 (show decide ((n : Int) = n ∧ qw = qx) = b1 by simpa using HB1.out) rfl rfl lqw.out lqx.out rfl ?_) | (refine eq2 _ _ _ rfl b2 (show decide ((n : Int) = n ∧ qf = qx) = b2 by simpa using HB2.out) rfl rfl lqf.out lqx.out rfl ?_))
    refine (num_any 0 _).mono ?_
    rintro e w' ⟨rfl, rfl⟩
    have e3 := E3.out; have e4 := E4.out
    go_wp2_with (first | (refine st2 _ _ rfl rfl rfl rfl lqf.out rfl ?_) | (refine ld2 _ rfl w8.heap.size rfl lqf.out ((H8.out.alloc _).at 0 rfl) rfl ?_) | (refine ld2 _ rfl (w7.heap.size) rfl lqw.out ((H8.out.alloc _).at 1 rfl) rfl ?_) | (refine ld2 _ rfl (w6.heap.size) rfl lqx.out ((H8.out.alloc _).at 2 rfl) rfl ?_) | (refine ld2 _ rfl (w5.heap.size) rfl lqx.out ((H8.out.alloc _).at 3 rfl) rfl ?_) | (refine ld2 _ rfl (w2.heap.size) rfl lqs.out ((H8.out.alloc _).at 4 rfl) rfl ?_) | (refine eq2 _ _ _ rfl b1 (show decide ((n : Int) = n ∧ qw = qx) = b1 by simpa using HB1.out) rfl rfl lqw.out lqx.out rfl ?_) | (refine eq2 _ _ _ rfl b2 (show decide ((n : Int) = n ∧ qf = qx) = b2 by simpa using HB2.out) rfl rfl lqf.out lqx.out rfl ?_))
    go_ret
    exact ⟨rfl, (H8.out.alloc _).2⟩
  · have h00 := h0
    obtain ⟨j, jp, qz, qy, hj, hjp, l5, l6, hd, PJ1, PJ2⟩ := PJ.out (by omega)
    have E17 : Hid (IntKind.u64.wrap ((i : Int) - 1 + p) = jp) := Lib.hid (by rw [IntWalk.u64_in _ ⟨by omega, by omega⟩]; omega)
    have e17 := E17.out
    rw [hj] at PJ1
    have hi0 : 0 < i := by omega
    replace PJ1 := Aside0.mk PJ1; replace PJ2 := Aside0.mk PJ2; have lqz := Lib.hid l5; have lqy := Lib.hid l6; have HD := Lib.hid hd
    clear PJ h0 h00 hj hjp l5 l6 hd
    go_wp2_with (first | (refine ld2 _ rfl (w6.heap.size) rfl lqx.out (HH.out.at 0 rfl) rfl ?_) | (refine ld2 _ rfl (w5.heap.size) rfl lqx.out (HH.out.at 1 rfl) rfl ?_) | (refine ld2 _ rfl (w2.heap.size) rfl lqs.out (HH.out.at 2 rfl) rfl ?_) | (refine ne2 _ _ _ rfl false (neT_dec _ _) rfl rfl lqx.out lqx.out rfl ?_))
    refine (PJ1.out _).mono ?_
    rintro e w7 ⟨rfl, hb⟩
    have H7 := Lib.hid (HH.out.keep hb)
    clear hb HH
    have e6 := E6.out
    go_wp2_with (first | (refine st2 _ _ rfl rfl rfl rfl lqz.out rfl ?_) | (refine ld2 _ rfl w7.heap.size rfl lqz.out ((H7.out.alloc _).at 0 rfl) rfl ?_) | (refine ld2 _ rfl (w6.heap.size) rfl lqx.out ((H7.out.alloc _).at 1 rfl) rfl ?_) | (refine ld2 _ rfl (w5.heap.size) rfl lqx.out ((H7.out.alloc _).at 2 rfl) rfl ?_) | (refine ld2 _ rfl (w2.heap.size) rfl lqs.out ((H7.out.alloc _).at 3 rfl) rfl ?_))
    refine (PJ2.out _).mono ?_
    rintro e w8 ⟨rfl, hb⟩
    have H8 := Lib.hid ((H7.out.alloc _).keep hb)
    clear hb H7
    clear e6 e17
    go_wp2_with (first | (refine st2 _ _ rfl rfl rfl rfl lqy.out rfl ?_) | (refine ld2 _ rfl w8.heap.size rfl lqy.out ((H8.out.alloc _).at 0 rfl) rfl ?_) | (refine ld2 _ rfl (w7.heap.size) rfl lqz.out ((H8.out.alloc _).at 1 rfl) rfl ?_) | (refine ld2 _ rfl (w6.heap.size) rfl lqx.out ((H8.out.alloc _).at 2 rfl) rfl ?_) | (refine ld2 _ rfl (w5.heap.size) rfl lqx.out ((H8.out.alloc _).at 3 rfl) rfl ?_) | (refine ld2 _ rfl (w2.heap.size) rfl lqs.out ((H8.out.alloc _).at 4 rfl) rfl ?_) | (refine eq2 _ _ _ rfl false (show decide ((n : Int) = n ∧ qz = qy) = false by simpa using HD.out) rfl rfl lqz.out lqy.out rfl ?_))
    refine (num_any 0 _).mono ?_
    rintro e w' ⟨rfl, rfl⟩
    go_wp2_with (first | (refine st2 _ _ rfl rfl rfl rfl lqy.out rfl ?_) | (refine ld2 _ rfl w8.heap.size rfl lqy.out ((H8.out.alloc _).at 0 rfl) rfl ?_) | (refine ld2 _ rfl (w7.heap.size) rfl lqz.out ((H8.out.alloc _).at 1 rfl) rfl ?_) | (refine ld2 _ rfl (w6.heap.size) rfl lqx.out ((H8.out.alloc _).at 2 rfl) rfl ?_) | (refine ld2 _ rfl (w5.heap.size) rfl lqx.out ((H8.out.alloc _).at 3 rfl) rfl ?_) | (refine ld2 _ rfl (w2.heap.size) rfl lqs.out ((H8.out.alloc _).at 4 rfl) rfl ?_) | (refine eq2 _ _ _ rfl false (show decide ((n : Int) = n ∧ qz = qy) = false by simpa using HD.out) rfl rfl lqz.out lqy.out rfl ?_))
    refine (num_any 0 _).mono ?_
    rintro e w' ⟨rfl, rfl⟩
    have H8a := Lib.hid (H8.out.alloc (TR n qy))
    have HH := H8a
    clear H8 H8a
    have e1 := E1.out; have e2 := E2.out; have e5 := E5.out; have e7 := E7.out; have e9 := E9.out; have e10 := E10.out; have e11 := E11.out
    go_wp2_with (first | (refine ld2 _ rfl (w8.heap.size) rfl lqy.out (HH.out.at 0 rfl) rfl ?_) | (refine ld2 _ rfl (w7.heap.size) rfl lqz.out (HH.out.at 1 rfl) rfl ?_) | (refine ld2 _ rfl (w6.heap.size) rfl lqx.out (HH.out.at 2 rfl) rfl ?_) | (refine ld2 _ rfl (w5.heap.size) rfl lqx.out (HH.out.at 3 rfl) rfl ?_) | (refine ld2 _ rfl (w2.heap.size) rfl lqs.out (HH.out.at 4 rfl) rfl ?_) | (refine eq2 _ _ _ rfl false (show decide ((n : Int) = n ∧ qz = qy) = false by simpa using HD.out) rfl rfl lqz.out lqy.out rfl ?_))
    clear e1 e2 e5 e7 e9 e10 e11
    refine (PIQ.out _).mono ?_
    rintro e w9 ⟨rfl, hb⟩
    have H9 := Lib.hid (HH.out.keep hb)
    clear hb HH
    go_wp2_with (first | (refine st2 _ _ rfl rfl rfl rfl lqw.out rfl ?_) | (refine ld2 _ rfl w9.heap.size rfl lqw.out ((H9.out.alloc _).at 0 rfl) rfl ?_) | (refine ld2 _ rfl (w8.heap.size) rfl lqy.out ((H9.out.alloc _).at 1 rfl) rfl ?_) | (refine ld2 _ rfl (w7.heap.size) rfl lqz.out ((H9.out.alloc _).at 2 rfl) rfl ?_) | (refine ld2 _ rfl (w6.heap.size) rfl lqx.out ((H9.out.alloc _).at 3 rfl) rfl ?_) | (refine ld2 _ rfl (w5.heap.size) rfl lqx.out ((H9.out.alloc _).at 4 rfl) rfl ?_) | (refine ld2 _ rfl (w2.heap.size) rfl lqs.out ((H9.out.alloc _).at 5 rfl) rfl ?_))
    refine (CF.out _).mono ?_
    rintro e w10 ⟨rfl, hb⟩
    have H10 := Lib.hid ((H9.out.alloc _).keep hb)
    clear hb H9
    go_wp2_with (first | (refine st2 _ _ rfl rfl rfl rfl lqf.out rfl ?_) | (refine ld2 _ rfl w10.heap.size rfl lqf.out ((H10.out.alloc _).at 0 rfl) rfl ?_) | (refine ld2 _ rfl (w9.heap.size) rfl lqw.out ((H10.out.alloc _).at 1 rfl) rfl ?_) | (refine ld2 _ rfl (w8.heap.size) rfl lqy.out ((H10.out.alloc _).at 2 rfl) rfl ?_) | (refine ld2 _ rfl (w7.heap.size) rfl lqz.out ((H10.out.alloc _).at 3 rfl) rfl ?_) | (refine ld2 _ rfl (w6.heap.size) rfl lqx.out ((H10.out.alloc _).at 4 rfl) rfl ?_) | (refine ld2 _ rfl (w5.heap.size) rfl lqx.out ((H10.out.alloc _).at 5 rfl) rfl ?_) | (refine ld2 _ rfl (w2.heap.size) rfl lqs.out ((H10.out.alloc _).at 6 rfl) rfl ?_) | (refine eq2 _ _ _ rfl b1 (show decide ((n : Int) = n ∧ qw = qx) = b1 by simpa using HB1.out) rfl rfl lqw.out lqx.out rfl ?_) | (refine eq2 _ _ _ rfl b2 (show decide ((n : Int) = n ∧ qf = qx) = b2 by simpa using HB2.out) rfl rfl lqf.out lqx.out rfl ?_))
    refine (num_any 0 _).mono ?_
    rintro e w' ⟨rfl, rfl⟩
    go_wp2_with (first | (refine st2 _ _ rfl rfl rfl rfl lqf.out rfl ?_) | (refine ld2 _ rfl w10.heap.size rfl lqf.out ((H10.out.alloc _).at 0 rfl) rfl ?_) | (refine ld2 _ rfl (w9.heap.size) rfl lqw.out ((H10.out.alloc _).at 1 rfl) rfl ?_) | (refine ld2 _ rfl (w8.heap.size) rfl lqy.out ((H10.out.alloc _).at 2 rfl) rfl ?_) | (refine ld2 _ rfl (w7.heap.size) rfl lqz.out ((H10.out.alloc _).at 3 rfl) rfl ?_) | (refine ld2 _ rfl (w6.heap.size) rfl lqx.out ((H10.out.alloc _).at 4 rfl) rfl ?_) | (refine ld2 _ rfl (w5.heap.size) rfl lqx.out ((H10.out.alloc _).at 5 rfl) rfl ?_) | (refine ld2 _ rfl (w2.heap.size) rfl lqs.out ((H10.out.alloc _).at 6 rfl) rfl ?_) | (refine eq2 _ _ _ rfl b1 (show decide ((n : Int) = n ∧ qw = qx) = b1 by simpa using HB1.out) rfl rfl lqw.out lqx.out rfl ?_) | (refine eq2 _ _ _ rfl b2 (show decide ((n : Int) = n ∧ qf = qx) = b2 by simpa using HB2.out) rfl rfl lqf.out lqx.out rfl ?_))
    refine (num_any 0 _).mono ?_
    rintro e w' ⟨rfl, rfl⟩
    have e3 := E3.out; have e4 := E4.out
    go_wp2_with (first | (refine st2 _ _ rfl rfl rfl rfl lqf.out rfl ?_) | (refine ld2 _ rfl w10.heap.size rfl lqf.out ((H10.out.alloc _).at 0 rfl) rfl ?_) | (refine ld2 _ rfl (w9.heap.size) rfl lqw.out ((H10.out.alloc _).at 1 rfl) rfl ?_) | (refine ld2 _ rfl (w8.heap.size) rfl lqy.out ((H10.out.alloc _).at 2 rfl) rfl ?_) | (refine ld2 _ rfl (w7.heap.size) rfl lqz.out ((H10.out.alloc _).at 3 rfl) rfl ?_) | (refine ld2 _ rfl (w6.heap.size) rfl lqx.out ((H10.out.alloc _).at 4 rfl) rfl ?_) | (refine ld2 _ rfl (w5.heap.size) rfl lqx.out ((H10.out.alloc _).at 5 rfl) rfl ?_) | (refine ld2 _ rfl (w2.heap.size) rfl lqs.out ((H10.out.alloc _).at 6 rfl) rfl ?_) | (refine eq2 _ _ _ rfl b1 (show decide ((n : Int) = n ∧ qw = qx) = b1 by simpa using HB1.out) rfl rfl lqw.out lqx.out rfl ?_) | (refine eq2 _ _ _ rfl b2 (show decide ((n : Int) = n ∧ qf = qx) = b2 by simpa using HB2.out) rfl rfl lqf.out lqx.out rfl ?_))
    go_ret
    exact ⟨rfl, (H10.out.alloc _).2⟩
/-- In the form of the row. -/
theorem transCycles_row (w : World) (x : Int) (_ : -9223372036854775808 ≤ x ∧ x ≤ 9223372036854775807) (A : Option Addr) (c : Nat) (a : List Int) (hA : Kd.C (Kd.int .i64) w A a.length a) (_ : a.length ≤ 17592186043904) (_ : ∀ x ∈ a, -9223372036854775808 ≤ x ∧ x ≤ 9223372036854775807) (less : Int) (_ : -9223372036854775808 ≤ less ∧ less ≤ 9223372036854775807) :
    Calls Try.prog 4 #[.int .i64 x, .slice A a.length c, .int .i64 less] w fun e w' => e = .returned (.bool true) ∧ Below w.heap.size w w' :=
  transCycles_any w x A c a hA less
end Go.Proofs.Ytpebnldoimoahaa
