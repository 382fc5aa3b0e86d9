/- The walk of the statement TransComposes. Printed by gen_composes.py. -/
import Derived.Test.YtpebnldoimoahaaHp
namespace Go.Proofs.Ytpebnldoimoahaa
open Go.RowKit Go.Proofs.YtpebnldoimoahaaW.PrintWords
set_option linter.unusedSimpArgs false
set_option maxRecDepth 100000 in
set_option maxHeartbeats 2000000 in
theorem transComposes_any (n : Int) (m1 : Int) (ws : List Nat) (m2 : Int) (vs : List Nat) (k : Nat) (w : World)
    (hl : ws.length = 7) (hw : Hid (∀ i, ws.getD i 0 < 18446744073709551616)) (kl : vs.length = 7) (kw : Hid (∀ i, vs.getD i 0 < 18446744073709551616)) (hk : Hid (k < 18446744073709551616)) :
    Calls Try.prog 5 #[.int .i64 n, .agg (tvv m1 ws), .agg (tvv m2 vs), .int .u64 k] w fun e w' => e = .returned (.bool true) ∧ Below w.heap.size w w' := by
  have HL := Lib.hid hl; have KL := Lib.hid kl; clear hl kl
  have LI := Lib.hid (idT_len n); have LC := Lib.hid (cmpT_len m1 ws m2 vs); have LP := Lib.hid (powT_len m2 vs k)
  have CI := @identity_any n; have CC := @compose_any m1 ws m2 vs HL.out hw KL.out kw; have CP := @power_any m2 vs k KL.out kw hk
  have RI := @rident_any n; have RC := @rcompose_any m1 ws m2 vs HL.out hw KL.out kw; have RP := @rpower_any m2 vs k KL.out kw hk
  have CI := Aside0.mk CI; have CC := Aside0.mk CC; have CP := Aside0.mk CP; have RI := Aside0.mk RI; have RC := Aside0.mk RC; have RP := Aside0.mk RP
  generalize idT n = iT at *
  generalize cmpT m1 ws m2 vs = cT at *
  generalize powT m2 vs k = pT at *
  go_enter Try.func5, Try.ntmps5
  have H0 := Lib.hid (((Hp.start w).alloc (TR m1 ws)).alloc (TR m2 vs))
  rw [World.size_alloc] at H0
  go_wp2_with (first | (refine ld_trw (w.heap.size + 1) KL.out (H0.out.at 0 rfl) rfl _ rfl rfl ?_) | (refine ld_trw (w.heap.size) HL.out (H0.out.at 1 rfl) rfl _ rfl rfl ?_))
  refine (CI.out _).mono ?_
  rintro e w1 ⟨rfl, hb⟩
  have H1 := Lib.hid (H0.out.keep hb)
  clear hb H0
  go_wp2_with (first | (refine st_tr_new LI.out rfl rfl _ _ rfl rfl rfl ?_) | (refine ld_trw w1.heap.size LI.out ((H1.out.alloc _).at 0 rfl) rfl _ rfl rfl ?_) | (refine ld_trw (w.heap.size + 1) KL.out ((H1.out.alloc _).at 1 rfl) rfl _ rfl rfl ?_) | (refine ld_trw (w.heap.size) HL.out ((H1.out.alloc _).at 2 rfl) rfl _ rfl rfl ?_))
  refine (CC.out _).mono ?_
  rintro e w2 ⟨rfl, hb⟩
  have H2 := Lib.hid ((H1.out.alloc _).keep hb)
  clear hb H1
  go_wp2_with (first | (refine st_tr_new LC.out rfl rfl _ _ rfl rfl rfl ?_) | (refine ld_trw w2.heap.size LC.out ((H2.out.alloc _).at 0 rfl) rfl _ rfl rfl ?_) | (refine ld_trw (w1.heap.size) LI.out ((H2.out.alloc _).at 1 rfl) rfl _ rfl rfl ?_) | (refine ld_trw (w.heap.size + 1) KL.out ((H2.out.alloc _).at 2 rfl) rfl _ rfl rfl ?_) | (refine ld_trw (w.heap.size) HL.out ((H2.out.alloc _).at 3 rfl) rfl _ rfl rfl ?_))
  refine (CP.out _).mono ?_
  rintro e w3 ⟨rfl, hb⟩
  have H3 := Lib.hid ((H2.out.alloc _).keep hb)
  clear hb H2
  go_wp2_with (first | (refine st_tr_new LP.out rfl rfl _ _ rfl rfl rfl ?_) | (refine ld_trw w3.heap.size LP.out ((H3.out.alloc _).at 0 rfl) rfl _ rfl rfl ?_) | (refine ld_trw (w2.heap.size) LC.out ((H3.out.alloc _).at 1 rfl) rfl _ rfl rfl ?_) | (refine ld_trw (w1.heap.size) LI.out ((H3.out.alloc _).at 2 rfl) rfl _ rfl rfl ?_) | (refine ld_trw (w.heap.size + 1) KL.out ((H3.out.alloc _).at 3 rfl) rfl _ rfl rfl ?_) | (refine ld_trw (w.heap.size) HL.out ((H3.out.alloc _).at 4 rfl) rfl _ rfl rfl ?_))
  refine (RI.out _).mono ?_
  rintro e w4 ⟨rfl, hb⟩
  have H4 := Lib.hid ((H3.out.alloc _).keep hb)
  clear hb H3
  go_wp2_with (first | (refine st_tr_new LI.out rfl rfl _ _ rfl rfl rfl ?_) | (refine ld_trw w4.heap.size LI.out ((H4.out.alloc _).at 0 rfl) rfl _ rfl rfl ?_) | (refine ld_trw (w3.heap.size) LP.out ((H4.out.alloc _).at 1 rfl) rfl _ rfl rfl ?_) | (refine ld_trw (w2.heap.size) LC.out ((H4.out.alloc _).at 2 rfl) rfl _ rfl rfl ?_) | (refine ld_trw (w1.heap.size) LI.out ((H4.out.alloc _).at 3 rfl) rfl _ rfl rfl ?_) | (refine ld_trw (w.heap.size + 1) KL.out ((H4.out.alloc _).at 4 rfl) rfl _ rfl rfl ?_) | (refine ld_trw (w.heap.size) HL.out ((H4.out.alloc _).at 5 rfl) rfl _ rfl rfl ?_))
  refine (RC.out _).mono ?_
  rintro e w5 ⟨rfl, hb⟩
  have H5 := Lib.hid ((H4.out.alloc _).keep hb)
  clear hb H4
  go_wp2_with (first | (refine st_tr_new LC.out rfl rfl _ _ rfl rfl rfl ?_) | (refine ld_trw w5.heap.size LC.out ((H5.out.alloc _).at 0 rfl) rfl _ rfl rfl ?_) | (refine ld_trw (w4.heap.size) LI.out ((H5.out.alloc _).at 1 rfl) rfl _ rfl rfl ?_) | (refine ld_trw (w3.heap.size) LP.out ((H5.out.alloc _).at 2 rfl) rfl _ rfl rfl ?_) | (refine ld_trw (w2.heap.size) LC.out ((H5.out.alloc _).at 3 rfl) rfl _ rfl rfl ?_) | (refine ld_trw (w1.heap.size) LI.out ((H5.out.alloc _).at 4 rfl) rfl _ rfl rfl ?_) | (refine ld_trw (w.heap.size + 1) KL.out ((H5.out.alloc _).at 5 rfl) rfl _ rfl rfl ?_) | (refine ld_trw (w.heap.size) HL.out ((H5.out.alloc _).at 6 rfl) rfl _ rfl rfl ?_))
  refine (RP.out _).mono ?_
  rintro e w6 ⟨rfl, hb⟩
  have H6 := Lib.hid ((H5.out.alloc _).keep hb)
  clear hb H5
  go_wp2_with (first | (refine st_tr_new LP.out rfl rfl _ _ rfl rfl rfl ?_) | (refine ld_trw w6.heap.size LP.out ((H6.out.alloc _).at 0 rfl) rfl _ rfl rfl ?_) | (refine ld_trw (w5.heap.size) LC.out ((H6.out.alloc _).at 1 rfl) rfl _ rfl rfl ?_) | (refine ld_trw (w4.heap.size) LI.out ((H6.out.alloc _).at 2 rfl) rfl _ rfl rfl ?_) | (refine ld_trw (w3.heap.size) LP.out ((H6.out.alloc _).at 3 rfl) rfl _ rfl rfl ?_) | (refine ld_trw (w2.heap.size) LC.out ((H6.out.alloc _).at 4 rfl) rfl _ rfl rfl ?_) | (refine ld_trw (w1.heap.size) LI.out ((H6.out.alloc _).at 5 rfl) rfl _ rfl rfl ?_) | (refine ld_trw (w.heap.size + 1) KL.out ((H6.out.alloc _).at 6 rfl) rfl _ rfl rfl ?_) | (refine ld_trw (w.heap.size) HL.out ((H6.out.alloc _).at 7 rfl) rfl _ rfl rfl ?_) | (refine eq_tr true LI.out LI.out rfl _ _ _ rfl rfl rfl (sameT_dec _ _) ?_) | (refine eq_tr true LC.out LC.out rfl _ _ _ rfl rfl rfl (sameT_dec _ _) ?_) | (refine eq_tr true LP.out LP.out rfl _ _ _ rfl rfl rfl (sameT_dec _ _) ?_))
  refine (num_any iT.2.2 _).mono ?_
  rintro e w' ⟨rfl, rfl⟩
  go_wp2_with (first | (refine st_tr_new LP.out rfl rfl _ _ rfl rfl rfl ?_) | (refine ld_trw w6.heap.size LP.out ((H6.out.alloc _).at 0 rfl) rfl _ rfl rfl ?_) | (refine ld_trw (w5.heap.size) LC.out ((H6.out.alloc _).at 1 rfl) rfl _ rfl rfl ?_) | (refine ld_trw (w4.heap.size) LI.out ((H6.out.alloc _).at 2 rfl) rfl _ rfl rfl ?_) | (refine ld_trw (w3.heap.size) LP.out ((H6.out.alloc _).at 3 rfl) rfl _ rfl rfl ?_) | (refine ld_trw (w2.heap.size) LC.out ((H6.out.alloc _).at 4 rfl) rfl _ rfl rfl ?_) | (refine ld_trw (w1.heap.size) LI.out ((H6.out.alloc _).at 5 rfl) rfl _ rfl rfl ?_) | (refine ld_trw (w.heap.size + 1) KL.out ((H6.out.alloc _).at 6 rfl) rfl _ rfl rfl ?_) | (refine ld_trw (w.heap.size) HL.out ((H6.out.alloc _).at 7 rfl) rfl _ rfl rfl ?_) | (refine eq_tr true LI.out LI.out rfl _ _ _ rfl rfl rfl (sameT_dec _ _) ?_) | (refine eq_tr true LC.out LC.out rfl _ _ _ rfl rfl rfl (sameT_dec _ _) ?_) | (refine eq_tr true LP.out LP.out rfl _ _ _ rfl rfl rfl (sameT_dec _ _) ?_))
  refine (num_any cT.2.2 _).mono ?_
  rintro e w' ⟨rfl, rfl⟩
  go_wp2_with (first | (refine st_tr_new LP.out rfl rfl _ _ rfl rfl rfl ?_) | (refine ld_trw w6.heap.size LP.out ((H6.out.alloc _).at 0 rfl) rfl _ rfl rfl ?_) | (refine ld_trw (w5.heap.size) LC.out ((H6.out.alloc _).at 1 rfl) rfl _ rfl rfl ?_) | (refine ld_trw (w4.heap.size) LI.out ((H6.out.alloc _).at 2 rfl) rfl _ rfl rfl ?_) | (refine ld_trw (w3.heap.size) LP.out ((H6.out.alloc _).at 3 rfl) rfl _ rfl rfl ?_) | (refine ld_trw (w2.heap.size) LC.out ((H6.out.alloc _).at 4 rfl) rfl _ rfl rfl ?_) | (refine ld_trw (w1.heap.size) LI.out ((H6.out.alloc _).at 5 rfl) rfl _ rfl rfl ?_) | (refine ld_trw (w.heap.size + 1) KL.out ((H6.out.alloc _).at 6 rfl) rfl _ rfl rfl ?_) | (refine ld_trw (w.heap.size) HL.out ((H6.out.alloc _).at 7 rfl) rfl _ rfl rfl ?_) | (refine eq_tr true LI.out LI.out rfl _ _ _ rfl rfl rfl (sameT_dec _ _) ?_) | (refine eq_tr true LC.out LC.out rfl _ _ _ rfl rfl rfl (sameT_dec _ _) ?_) | (refine eq_tr true LP.out LP.out rfl _ _ _ rfl rfl rfl (sameT_dec _ _) ?_))
  refine (num_any pT.2.2 _).mono ?_
  rintro e w' ⟨rfl, rfl⟩
  go_wp2_with (first | (refine st_tr_new LP.out rfl rfl _ _ rfl rfl rfl ?_) | (refine ld_trw w6.heap.size LP.out ((H6.out.alloc _).at 0 rfl) rfl _ rfl rfl ?_) | (refine ld_trw (w5.heap.size) LC.out ((H6.out.alloc _).at 1 rfl) rfl _ rfl rfl ?_) | (refine ld_trw (w4.heap.size) LI.out ((H6.out.alloc _).at 2 rfl) rfl _ rfl rfl ?_) | (refine ld_trw (w3.heap.size) LP.out ((H6.out.alloc _).at 3 rfl) rfl _ rfl rfl ?_) | (refine ld_trw (w2.heap.size) LC.out ((H6.out.alloc _).at 4 rfl) rfl _ rfl rfl ?_) | (refine ld_trw (w1.heap.size) LI.out ((H6.out.alloc _).at 5 rfl) rfl _ rfl rfl ?_) | (refine ld_trw (w.heap.size + 1) KL.out ((H6.out.alloc _).at 6 rfl) rfl _ rfl rfl ?_) | (refine ld_trw (w.heap.size) HL.out ((H6.out.alloc _).at 7 rfl) rfl _ rfl rfl ?_) | (refine eq_tr true LI.out LI.out rfl _ _ _ rfl rfl rfl (sameT_dec _ _) ?_) | (refine eq_tr true LC.out LC.out rfl _ _ _ rfl rfl rfl (sameT_dec _ _) ?_) | (refine eq_tr true LP.out LP.out rfl _ _ _ rfl rfl rfl (sameT_dec _ _) ?_))
  refine (knows_any _).mono ?_
  rintro e w7 ⟨rfl, hb⟩
  have H7 := Lib.hid ((H6.out.alloc _).keep hb); clear hb H6
  go_wp2_with fail
  go_ret
  exact ⟨rfl, H7.out.2⟩
/-- In the form of the row. -/
theorem transComposes_row (w : World) (n : Int) (_ : -9223372036854775808 ≤ n ∧ n ≤ 9223372036854775807) (m1 : Int) (ws : List Nat) (hl : ws.length = 7) (hw : Hid (∀ i, ws.getD i 0 < 18446744073709551616)) (_ : -9223372036854775808 ≤ m1 ∧ m1 ≤ 9223372036854775807)
    (m2 : Int) (vs : List Nat) (kl : vs.length = 7) (kw : Hid (∀ i, vs.getD i 0 < 18446744073709551616)) (_ : -9223372036854775808 ≤ m2 ∧ m2 ≤ 9223372036854775807) (x : Int) (hx : 0 ≤ x ∧ x ≤ 18446744073709551615) :
    Calls Try.prog 5 #[.int .i64 n, .agg (tvv m1 ws), .agg (tvv m2 vs), .int .u64 x] w fun e w' => e = .returned (.bool true) ∧ Below w.heap.size w w' := by
  obtain ⟨k, rfl⟩ := Int.eq_ofNat_of_zero_le hx.1
  exact transComposes_any n m1 ws m2 vs k w hl hw kl kw (Lib.hid (by omega))
end Go.Proofs.Ytpebnldoimoahaa
