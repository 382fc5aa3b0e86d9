/- The walks of turns and of the statement TransLooks. Printed by gen_looks.py. -/
import Derived.Test.YtpebnldoimoahaaLookAll
import Derived.Test.YtpebnldoimoahaaApart
import Derived.Test.YtpebnldoimoahaaHp
namespace Go.Proofs.Ytpebnldoimoahaa
open Go.RowKit Go.Proofs.YtpebnldoimoahaaW.PrintWords
set_option linter.unusedSimpArgs false
set_option linter.unusedVariables false
abbrev SV (x : Nat) : Obj := .cells (sv x) 69 (0, 0)
set_option maxRecDepth 100000 in
theorem run_eqSV (w : World) (x : Nat) : (binOp .eql 69 (.agg (sv x)) (.agg (sv x))).run Try.prog w = .ok (.bool true) w := by
  have hs : sv x = (([(x : Int), 0, 0, 0, 0, 0, 0, 0] : List Int).map (Value.int .u64)).toArray := rfl
  have h : (Op.equalIn Op.maxDepth 69 (.agg (sv x)) (.agg (sv x))).run Try.prog w = .ok true w := by
    have h1 := eq_arr (P := Try.prog) w 9998 Try.underlying69 Try.underlying23 (by kernel_rfl) [(x : Int), 0, 0, 0, 0, 0, 0, 0] [(x : Int), 0, 0, 0, 0, 0, 0, 0] rfl rfl
    rw [← hs] at h1
    refine h1.trans ?_
    simp
  simp only [binOp]
  simp [Op.equal, h]
theorem eqs {ops : Array Oper} {rest : List Oper} {o : Oper} {a : Act} {w : World} {Q : Exit → Act → World → Prop} (x y : Operand) (u : TypeId) (ho : o.op = .binOp .eql 69 x y u) {n : Nat} (hx : a.eval x = .agg (sv n)) (hy : a.eval y = .agg (sv n)) (hw : Region.wanted o (yielded ops a.tmps) = true)
    (h : wpList Try.prog ops Q rest (a.put o.dst (.bool true)) w) : wpList Try.prog ops Q (o :: rest) a w :=
  wpList_want hw fun _ hK => by
    have h1 := run_eqGuard_agg (P := Try.prog) w .eql 69 x y (sv n) (sv n) (by kernel_rfl)
    have h2 := run_eqSV w n
    have h3 : (execOp a.eval o).run Try.prog w = .ok (.value (.bool true)) w := by
      unfold execOp
      simp only [ho, hx, hy, Sem.run_bind, h1, h2, Result.andThen_ok, Sem.run_pure]
    unfold Oper.wp
    rw [h3, Oper.upon_value]
    exact hK _ _ h
theorem cycR_vals (n : Int) (ws : List Nat) : ∃ i p er : Int, ∀ w e w', CycR n ws w e w' → e = .returned (.tuple #[.int .i64 i, .int .i64 p, .int .i64 er]) ∧ Below w.heap.size w w' := by
  cases hg : goodT n ws
  · exact ⟨0, 0, 130, fun w e w' h => by unfold CycR at h; rw [hg] at h; exact h⟩
  · exact ⟨(cyc (ims n.toNat ws) n.toNat n.toNat).1, (cyc (ims n.toNat ws) n.toNat n.toNat).2, 0, fun w e w' h => by unfold CycR at h; rw [hg] at h; exact h⟩
theorem invW_len (n : Int) (ws : List Nat) (hl : ws.length = 7) : (invW n ws).length = 7 := by unfold invW; split; exact pks_len _ _; rfl
set_option maxRecDepth 100000 in
set_option maxHeartbeats 8000000 in
theorem turns_any (n : Int) (ws : List Nat) (hl : ws.length = 7) (hw : Hid (∀ i, ws.getD i 0 < 18446744073709551616)) (w : World) :
    Calls Try.prog 51 #[.agg (tvv n ws)] w fun e w' => e = .returned (.bool true) ∧ Below w.heap.size w w' := by
  have HL := Lib.hid hl
  have FX := Aside0.mk (fixed_any n ws hl hw); have RFX := Aside0.mk (rfixed_any n ws hl hw)
  have IV := Aside0.mk (inverse_any n ws hl hw); have RIV := Aside0.mk (rinverse_any n ws hl hw)
  have HIL := Lib.hid (invW_len n ws hl)
  obtain ⟨ci, cp, ce, hcy⟩ := cycR_vals n ws
  have CY := Aside0.mk (fun w => (cycle_any n ws hl hw w).mono (hcy w)); have RCY := Aside0.mk (fun w => (rcycle_any n ws hl hw w).mono (hcy w))
  clear hl hcy
  generalize bo (fxl (lsT (goodT n ws) n.toNat ws) (lsT (goodT n ws) n.toNat ws).length) = fx at *
  generalize chkE (goodT n ws) = fe at *
  generalize invN n ws = vn at *
  generalize invW n ws = vw at *
  generalize invE n ws = ve at *
  go_enter Try.func51, Try.ntmps51
  have H0 := Lib.hid ((Hp.start w).alloc (TR n ws))
  go_wp2_with (first | (refine ld2 _ rfl (w.heap.size) rfl HL.out (H0.out.at 0 rfl) rfl ?_))
  refine (FX.out _).mono ?_
  rintro e w1 ⟨rfl, hb⟩
  have H1 := Lib.hid (H0.out.keep hb)
  clear hb H0
  go_wp2_with (first | (refine st_sv_new _ _ rfl rfl rfl rfl rfl ?_) | (refine ld_sv _ rfl (w1.heap.size) rfl ((H1.out.alloc (SV fx)).at 0 rfl) rfl ?_) | (refine ld2 _ rfl (w.heap.size) rfl HL.out ((H1.out.alloc (SV fx)).at 1 rfl) rfl ?_))
  refine (CY.out _).mono ?_
  rintro e w2 ⟨rfl, hb⟩
  have H2 := Lib.hid ((H1.out.alloc (SV fx)).keep hb)
  clear hb H1
  go_wp2_with (first | (refine ld_sv _ rfl (w1.heap.size) rfl (H2.out.at 0 rfl) rfl ?_) | (refine ld2 _ rfl (w.heap.size) rfl HL.out (H2.out.at 1 rfl) rfl ?_))
  refine (IV.out _).mono ?_
  rintro e w3 ⟨rfl, hb⟩
  have H3 := Lib.hid (H2.out.keep hb)
  clear hb H2
  go_wp2_with (first | (refine st2 _ _ rfl rfl rfl rfl HIL.out rfl ?_) | (refine ld2 _ rfl (w3.heap.size) rfl HIL.out ((H3.out.alloc (TR vn vw)).at 0 rfl) rfl ?_) | (refine ld_sv _ rfl (w1.heap.size) rfl ((H3.out.alloc (TR vn vw)).at 1 rfl) rfl ?_) | (refine ld2 _ rfl (w.heap.size) rfl HL.out ((H3.out.alloc (TR vn vw)).at 2 rfl) rfl ?_))
  refine (RFX.out _).mono ?_
  rintro e w4 ⟨rfl, hb⟩
  have H4 := Lib.hid ((H3.out.alloc (TR vn vw)).keep hb)
  clear hb H3
  go_wp2_with (first | (refine st_sv_new _ _ rfl rfl rfl rfl rfl ?_) | (refine ld_sv _ rfl (w4.heap.size) rfl ((H4.out.alloc (SV fx)).at 0 rfl) rfl ?_) | (refine ld2 _ rfl (w3.heap.size) rfl HIL.out ((H4.out.alloc (SV fx)).at 1 rfl) rfl ?_) | (refine ld_sv _ rfl (w1.heap.size) rfl ((H4.out.alloc (SV fx)).at 2 rfl) rfl ?_) | (refine ld2 _ rfl (w.heap.size) rfl HL.out ((H4.out.alloc (SV fx)).at 3 rfl) rfl ?_))
  refine (RCY.out _).mono ?_
  rintro e w5 ⟨rfl, hb⟩
  have H5 := Lib.hid ((H4.out.alloc (SV fx)).keep hb)
  clear hb H4
  go_wp2_with (first | (refine ld_sv _ rfl (w4.heap.size) rfl (H5.out.at 0 rfl) rfl ?_) | (refine ld2 _ rfl (w3.heap.size) rfl HIL.out (H5.out.at 1 rfl) rfl ?_) | (refine ld_sv _ rfl (w1.heap.size) rfl (H5.out.at 2 rfl) rfl ?_) | (refine ld2 _ rfl (w.heap.size) rfl HL.out (H5.out.at 3 rfl) rfl ?_))
  refine (RIV.out _).mono ?_
  rintro e w6 ⟨rfl, hb⟩
  have H6 := Lib.hid (H5.out.keep hb)
  clear hb H5
  go_wp2_with (first | (refine st2 _ _ rfl rfl rfl rfl HIL.out rfl ?_) | (refine ld2 _ rfl (w6.heap.size) rfl HIL.out ((H6.out.alloc (TR vn vw)).at 0 rfl) rfl ?_) | (refine ld_sv _ rfl (w4.heap.size) rfl ((H6.out.alloc (TR vn vw)).at 1 rfl) rfl ?_) | (refine ld2 _ rfl (w3.heap.size) rfl HIL.out ((H6.out.alloc (TR vn vw)).at 2 rfl) rfl ?_) | (refine ld_sv _ rfl (w1.heap.size) rfl ((H6.out.alloc (TR vn vw)).at 3 rfl) rfl ?_) | (refine ld2 _ rfl (w.heap.size) rfl HL.out ((H6.out.alloc (TR vn vw)).at 4 rfl) rfl ?_) | (refine eqs _ _ _ rfl rfl rfl rfl ?_) | (refine eq2 _ _ _ rfl true (sameT_dec _ _) rfl rfl HIL.out HIL.out rfl ?_))
  have H6a := Lib.hid (H6.out.alloc (TR vn vw))
  clear H6
  have H6 := H6a
  clear H6a
  refine (num_any fe _).mono ?_
  rintro e w' ⟨rfl, rfl⟩
  go_wp2_with (first | (refine ld2 _ rfl (w6.heap.size) rfl HIL.out (H6.out.at 0 rfl) rfl ?_) | (refine ld_sv _ rfl (w4.heap.size) rfl (H6.out.at 1 rfl) rfl ?_) | (refine ld2 _ rfl (w3.heap.size) rfl HIL.out (H6.out.at 2 rfl) rfl ?_) | (refine ld_sv _ rfl (w1.heap.size) rfl (H6.out.at 3 rfl) rfl ?_) | (refine ld2 _ rfl (w.heap.size) rfl HL.out (H6.out.at 4 rfl) rfl ?_) | (refine eqs _ _ _ rfl rfl rfl rfl ?_) | (refine eq2 _ _ _ rfl true (sameT_dec _ _) rfl rfl HIL.out HIL.out rfl ?_))
  refine (num_any ce _).mono ?_
  rintro e w' ⟨rfl, rfl⟩
  go_wp2_with (first | (refine ld2 _ rfl (w6.heap.size) rfl HIL.out (H6.out.at 0 rfl) rfl ?_) | (refine ld_sv _ rfl (w4.heap.size) rfl (H6.out.at 1 rfl) rfl ?_) | (refine ld2 _ rfl (w3.heap.size) rfl HIL.out (H6.out.at 2 rfl) rfl ?_) | (refine ld_sv _ rfl (w1.heap.size) rfl (H6.out.at 3 rfl) rfl ?_) | (refine ld2 _ rfl (w.heap.size) rfl HL.out (H6.out.at 4 rfl) rfl ?_) | (refine eqs _ _ _ rfl rfl rfl rfl ?_) | (refine eq2 _ _ _ rfl true (sameT_dec _ _) rfl rfl HIL.out HIL.out rfl ?_))
  refine (num_any ve _).mono ?_
  rintro e w' ⟨rfl, rfl⟩
  go_wp2_with (first | (refine ld2 _ rfl (w6.heap.size) rfl HIL.out (H6.out.at 0 rfl) rfl ?_) | (refine ld_sv _ rfl (w4.heap.size) rfl (H6.out.at 1 rfl) rfl ?_) | (refine ld2 _ rfl (w3.heap.size) rfl HIL.out (H6.out.at 2 rfl) rfl ?_) | (refine ld_sv _ rfl (w1.heap.size) rfl (H6.out.at 3 rfl) rfl ?_) | (refine ld2 _ rfl (w.heap.size) rfl HL.out (H6.out.at 4 rfl) rfl ?_) | (refine eqs _ _ _ rfl rfl rfl rfl ?_) | (refine eq2 _ _ _ rfl true (sameT_dec _ _) rfl rfl HIL.out HIL.out rfl ?_))
  go_ret
  exact ⟨rfl, H6.out.2⟩
theorem same_true (A : Option Addr) (c : Nat) (B : Option Addr) (d m : Nat) (xs : List Int) (w : World) (hA : Kd.C (Kd.int .i64) w A m xs) (hB : Kd.C (Kd.int .i64) w B m xs) :
    Calls Try.prog 50 #[.slice A m c, .slice B m d] w fun e w' => e = .returned (.bool true) ∧ Below w.heap.size w w' := by
  obtain rfl : xs.length = m := Kd.C_len hA
  have h := same_any A c xs B d xs w hA hB
  rw [decide_eq_true rfl] at h
  exact h
theorem zl_small {n : Int} {ws : List Nat} : (zl (lsT (goodT n ws) n.toNat ws)).length ≤ 64 := by rw [zl_len]; exact lsT_small rfl
set_option maxRecDepth 100000 in
set_option maxHeartbeats 20000000 in
theorem transLooks_any (w : World) (n : Int) (ws : List Nat) (hl : ws.length = 7) (hw : Hid (∀ i, ws.getD i 0 < 18446744073709551616)) (i : Int) :
    Calls Try.prog 13 #[.agg (tvv n ws), .int .i64 i] w fun e w' => e = .returned (.bool true) ∧ Below w.heap.size w w' := by
  have HL := Lib.hid hl
  have LS := Aside0.mk (list_any n ws hl hw); have RLS := Aside0.mk (rlist_l n ws hl hw)
  have AT := Aside0.mk (tat_any n ws i hl hw); have RAT := Aside0.mk (rtat_any n ws i hl hw)
  have IM := Aside0.mk (image_any n ws hl hw); have RIM := Aside0.mk (rimage_any n ws hl hw)
  have KE := Aside0.mk (kernel_any n ws hl hw); have RKE := Aside0.mk (rkernel_any n ws hl hw)
  have TU := Aside0.mk (turns_any n ws hl hw)
  have HS := Lib.hid (lsT_small (n := n) (ws := ws) rfl)
  have HKL := Lib.hid (krl_len (lsT (goodT n ws) n.toNat ws))
  clear hl
  generalize krl (lsT (goodT n ws) n.toNat ws) = kl at *
  generalize bo (lsT (goodT n ws) n.toNat ws) = ix at *
  generalize lsT (goodT n ws) n.toNat ws = l at *
  generalize atV (goodT n ws) n ws i = av at *
  generalize atE (goodT n ws) n i = ae at *
  generalize chkE (goodT n ws) = er at *
  obtain ⟨m, HM⟩ : ∃ m, Hid (l.length = m) := ⟨_, Lib.hid rfl⟩
  rw [HM.out] at HS HKL
  have hm64 := HS.out
  go_enter Try.func13, Try.ntmps13
  have H0 := Lib.hid ((Hp.start w).alloc (TR n ws))
  go_wp2_with (first | (refine ld2 _ rfl (w.heap.size) rfl HL.out (H0.out.at 0 rfl) rfl ?_))
  refine (LS.out _).mono ?_
  rintro e w1 ⟨v1, rfl, ho, hb⟩
  have H1 := Lib.hid (H0.out.keep hb)
  obtain ⟨A1, c1, rfl, _, hCA1⟩ := own_slice m HM.out ho
  have HCA1 := Aside0.mk hCA1
  have HOA1 := Aside0.mk ho
  clear hb H0 ho hCA1
  go_wp2_with (first | (refine ld2 _ rfl (w.heap.size) rfl HL.out (H1.out.at 0 rfl) rfl ?_))
  refine (AT.out _).mono ?_
  rintro e w2 ⟨rfl, hb⟩
  have H2 := Lib.hid (H1.out.keep hb)
  replace HCA1 := Aside0.mk (Kd.C_below HCA1.out hb)
  replace HOA1 := Aside0.mk (Kd.R_below HOA1.out hb)
  clear hb H1
  go_wp2_with (first | (refine ld2 _ rfl (w.heap.size) rfl HL.out (H2.out.at 0 rfl) rfl ?_))
  refine (IM.out _).mono ?_
  rintro e w3 ⟨rfl, hb⟩
  have H3 := Lib.hid (H2.out.keep hb)
  replace HCA1 := Aside0.mk (Kd.C_below HCA1.out hb)
  replace HOA1 := Aside0.mk (Kd.R_below HOA1.out hb)
  clear hb H2
  go_wp2_with (first | (refine st_sv_new _ _ rfl rfl rfl rfl rfl ?_) | (refine ld_sv _ rfl (w3.heap.size) rfl ((H3.out.alloc (SV ix)).at 0 rfl) rfl ?_) | (refine ld2 _ rfl (w.heap.size) rfl HL.out ((H3.out.alloc (SV ix)).at 1 rfl) rfl ?_))
  have HD := Lib.hid (Kd.R_lt (Kd.R_alloc HOA1.out (SV ix)))
  have HBA := (bl_alloc H3.out.2 (SV ix)).size
  refine (KE.out _).mono ?_
  rintro e w4 ⟨v2, rfl, ho, hb⟩
  have H4 := Lib.hid ((H3.out.alloc (SV ix)).keep hb)
  replace HCA1 := Aside0.mk (Kd.C_below (Kd.C_alloc HCA1.out _) hb)
  replace HOA1 := Aside0.mk (Kd.R_below (Kd.R_alloc HOA1.out _) hb)
  obtain ⟨A2, c2, rfl, _, hCA2⟩ := own_slice m HKL.out ho
  have HCA2 := Aside0.mk hCA2
  have HOA2 := Aside0.mk ho
  clear hb H3 ho hCA2
  go_wp2_with (first | (refine ld_sv _ rfl (w3.heap.size) rfl (H4.out.at 0 rfl) rfl ?_) | (refine ld2 _ rfl (w.heap.size) rfl HL.out (H4.out.at 1 rfl) rfl ?_))
  refine (RLS.out _).mono ?_
  rintro e w5 ⟨v3, rfl, ho, hb⟩
  have H5 := Lib.hid (H4.out.keep hb)
  replace HCA1 := Aside0.mk (Kd.C_below HCA1.out hb)
  replace HCA2 := Aside0.mk (Kd.C_below HCA2.out hb)
  replace HOA1 := Aside0.mk (Kd.R_below HOA1.out hb)
  replace HOA2 := Aside0.mk (Kd.R_below HOA2.out hb)
  obtain ⟨A3, c3, rfl, _, hCA3⟩ := own_slice m HM.out ho
  have HCA3 := Aside0.mk hCA3
  clear hb H4 ho hCA3
  go_wp2_with (first | (refine ld_sv _ rfl (w3.heap.size) rfl (H5.out.at 0 rfl) rfl ?_) | (refine ld2 _ rfl (w.heap.size) rfl HL.out (H5.out.at 1 rfl) rfl ?_))
  refine (RAT.out _).mono ?_
  rintro e w6 ⟨rfl, hb⟩
  have H6 := Lib.hid (H5.out.keep hb)
  replace HCA1 := Aside0.mk (Kd.C_below HCA1.out hb)
  replace HCA2 := Aside0.mk (Kd.C_below HCA2.out hb)
  replace HCA3 := Aside0.mk (Kd.C_below HCA3.out hb)
  replace HOA1 := Aside0.mk (Kd.R_below HOA1.out hb)
  replace HOA2 := Aside0.mk (Kd.R_below HOA2.out hb)
  clear hb H5
  go_wp2_with (first | (refine ld_sv _ rfl (w3.heap.size) rfl (H6.out.at 0 rfl) rfl ?_) | (refine ld2 _ rfl (w.heap.size) rfl HL.out (H6.out.at 1 rfl) rfl ?_))
  refine (RIM.out _).mono ?_
  rintro e w7 ⟨rfl, hb⟩
  have H7 := Lib.hid (H6.out.keep hb)
  replace HCA1 := Aside0.mk (Kd.C_below HCA1.out hb)
  replace HCA2 := Aside0.mk (Kd.C_below HCA2.out hb)
  replace HCA3 := Aside0.mk (Kd.C_below HCA3.out hb)
  replace HOA1 := Aside0.mk (Kd.R_below HOA1.out hb)
  replace HOA2 := Aside0.mk (Kd.R_below HOA2.out hb)
  clear hb H6
  go_wp2_with (first | (refine st_sv_new _ _ rfl rfl rfl rfl rfl ?_) | (refine ld_sv _ rfl (w7.heap.size) rfl ((H7.out.alloc (SV ix)).at 0 rfl) rfl ?_) | (refine ld_sv _ rfl (w3.heap.size) rfl ((H7.out.alloc (SV ix)).at 1 rfl) rfl ?_) | (refine ld2 _ rfl (w.heap.size) rfl HL.out ((H7.out.alloc (SV ix)).at 2 rfl) rfl ?_))
  refine (RKE.out _).mono ?_
  rintro e w8 ⟨v4, rfl, ho, hb⟩
  have H8 := Lib.hid ((H7.out.alloc (SV ix)).keep hb)
  replace HCA1 := Aside0.mk (Kd.C_below (Kd.C_alloc HCA1.out _) hb)
  replace HCA2 := Aside0.mk (Kd.C_below (Kd.C_alloc HCA2.out _) hb)
  replace HCA3 := Aside0.mk (Kd.C_below (Kd.C_alloc HCA3.out _) hb)
  replace HOA1 := Aside0.mk (Kd.R_below (Kd.R_alloc HOA1.out _) hb)
  replace HOA2 := Aside0.mk (Kd.R_below (Kd.R_alloc HOA2.out _) hb)
  obtain ⟨A4, c4, rfl, _, hCA4⟩ := own_slice m HKL.out ho
  have HCA4 := Aside0.mk hCA4
  clear hb H7 ho hCA4
  clear LS RLS AT RAT IM RIM KE RKE
  go_wp2_with (first | (refine ld_sv _ rfl (w7.heap.size) rfl (H8.out.at 0 rfl) rfl ?_) | (refine ld_sv _ rfl (w3.heap.size) rfl (H8.out.at 1 rfl) rfl ?_) | (refine ld2 _ rfl (w.heap.size) rfl HL.out (H8.out.at 2 rfl) rfl ?_) | (refine eqs _ _ _ rfl rfl rfl rfl ?_))
  refine (same_true A1 c1 A3 c3 m (zl l) _ HCA1.out HCA3.out).mono ?_
  rintro e w9 ⟨rfl, hb⟩
  have H9 := Lib.hid (H8.out.keep hb)
  replace HCA1 := Aside0.mk (Kd.C_below HCA1.out hb)
  replace HCA2 := Aside0.mk (Kd.C_below HCA2.out hb)
  replace HCA3 := Aside0.mk (Kd.C_below HCA3.out hb)
  replace HCA4 := Aside0.mk (Kd.C_below HCA4.out hb)
  replace HOA1 := Aside0.mk (Kd.R_below HOA1.out hb)
  replace HOA2 := Aside0.mk (Kd.R_below HOA2.out hb)
  clear hb H8
  go_wp2_with (first | (refine ld_sv _ rfl (w7.heap.size) rfl (H9.out.at 0 rfl) rfl ?_) | (refine ld_sv _ rfl (w3.heap.size) rfl (H9.out.at 1 rfl) rfl ?_) | (refine ld2 _ rfl (w.heap.size) rfl HL.out (H9.out.at 2 rfl) rfl ?_) | (refine eqs _ _ _ rfl rfl rfl rfl ?_))
  refine (num_any er _).mono ?_
  rintro e w' ⟨rfl, rfl⟩
  go_wp2_with (first | (refine ld_sv _ rfl (w7.heap.size) rfl (H9.out.at 0 rfl) rfl ?_) | (refine ld_sv _ rfl (w3.heap.size) rfl (H9.out.at 1 rfl) rfl ?_) | (refine ld2 _ rfl (w.heap.size) rfl HL.out (H9.out.at 2 rfl) rfl ?_) | (refine eqs _ _ _ rfl rfl rfl rfl ?_))
  refine (num_any ae _).mono ?_
  rintro e w' ⟨rfl, rfl⟩
  go_wp2_with (first | (refine ld_sv _ rfl (w7.heap.size) rfl (H9.out.at 0 rfl) rfl ?_) | (refine ld_sv _ rfl (w3.heap.size) rfl (H9.out.at 1 rfl) rfl ?_) | (refine ld2 _ rfl (w.heap.size) rfl HL.out (H9.out.at 2 rfl) rfl ?_) | (refine eqs _ _ _ rfl rfl rfl rfl ?_))
  refine (num_any er _).mono ?_
  rintro e w' ⟨rfl, rfl⟩
  go_wp2_with (first | (refine ld_sv _ rfl (w7.heap.size) rfl (H9.out.at 0 rfl) rfl ?_) | (refine ld_sv _ rfl (w3.heap.size) rfl (H9.out.at 1 rfl) rfl ?_) | (refine ld2 _ rfl (w.heap.size) rfl HL.out (H9.out.at 2 rfl) rfl ?_) | (refine eqs _ _ _ rfl rfl rfl rfl ?_))
  refine (same_true A2 c2 A4 c4 m (zl kl) _ HCA2.out HCA4.out).mono ?_
  rintro e w10 ⟨rfl, hb⟩
  have H10 := Lib.hid (H9.out.keep hb)
  replace HCA1 := Aside0.mk (Kd.C_below HCA1.out hb)
  replace HCA2 := Aside0.mk (Kd.C_below HCA2.out hb)
  replace HCA4 := Aside0.mk (Kd.C_below HCA4.out hb)
  replace HOA1 := Aside0.mk (Kd.R_below HOA1.out hb)
  replace HOA2 := Aside0.mk (Kd.R_below HOA2.out hb)
  clear hb H9
  go_wp2_with (first | (refine ld_sv _ rfl (w7.heap.size) rfl (H10.out.at 0 rfl) rfl ?_) | (refine ld_sv _ rfl (w3.heap.size) rfl (H10.out.at 1 rfl) rfl ?_) | (refine ld2 _ rfl (w.heap.size) rfl HL.out (H10.out.at 2 rfl) rfl ?_) | (refine eqs _ _ _ rfl rfl rfl rfl ?_))
  refine (num_any er _).mono ?_
  rintro e w' ⟨rfl, rfl⟩
  go_wp2_with (first | (refine ld_sv _ rfl (w7.heap.size) rfl (H10.out.at 0 rfl) rfl ?_) | (refine ld_sv _ rfl (w3.heap.size) rfl (H10.out.at 1 rfl) rfl ?_) | (refine ld2 _ rfl (w.heap.size) rfl HL.out (H10.out.at 2 rfl) rfl ?_) | (refine eqs _ _ _ rfl rfl rfl rfl ?_))
  refine (TU.out _).mono ?_
  rintro e w11 ⟨rfl, hb⟩
  have H11 := Lib.hid (H10.out.keep hb)
  replace HOA1 := Aside0.mk (Kd.R_below HOA1.out hb)
  replace HOA2 := Aside0.mk (Kd.R_below HOA2.out hb)
  clear hb H10
  go_wp2_with (first | (refine ld_sv _ rfl (w7.heap.size) rfl (H11.out.at 0 rfl) rfl ?_) | (refine ld_sv _ rfl (w3.heap.size) rfl (H11.out.at 1 rfl) rfl ?_) | (refine ld2 _ rfl (w.heap.size) rfl HL.out (H11.out.at 2 rfl) rfl ?_) | (refine eqs _ _ _ rfl rfl rfl rfl ?_))
  refine (apart2 w11 w.heap.size A1 A2 m m c1 c2 (zl l) (zl kl) (Kd.R_lower HOA1.out (by simp)) (Kd.R_lower HOA2.out HBA) (fun k h1 h2 => by have h3 := HD.out k h1; have h4 := Kd.R_base HOA2.out k h2; exact Nat.lt_irrefl _ (Nat.lt_of_lt_of_le h3 h4)) (by omega) (by omega) H11.out.2.size).mono ?_
  rintro e wa ⟨rfl, hb⟩
  have HF := Lib.hid (H11.out.2.trans hb)
  clear hb H11 HOA1 HOA2
  go_wp2_with fail
  refine (knows_any _).mono ?_
  rintro e wb ⟨rfl, hb⟩
  go_wp2
  go_ret
  exact ⟨rfl, bl_then HF.out hb⟩
/-- In the form of the row. -/
theorem transLooks_row (w : World) (n : Int) (ws : List Nat) (hl : ws.length = 7) (hw : Hid (∀ i, ws.getD i 0 < 18446744073709551616)) (_ : -9223372036854775808 ≤ n ∧ n ≤ 9223372036854775807) (i : Int) (_ : -9223372036854775808 ≤ i ∧ i ≤ 9223372036854775807) :
    Calls Try.prog 13 #[.agg (tvv n ws), .int .i64 i] w fun e w' => e = .returned (.bool true) ∧ Below w.heap.size w w' := transLooks_any w n ws hl hw i
end Go.Proofs.Ytpebnldoimoahaa
