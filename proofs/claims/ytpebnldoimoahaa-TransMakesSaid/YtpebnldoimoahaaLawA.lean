/- The walk of the statement TransMakes. -/
import Derived.Test.YtpebnldoimoahaaRfC
import Derived.Test.YtpebnldoimoahaaStay
namespace Go.Proofs.Ytpebnldoimoahaa
open Go.RowKit Go.Proofs.YtpebnldoimoahaaW.PrintWords
set_option maxRecDepth 100000 in
set_option maxHeartbeats 2000000 in
theorem transMakes_any (A : Option Addr) (c : Nat) (l : List Int) (n : Int) (ws : List Nat) (w : World) (hr : Kd.C (Kd.int .i64) w A l.length l) (hlen : l.length ≤ 17592186043904)
    (hl : ws.length = 7) (hw : Hid (∀ i, ws.getD i 0 < 18446744073709551616)) :
    Calls Try.prog 3 #[.slice A l.length c, .agg (tvv n ws)] w fun e w' => e = .returned (.bool true) ∧ Below w.heap.size w w' := by
  have HR := Aside0.mk hr
  have HL := Lib.hid hl
  clear hr hl
  go_enter Try.func3, Try.ntmps3
  go_wp2_with fail
  refine (lent_any A c l _ (Kd.C_alloc HR.out _) hlen).mono ?_
  rintro e w1 ⟨B, d, rfl, ho, hb⟩
  have HO := Aside0.mk ho
  have HB1 := Lib.hid hb
  clear ho hb
  have HA := Aside0.mk (Kd.R_reads' HO.out)
  have hcap : l.length + 2 ≤ d := by have := HA.out.2.1; simpa using this
  have hpre : Kd.C (Kd.int .i64) w1 B l.length l := by
    have := Kd.C_take (m := l.length) HA.out.2.2 (by simp)
    simpa using this
  have HP := Aside0.mk hpre
  have HR1 := Aside0.mk (Kd.C_below (Kd.C_alloc HR.out (.cells (tvv n ws) 26)) HB1.out)
  have HT1 := Lib.hid (hp_below' HB1.out (hp_new (w := w) (o := .cells (tvv n ws) 26) rfl))
  have HW1 := Lib.hid (bl_trans (bl_alloc (Below.refl _ w) (.cells (tvv n ws) 26)) (by simp) HB1.out)
  clear hpre
  have hml : (makeT l).2.1.length = 7 := by
    unfold makeT; split
    · simp
    · split <;> simp [pks_len]
  have hml := Lib.hid hml
  go_wp2_with fail
  refine (make_any B d l _ HP.out).mono ?_
  rintro e w2 ⟨rfl, hb⟩
  have HP2 := Aside0.mk (Kd.C_below HA.out.2.2 hb)
  have HR2 := Aside0.mk (Kd.C_below HR1.out hb)
  have HT2 := Lib.hid (hp_below' hb HT1.out)
  have HW2 := Lib.hid (bl_then HW1.out hb)
  clear hb HP HR1 HT1 HW1 HB1 HO HA
  generalize hmk : makeT l = mk at *
  have HMK := Lib.hid hmk
  clear hmk
  obtain ⟨mn, mws, me⟩ := mk
  dsimp only at *
  go_wp2_with (refine st_tr_new hml.out rfl rfl _ _ rfl rfl rfl ?_)
  refine (rmake_any A c l _ (Kd.C_alloc HR2.out _)).mono ?_
  rw [HMK.out]
  rintro e w3 ⟨rfl, hb⟩
  have HP3 := Aside0.mk (Kd.C_below (Kd.C_alloc HP2.out (.cells (tvv mn mws) 26)) hb)
  have HR3 := Aside0.mk (Kd.C_below (Kd.C_alloc HR2.out (.cells (tvv mn mws) 26)) hb)
  have HT3 := Lib.hid (hp_below' hb (hp_old (o := .cells (tvv mn mws) 26) HT2.out))
  have HX3 := Lib.hid (hp_below' hb (hp_new (w := w2) (o := .cells (tvv mn mws) 26) rfl))
  have HW3 := Lib.hid (bl_then (bl_alloc HW2.out (.cells (tvv mn mws) 26)) hb)
  clear hb HP2 HR2 HT2 HW2
  go_wp2_with (refine st_tr_new hml.out rfl rfl _ _ rfl rfl rfl ?_)
  have hS0 : ∀ w', Below w3.heap.size w3 w' → w3.heap.size < w'.heap.size → True := fun _ _ _ => trivial
  clear hS0
  refine wp_region_held_drew (S := fun w' => w'.heap[w2.heap.size]? = some (.cells (tvv mn mws) 26 (0, 0)) ∧ w'.heap[w3.heap.size]? = some (.cells (tvv mn mws) 26 (0, 0)) ∧ w'.heap[w.heap.size]? = some (.cells (tvv n ws) 26 (0, 0)) ∧ Below w.heap.size w w' ∧ Kd.C (Kd.int .i64) w' B (l ++ [(-77), (-78)]).length (l ++ [(-77), (-78)]) ∧ Kd.C (Kd.int .i64) w' A l.length l) (by kernel_rfl) ⟨hp_old HX3.out, hp_new rfl, hp_old HT3.out, (bl_alloc HW3.out _).drew, Kd.C_drew (Kd.C_alloc HP3.out _), Kd.C_drew (Kd.C_alloc HR3.out _)⟩ (fun hS => ?_)
  have keep : ∀ {u v : World}, Below u.heap.size u v → (u.heap[w2.heap.size]? = some (.cells (tvv mn mws) 26 (0, 0)) ∧ u.heap[w3.heap.size]? = some (.cells (tvv mn mws) 26 (0, 0)) ∧ u.heap[w.heap.size]? = some (.cells (tvv n ws) 26 (0, 0)) ∧ Below w.heap.size w u ∧ Kd.C (Kd.int .i64) u B (l ++ [(-77), (-78)]).length (l ++ [(-77), (-78)]) ∧ Kd.C (Kd.int .i64) u A l.length l) → (v.heap[w2.heap.size]? = some (.cells (tvv mn mws) 26 (0, 0)) ∧ v.heap[w3.heap.size]? = some (.cells (tvv mn mws) 26 (0, 0)) ∧ v.heap[w.heap.size]? = some (.cells (tvv n ws) 26 (0, 0)) ∧ Below w.heap.size w v ∧ Kd.C (Kd.int .i64) v B (l ++ [(-77), (-78)]).length (l ++ [(-77), (-78)]) ∧ Kd.C (Kd.int .i64) v A l.length l) :=
    fun hb h => ⟨hp_below' hb h.1, hp_below' hb h.2.1, hp_below' hb h.2.2.1, bl_then h.2.2.2.1 hb, Kd.C_below h.2.2.2.2.1 hb, Kd.C_below h.2.2.2.2.2 hb⟩
  refine any_take (i := 0) rfl (by kernel_rfl) (by kernel_rfl) (by kernel_rfl) (fun _ _ _ h => h) hS (yi_row _ _ rfl (by rfl) (w2.heap.size) rfl (tvv mn mws) _ Try.underlying26 rfl (tr_z _ _ hml.out) (fun w' h' => ⟨_, _, h'.1⟩)) ?_
  (try simp only [Act.put, List.setIfInBounds_toArray, List.set_cons_zero, List.set_cons_succ])
  refine any_take (i := 1) rfl (by kernel_rfl) (by kernel_rfl) (by kernel_rfl) (fun _ _ _ h => h) hS (yi_row _ _ rfl (by rfl) (w3.heap.size) rfl (tvv mn mws) _ Try.underlying26 rfl (tr_z _ _ hml.out) (fun w' h' => ⟨_, _, h'.2.1⟩)) ?_
  (try simp only [Act.put, List.setIfInBounds_toArray, List.set_cons_zero, List.set_cons_succ])
  refine any_take (i := 2) (v := .bool true) rfl (by kernel_rfl) (by kernel_rfl) (by kernel_rfl) (fun _ _ _ h => h) hS (yi_bin _ _ _ _ _ rfl (by rfl) (fun w' h' => ⟨?g3, ?e3⟩)) ?_
  case g3 => exact run_eqGuard_agg w' .eql 26 _ _ _ _ (by kernel_rfl)
  case e3 => exact (run_eqT w' mn mn mws mws hml.out hml.out).trans (by simp)
  (try simp only [Act.put, List.setIfInBounds_toArray, List.set_cons_zero, List.set_cons_succ])
  refine any_take (i := 3) (v := ?v5) rfl (by kernel_rfl) (by kernel_rfl) (by kernel_rfl) (fun _ _ _ h => h) hS (.inl ⟨by rfl, ?y5⟩) ?_
  case y5 => (intro w' h'; go_simp; with_reducible rfl)
  (try simp only [Act.put, List.setIfInBounds_toArray, List.set_cons_zero, List.set_cons_succ])
  refine any_take (i := 4) (v := ?v6) rfl (by kernel_rfl) (by kernel_rfl) (by kernel_rfl) (fun _ _ _ h => h) hS (.inl ⟨by rfl, ?y6⟩) ?_
  case y6 => (intro w' h'; go_simp; with_reducible rfl)
  (try simp only [Act.put, List.setIfInBounds_toArray, List.set_cons_zero, List.set_cons_succ])
  refine any_take (i := 6) (v := ?v7) rfl (by kernel_rfl) (by kernel_rfl) (by kernel_rfl) (fun _ _ _ h => h) hS (.inl ⟨by rfl, ?y7⟩) ?_
  case y7 => (intro w' h'; go_simp; with_reducible rfl)
  (try simp only [Act.put, List.setIfInBounds_toArray, List.set_cons_zero, List.set_cons_succ])
  refine any_call (i := 5) rfl (by kernel_rfl) (by rfl) 17 #[.int .i64 me] ?x8 (num_any _ _) ?_
  case x8 => (simp [go_sem])
  (try simp only [Act.put, List.setIfInBounds_toArray, List.set_cons_zero, List.set_cons_succ])
  rintro e w' ⟨rfl, rfl⟩
  refine ⟨_, rfl, hS, ?_⟩
  (try simp only [Act.put, List.setIfInBounds_toArray, List.set_cons_zero, List.set_cons_succ])
  refine any_take (i := 7) (v := .bool true) rfl (by kernel_rfl) (by kernel_rfl) (by kernel_rfl) (fun _ _ _ h => h) hS (yi_val (by rfl) (fun w' h' => ?y10)) ?_
  case y10 => first | rfl | (go_simp; done)
  (try simp only [Act.put, List.setIfInBounds_toArray, List.set_cons_zero, List.set_cons_succ])
  refine any_take (i := 8) (v := ?v12) rfl (by kernel_rfl) (by kernel_rfl) (by kernel_rfl) (fun _ _ _ h => h) hS (.inl ⟨by rfl, ?y12⟩) ?_
  case y12 => (intro w' h'; go_simp; with_reducible rfl)
  (try simp only [Act.put, List.setIfInBounds_toArray, List.set_cons_zero, List.set_cons_succ])
  refine any_take (i := 9) (v := ?v13) rfl (by kernel_rfl) (by kernel_rfl) (by kernel_rfl) (fun _ _ _ h => h) hS (.inl ⟨by rfl, ?y13⟩) ?_
  case y13 => (intro w' h'; go_simp; with_reducible rfl)
  (try simp only [Act.put, List.setIfInBounds_toArray, List.set_cons_zero, List.set_cons_succ])
  refine any_take (i := 10) rfl (by kernel_rfl) (by kernel_rfl) (by kernel_rfl) (fun _ _ _ h => h) hS (yi_row _ _ rfl (by rfl) (w.heap.size) rfl (tvv n ws) _ Try.underlying26 rfl (tr_z _ _ HL.out) (fun w' h' => ⟨_, _, h'.2.2.1⟩)) ?_
  (try simp only [Act.put, List.setIfInBounds_toArray, List.set_cons_zero, List.set_cons_succ])
  refine any_take (i := 13) rfl (by kernel_rfl) (by kernel_rfl) (by kernel_rfl) (fun _ _ _ h => h) hS (yi_row _ _ rfl (by rfl) (w.heap.size) rfl (tvv n ws) _ Try.underlying26 rfl (tr_z _ _ HL.out) (fun w' h' => ⟨_, _, h'.2.2.1⟩)) ?_
  (try simp only [Act.put, List.setIfInBounds_toArray, List.set_cons_zero, List.set_cons_succ])
  refine any_call (i := 11) rfl (by kernel_rfl) (by rfl) 18 #[.agg (tvv n ws)] ?x16 (check_any n ws HL.out hw _) ?_
  case x16 => (simp [go_sem])
  (try simp only [Act.put, List.setIfInBounds_toArray, List.set_cons_zero, List.set_cons_succ])
  rintro e w4 ⟨rfl, hb4⟩
  have hS4 := keep hb4 hS
  refine ⟨_, rfl, hS4, ?_⟩
  (try simp only [Act.put, List.setIfInBounds_toArray, List.set_cons_zero, List.set_cons_succ])
  refine any_call (i := 12) rfl (by kernel_rfl) (by rfl) 17 #[.int .i64 (chkE (goodT n ws))] ?x19 (num_any _ _) ?_
  case x19 => (simp [go_sem])
  (try simp only [Act.put, List.setIfInBounds_toArray, List.set_cons_zero, List.set_cons_succ])
  rintro e w' ⟨rfl, rfl⟩
  refine ⟨_, rfl, hS4, ?_⟩
  (try simp only [Act.put, List.setIfInBounds_toArray, List.set_cons_zero, List.set_cons_succ])
  refine any_call (i := 14) rfl (by kernel_rfl) (by rfl) 19 #[.agg (tvv n ws)] ?x21 (rcheck_any n ws HL.out hw _) ?_
  case x21 => (simp [go_sem])
  (try simp only [Act.put, List.setIfInBounds_toArray, List.set_cons_zero, List.set_cons_succ])
  rintro e w5 ⟨rfl, hb5⟩
  have hS5 := keep hb5 hS4
  refine ⟨_, rfl, hS5, ?_⟩
  (try simp only [Act.put, List.setIfInBounds_toArray, List.set_cons_zero, List.set_cons_succ])
  refine any_take (i := 15) (v := .bool true) rfl (by kernel_rfl) (by kernel_rfl) (by kernel_rfl) (fun _ _ _ h => h) hS5 (yi_val (by rfl) (fun w' h' => ?y24)) ?_
  case y24 => first | rfl | (go_simp; done)
  (try simp only [Act.put, List.setIfInBounds_toArray, List.set_cons_zero, List.set_cons_succ])
  refine any_take (i := 16) (v := ?v26) rfl (by kernel_rfl) (by kernel_rfl) (by kernel_rfl) (fun _ _ _ h => h) hS5 (.inl ⟨by rfl, ?y26⟩) ?_
  case y26 => (intro w' h'; go_simp; with_reducible rfl)
  (try simp only [Act.put, List.setIfInBounds_toArray, List.set_cons_zero, List.set_cons_succ])
  refine any_take (i := 17) (v := ?v27) rfl (by kernel_rfl) (by kernel_rfl) (by kernel_rfl) (fun _ _ _ h => h) hS5 (.inl ⟨by rfl, ?y27⟩) ?_
  case y27 => (intro w' h'; go_simp; with_reducible rfl)
  (try simp only [Act.put, List.setIfInBounds_toArray, List.set_cons_zero, List.set_cons_succ])
  refine any_take (i := 18) (v := ?v28) rfl (by kernel_rfl) (by kernel_rfl) (by kernel_rfl) (fun _ _ _ h => h) hS5 (.inl ⟨by rfl, ?y28⟩) ?_
  case y28 => (intro w' h'; go_simp; with_reducible rfl)
  (try simp only [Act.put, List.setIfInBounds_toArray, List.set_cons_zero, List.set_cons_succ])
  refine any_take (i := 19) (v := ?v29) rfl (by kernel_rfl) (by kernel_rfl) (by kernel_rfl) (fun _ _ _ h => h) hS5 (.inl ⟨by rfl, ?y29⟩) ?_
  case y29 => (intro w' h'; go_simp; with_reducible rfl)
  (try simp only [Act.put, List.setIfInBounds_toArray, List.set_cons_zero, List.set_cons_succ])
  refine any_call (i := 20) rfl (by kernel_rfl) (by rfl) 20 #[.slice B l.length d, .slice A l.length c] ?x30 (stay_any B d l A c _ hlen hS5.2.2.2.2.1 hcap hS5.2.2.2.2.2) ?_
  case x30 => (simp [go_sem])
  (try simp only [Act.put, List.setIfInBounds_toArray, List.set_cons_zero, List.set_cons_succ])
  rintro e w6 ⟨rfl, hb6⟩
  have hS6 := keep hb6 hS5
  refine ⟨_, rfl, hS6, ?_⟩
  (try simp only [Act.put, List.setIfInBounds_toArray, List.set_cons_zero, List.set_cons_succ])
  refine any_take (i := 21) (v := ?v34) rfl (by kernel_rfl) (by kernel_rfl) (by kernel_rfl) (fun _ _ _ h => h) hS6 (.inl ⟨by rfl, ?y34⟩) ?_
  case y34 => (intro w' h'; go_simp; with_reducible rfl)
  (try simp only [Act.put, List.setIfInBounds_toArray, List.set_cons_zero, List.set_cons_succ])
  refine any_take (i := 22) (v := ?v35) rfl (by kernel_rfl) (by kernel_rfl) (by kernel_rfl) (fun _ _ _ h => h) hS6 (.inl ⟨by rfl, ?y35⟩) ?_
  case y35 => (intro w' h'; go_simp; with_reducible rfl)
  (try simp only [Act.put, List.setIfInBounds_toArray, List.set_cons_zero, List.set_cons_succ])
  refine any_call (i := 23) rfl (by kernel_rfl) (by rfl) 21 #[] ?x36 (knows_any _) ?_
  case x36 => (simp [go_sem])
  (try simp only [Act.put, List.setIfInBounds_toArray, List.set_cons_zero, List.set_cons_succ])
  rintro e w7 ⟨rfl, hb7⟩
  have hS7 := keep hb7 hS6
  refine ⟨_, rfl, hS7, ?_⟩
  (try simp only [Act.put, List.setIfInBounds_toArray, List.set_cons_zero, List.set_cons_succ])
  refine any_take (i := 24) (v := ?v40) rfl (by kernel_rfl) (by kernel_rfl) (by kernel_rfl) (fun _ _ _ h => h) hS7 (.inl ⟨by rfl, ?y40⟩) ?_
  case y40 => (intro w' h'; go_simp; with_reducible rfl)
  (try simp only [Act.put, List.setIfInBounds_toArray, List.set_cons_zero, List.set_cons_succ])
  refine any_take (i := 25) (v := ?v41) rfl (by kernel_rfl) (by kernel_rfl) (by kernel_rfl) (fun _ _ _ h => h) hS7 (.inl ⟨by rfl, ?y41⟩) ?_
  case y41 => (intro w' h'; go_simp; with_reducible rfl)
  (try simp only [Act.put, List.setIfInBounds_toArray, List.set_cons_zero, List.set_cons_succ])
  refine wpAnyH_done (by kernel_rfl) ?_ _
  have HF := Lib.hid hS7.2.2.2.1
  clear hS hS4 hS5 hS6 hS7 hb4 hb5 hb6 hb7 keep
  go_wp2
  go_ret
  exact ⟨rfl, HF.out⟩
/-- In the form of the row. -/
theorem transMakes_row (w : World) (A : Option Addr) (c : Nat) (l : List Int) (hr : Kd.C (Kd.int .i64) w A l.length l) (hlen : l.length ≤ 17592186043904) (_ : ∀ x ∈ l, -9223372036854775808 ≤ x ∧ x ≤ 9223372036854775807)
    (n : Int) (ws : List Nat) (hl : ws.length = 7) (hw : Hid (∀ i, ws.getD i 0 < 18446744073709551616)) (_ : -9223372036854775808 ≤ n ∧ n ≤ 9223372036854775807) :
    Calls Try.prog 3 #[.slice A l.length c, .agg (tvv n ws)] w fun e w' => e = .returned (.bool true) ∧ Below w.heap.size w w' :=
  transMakes_any A c l n ws w hr hlen hl hw
end Go.Proofs.Ytpebnldoimoahaa
