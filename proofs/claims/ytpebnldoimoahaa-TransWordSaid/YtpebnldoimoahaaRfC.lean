/- The walks of the reference's Make and Check. -/
import Derived.Test.YtpebnldoimoahaaRfB
namespace Go.Proofs.Ytpebnldoimoahaa
open Go.RowKit Go.Proofs.YtpebnldoimoahaaW.PrintWords
theorem zl_nats {l : List Int} (h : ∀ i, i < l.length → 0 ≤ l.getD i 0) : zl (nats l) = l := by
  unfold zl nats
  rw [List.map_map]
  apply List.ext_getElem (by simp)
  intro i h1 h2
  have := h i h2
  simp [List.getD_eq_getElem?_getD, List.getElem?_eq_getElem h2] at this
  simp; omega
theorem nats_len (l : List Int) : (nats l).length = l.length := by simp [nats]
theorem nats_lt {l : List Int} (hl : l.length ≤ 64) (h : ∀ i, i < l.length → 0 ≤ l.getD i 0 ∧ l.getD i 0 < l.length) (i : Nat) : (nats l).getD i 0 < 64 := by
  by_cases hi : i < l.length
  · have := h i hi
    simp [nats, List.getD_eq_getElem?_getD, List.getElem?_eq_getElem hi] at this ⊢
    omega
  · simp [nats, List.getD_eq_getElem?_getD, List.getElem?_eq_none (Nat.le_of_not_lt hi)]
set_option maxRecDepth 100000 in
set_option maxHeartbeats 800000 in
theorem rmake_any (A : Option Addr) (c : Nat) (l : List Int) (w : World) (hr : Kd.C (Kd.int .i64) w A l.length l) :
    Calls Try.prog 16 #[.slice A l.length c] w fun e w' => e = .returned (.tuple #[.agg (tvv (makeT l).1 (makeT l).2.1), .int .i64 (makeT l).2.2]) ∧ Below w.heap.size w w' := by
  have HR := Aside0.mk hr
  clear hr
  by_cases hs : l.length < 1 ∨ 64 < l.length
  · rw [makeT_size hs]
    have HS := Lib.hid hs; clear hs
    have hd2 : (decide ((l.length : Int) < 1) || decide (64 < (l.length : Int))) = true := by
      have := HS.out; simp; omega
    go_enter Try.func16, Try.ntmps16
    go_wp2_with (refine st_tr w.heap.size (n := 0) (l := List.replicate 7 0) (by simp) (hp_new rfl) rfl rfl _ _ rfl rfl rfl ?_)
    all_goals
      refine bodyPost_ret (v := .tuple #[.agg (tvv 0 (List.replicate 7 0)), .int .i64 6]) ?_ rfl ⟨rfl, bl_row (bl_alloc (Below.refl _ _) _) (by omega) _⟩
      refine (results_cell_tmp (p := 2) (t := 3) (by rfl) _ _ w.heap.size 26 _ _ _ ?_ (setRow_heap _ _ _ _ _ _ (hp_new rfl)) Try.underlying26 rfl (tr_z _ _ (by simp))).trans ?_ <;> rfl
  · have hmax : l.length ≤ 64 := by omega
    have hmin : 1 ≤ l.length := by omega
    have HS := Lib.hid hs; clear hs
    go_enter Try.func16, Try.ntmps16
    go_wp2
    go_loopw [4] (fun i wr => ∃ k : Nat, k ≤ l.length ∧ i = .int .i64 k ∧ Hid (∀ i, i < k → 0 ≤ l.getD i 0 ∧ l.getD i 0 < l.length) ∧ Hid ((∃ c, wr.heap[w.heap.size]? = some (.cells c 26 (0, 0)) ∧ c.size = 8) ∧ Below w.heap.size w wr)) (fun i _ => l.length - (intOf i).toNat)
    case atStart =>
      exact ⟨0, by omega, rfl, Lib.hid (by omega), Lib.hid ⟨⟨_, hp_new rfl, rfl⟩, bl_alloc (Below.refl _ _) _⟩⟩
    case round =>
      obtain ⟨k, hk, rfl, HI, H⟩ := hrel
      obtain ⟨⟨c1, g1, g1'⟩, g3⟩ := H.out
      have G1 := Lib.hid g1; have G1' := Lib.hid g1'; have G3 := Lib.hid g3
      clear g1 g1' g3
      by_cases hlt : k < l.length
      · obtain ⟨ad, rfl, hcell⟩ := Kd.at_int (Kd.C_below HR.out G3.out) k (by omega) (by omega)
        rw [Int.toNat_natCast] at hcell
        have HX := Lib.hid (show rd l k = l.getD k 0 by unfold rd; rw [Int.toNat_natCast])
        by_cases hp : 0 ≤ rd l k ∧ rd l k < l.length
        · obtain ⟨hp0, hp1⟩ := hp
          have hd1 : decide (rd l k < 0) = false := by simp; omega
          have hd2 : decide ((l.length : Int) ≤ rd l k) = false := by simp; omega
          have HI2 : Hid (∀ i, i < k + 1 → 0 ≤ l.getD i 0 ∧ l.getD i 0 < l.length) := Lib.hid (fun i hi => by
            by_cases e : i = k
            · subst e; rw [← HX.out]; exact ⟨hp0, hp1⟩
            · exact HI.out i (by omega))
          generalize rd l k = p at *
          go_wp2
          go_roundw
          case rel => exact ⟨k+1, by omega, by go_num, HI2, H⟩
          case measure => simp [intOf]; omega
        · have hd : (decide (rd l k < 0) || decide ((l.length : Int) ≤ rd l k)) = true := by simp; omega
          have HB := Lib.hid (makeT_bad HS.out k hlt (by rw [← HX.out]; exact hp))
          clear hp
          generalize rd l k = p at *
          go_wp2_with (refine st_tr w.heap.size (n := 0) (l := List.replicate 7 0) (by simp) G1.out G1'.out rfl _ _ rfl rfl rfl ?_)
          all_goals
            refine bodyPost_ret (v := .tuple #[.agg (tvv 0 (List.replicate 7 0)), .int .i64 11]) ?_ rfl ⟨by rw [HB.out], bl_row G3.out (by omega) _⟩
            refine (results_cell_tmp (p := 2) (t := 3) (by rfl) _ _ w.heap.size 26 _ _ _ ?_ (setRow_heap _ _ _ _ _ _ G1.out) Try.underlying26 rfl (tr_z _ _ (by simp))).trans ?_ <;> rfl
      · have : k = l.length := by omega
        subst this
        have HG := Lib.hid (makeT_good HS.out HI.out)
        have HN := Lib.hid (nats_len l)
        go_wp2_with fail
        have hcall := packed_any A c (nats l) wr (by rw [zl_len, nats_len, zl_nats (fun i hi => (HI.out i hi).1)]; exact Kd.C_below HR.out G3.out) (by rw [nats_len]; exact hmax) (nats_lt hmax HI.out)
        rw [nats_len] at hcall
        refine hcall.mono ?_
        clear hcall
        rintro e w2 ⟨rfl, hb⟩
        have HB := Lib.hid hb
        clear hb
        have G4 := Lib.hid (hp_below' HB.out G1.out)
        have G5 := Lib.hid (bl_then G3.out HB.out)
        go_wp2_with (refine st_tr w.heap.size (n := l.length) (l := pks (nats l) l.length) (pks_len _ _) G4.out G1'.out rfl _ _ rfl rfl rfl ?_)
        refine bodyPost_ret (v := .tuple #[.agg (tvv l.length (pks (nats l) l.length)), .int .i64 0]) ?_ rfl ⟨by rw [HG.out], bl_row G5.out (by omega) _⟩
        refine (results_cell_tmp (p := 2) (t := 3) (by rfl) _ _ w.heap.size 26 _ _ _ ?_ (setRow_heap _ _ _ _ _ _ G4.out) Try.underlying26 rfl (tr_z _ _ (pks_len _ _))).trans ?_ <;> rfl
set_option maxRecDepth 100000 in
set_option maxHeartbeats 800000 in
theorem rcheck_in (n : Nat) (ws : List Nat) (h0 : 1 ≤ n) (h1 : n ≤ 64) (hl : ws.length = 7) (hw : Hid (∀ i, ws.getD i 0 < 18446744073709551616)) (w : World) :
    Calls Try.prog 19 #[.agg (tvv n ws)] w fun e w' => e = .returned (.int .i64 (chkE (goodT n ws))) ∧ Below w.heap.size w w' := by
  have HL := Lib.hid hl; clear hl
  have z := tvv_zero n ws
  go_enter Try.func19, Try.ntmps19
  go_wp2_with (refine ld_tr w.heap.size HL.out (hp_new rfl) rfl _ rfl rfl ?_)
  refine (images_any n ws h1 HL.out hw _).mono ?_
  rintro e w1 ⟨v, rfl, ho, hb⟩
  have HO := Aside0.mk ho
  have HB := Lib.hid hb
  clear ho hb
  have HT := Lib.hid (hp_below' HB.out (hp_new (w := w) (o := .cells (tvv n ws) 26) rfl))
  have HBB := Lib.hid (bl_trans (bl_alloc (Below.refl _ w) (.cells (tvv n ws) 26)) (by simp) HB.out)
  obtain ⟨A, c, rfl, hlc, hC⟩ := Kd.R_reads HO.out
  rw [zl_len, imk_len] at *
  have HC := Aside0.mk hC
  clear hC HB
  go_wp2
  go_loopw [4] (fun i wr => ∃ k : Nat, k ≤ n ∧ i = .int .i64 k ∧ Hid (∀ i, i < k → im ws i < n) ∧ Hid (wr.heap[w.heap.size]? = some (.cells (tvv n ws) 26 (0, 0)) ∧ Below w.heap.size w wr ∧ Kd.C (Kd.int .i64) wr A n (zl (imk n ws)))) (fun i _ => n - (intOf i).toNat)
  case atStart => exact ⟨0, by omega, rfl, Lib.hid (by omega), Lib.hid ⟨HT.out, HBB.out, HC.out⟩⟩
  case round =>
    obtain ⟨k, hk, rfl, HI, H⟩ := hrel
    have c0 : wr.cell? ⟨w.heap.size, 0, none⟩ = some (.int .i64 n) := by rw [cell_of_row _ _ _ _ _ _ H.out.1, tvv_zero]
    by_cases hkl : k < n
    · obtain ⟨ad, rfl, hcell⟩ := Kd.at_int H.out.2.2 k (by omega) (by omega)
      rw [Int.toNat_natCast, zl_rd] at hcell
      have HX := Lib.hid (show (imk n ws).getD k 0 = im ws k by simp [imk, List.getD_eq_getElem?_getD, hkl])
      rw [HX.out] at hcell
      have HP : Hid (n ≤ im ws k → goodT n ws = false) := Lib.hid (goodT_point hkl)
      have HN : Hid (im ws k < n → ∀ i, i < k + 1 → im ws i < n) := Lib.hid (fun h i hi => by
        by_cases e : i = k
        · subst e; exact h
        · exact HI.out i (by omega))
      clear HX
      have hi1 : im ws k < 64 := im_lt ws k
      generalize im ws k = y at *
      by_cases hyn : y < n
      · have hd : decide ((n : Int) ≤ y) = false := by simp; omega
        go_wp2
        go_quiet (fail)
        go_wp2
        go_roundw
        case rel => exact ⟨k+1, by omega, by go_num, Lib.hid (HN.out hyn), Lib.hid ⟨H.out.1, bl_drewN H.out.2.1 _, Kd.C_drewN H.out.2.2 _⟩⟩
        case measure => simp [intOf]; omega
      · have hd : decide ((n : Int) ≤ y) = true := by simp; omega
        go_wp2
        go_quiet (fail)
        go_wp2
        go_ret
        exact ⟨by rw [HP.out (by omega)]; rfl, bl_drewN H.out.2.1 _⟩
    · have : k = n := by omega
      subst this
      have HGA := Lib.hid (goodT_all h0 h1 HI.out)
      generalize hgb : goodT k ws = b at *
      have HGB := Lib.hid hgb; clear hgb
      go_wp2_with fail
      refine wp_region_held_drew (S := fun w' => w'.heap[w.heap.size]? = some (.cells (tvv k ws) 26 (0, 0)) ∧ Below w.heap.size w w' ∧ Kd.C (Kd.int .i64) w' A k (zl (imk k ws))) (by kernel_rfl) ⟨H.out.1, H.out.2.1.drew, Kd.C_drew H.out.2.2⟩ (fun hS => ?_)
      refine any_take (i := 0) (v := .slice A k c) rfl (by kernel_rfl) (by kernel_rfl) (by kernel_rfl) (fun _ _ _ h => h) hS (yi_val rfl (fun w' _ => rfl)) ?_
      (try simp only [Act.put, List.setIfInBounds_toArray, List.set_cons_zero, List.set_cons_succ])
      refine any_take (i := 2) rfl (by kernel_rfl) (by kernel_rfl) (by kernel_rfl) (fun _ _ _ h => h) hS (yi_row _ _ rfl rfl w.heap.size rfl (tvv k ws) _ Try.underlying26 rfl (tr_z _ _ HL.out) (fun w' h' => ⟨_, _, h'.1⟩)) ?_
      (try simp only [Act.put, List.setIfInBounds_toArray, List.set_cons_zero, List.set_cons_succ])
      have hcall := packed_any A c (imk k ws) wr.drew (by rw [zl_len, imk_len]; exact hS.2.2) (by rw [imk_len]; exact h1) (fun i => by
        by_cases hi : i < k
        · simp [imk, List.getD_eq_getElem?_getD, hi]; exact im_lt _ _
        · simp [imk, List.getD_eq_getElem?_getD, hi])
      rw [imk_len] at hcall
      refine any_call (i := 1) rfl (by kernel_rfl) rfl 54 #[.slice A k c] ?c2 hcall ?_
      case c2 => simp [go_sem]
      (try simp only [Act.put, List.setIfInBounds_toArray, List.set_cons_zero, List.set_cons_succ])
      rintro e w2 ⟨rfl, hb⟩
      refine ⟨_, rfl, ⟨hp_below' hb hS.1, bl_then hS.2.1 hb, Kd.C_below hS.2.2 hb⟩, ?_⟩
      have hpk : pks (imk k ws) k = pks (ims k ws) k := pks_ext _ _ _ fun i hi => by
        rw [ims_getD, if_pos (by omega)]; simp [imk, List.getD_eq_getElem?_getD, hi]
      refine any_take (i := 3) (v := .bool (!b)) rfl (by kernel_rfl) (by kernel_rfl) (by kernel_rfl) (fun _ _ _ h => h) ⟨hp_below' hb hS.1, bl_then hS.2.1 hb, Kd.C_below hS.2.2 hb⟩ (yi_bin _ _ _ _ _ rfl rfl (fun w' h' => ⟨?c3, ?c4⟩)) ?_
      case c3 => exact run_eqGuard_agg w' .neq 26 _ _ _ _ (by kernel_rfl)
      case c4 =>
        refine Eq.trans (run_neT w' k k (pks (imk k ws) k) ws (pks_len _ _) HL.out) ?_
        rw [hpk, HGA.out]
        simp
      (try simp only [Act.put, List.setIfInBounds_toArray, List.set_cons_zero, List.set_cons_succ])
      refine wpAnyH_done (by kernel_rfl) ?_ _
      have HB2 := Lib.hid (bl_then hS.2.1 hb)
      clear hS hb hpk hcall
      cases b <;>
      · go_wp2
        go_ret
        exact ⟨by rw [HGB.out]; rfl, HB2.out⟩
theorem rcheck_any (n : Int) (ws : List Nat) (hl : ws.length = 7) (hw : Hid (∀ i, ws.getD i 0 < 18446744073709551616)) (w : World) :
    Calls Try.prog 19 #[.agg (tvv n ws)] w fun e w' => e = .returned (.int .i64 (chkE (goodT n ws))) ∧ Below w.heap.size w w' := by
  by_cases h : 1 ≤ n ∧ n ≤ 64
  · obtain ⟨m, rfl⟩ := Int.eq_ofNat_of_zero_le (show 0 ≤ n by omega)
    exact rcheck_in m ws (by omega) (by omega) hl hw w
  · have HG := Lib.hid (goodT_small (n := n) (ws := ws) h)
    have hd : (decide (n < 1) || decide (64 < n)) = true := by simp; omega
    have z := tvv_zero n ws
    clear h
    go_enter Try.func19, Try.ntmps19
    go_wp2
    all_goals
      go_ret
      exact ⟨by rw [HG.out]; rfl, bl_alloc (Below.refl _ _) _⟩
end Go.Proofs.Ytpebnldoimoahaa
