/- The walk of the reference's Compose. -/
import Derived.Test.YtpebnldoimoahaaRfE
namespace Go.Proofs.Ytpebnldoimoahaa
open Go.RowKit Go.Proofs.YtpebnldoimoahaaW.PrintWords
set_option linter.unusedSimpArgs false
theorem imk_getD (k : Nat) (ws : List Nat) (i : Nat) (h : i < k) : (imk k ws).getD i 0 = im ws i := by simp [imk, List.getD_eq_getElem?_getD, h]
theorem imk_lt (k : Nat) (ws : List Nat) (i : Nat) : (imk k ws).getD i 0 < 64 := by
  by_cases h : i < k
  · rw [imk_getD _ _ _ h]; exact im_lt _ _
  · rw [List.getD_eq_getElem?_getD, List.getElem?_eq_none (by simp [imk]; omega)]; decide
/-- First l, then m. -/
def thn (l m : List Nat) : List Nat := l.map fun x => m.getD x 0
theorem thn_len (l m : List Nat) : (thn l m).length = l.length := by simp [thn]
theorem thn_getD (l m : List Nat) (i : Nat) (h : i < l.length) : (thn l m).getD i 0 = m.getD (l.getD i 0) 0 := by
  simp [thn, List.getD_eq_getElem?_getD, List.getElem?_eq_getElem h]
theorem thn_lt {l m : List Nat} (hm : ∀ i, m.getD i 0 < 64) (i : Nat) : (thn l m).getD i 0 < 64 := by
  by_cases h : i < l.length
  · rw [thn_getD _ _ _ h]; exact hm _
  · rw [List.getD_eq_getElem?_getD, List.getElem?_eq_none (by rw [thn_len]; omega)]; decide
/-- then, the lengths by other names. -/
theorem then_at (A : Option Addr) (c : Nat) (l : List Nat) (B : Option Addr) (d : Nat) (m : List Nat) (k j : Nat) (hk : l.length = k) (hj : m.length = j) (hn : k ≤ 1000000) (hlt : ∀ i, i < k → l.getD i 0 < j) (w : World)
    (hA : Kd.C (Kd.int .i64) w A k (zl l)) (hB : Kd.C (Kd.int .i64) w B j (zl m)) :
    Calls Try.prog 60 #[.slice A k c, .slice B j d] w fun e w' => ∃ v, e = .returned v ∧ Own w' w.heap.size v (zl (thn l m)) ∧ Below w.heap.size w w' := by
  subst hk hj
  exact then_any A c l B d m hn hlt w hA hB
theorem imk_len' (k : Nat) (ws : List Nat) : (imk k ws).length = k := imk_len k ws
/-- The product by lists is the product by images. -/
theorem thn_bhd {k : Nat} {ws vs : List Nat} (hk : k ≤ 64) (h : ∀ i, i < k → im ws i < k) : pks (thn (imk k ws) (imk k vs)) k = pks (bhd k (ims k ws) (ims k vs)) k :=
  pks_ext _ _ _ fun i hi => by
    have h1 : i < 64 := by omega
    have h2 := h i hi
    rw [thn_getD _ _ _ (by rw [imk_len]; exact hi), imk_getD _ _ _ hi, imk_getD _ _ _ h2]
    simp only [bhd, List.getD_eq_getElem?_getD, List.getElem?_map, List.getElem?_range h1, Option.map_some, Option.getD_some, if_pos hi]
    rw [← List.getD_eq_getElem?_getD, ← List.getD_eq_getElem?_getD, ims_getD k ws i, if_pos ⟨hi, h1⟩, ims_getD, if_pos ⟨h2, by omega⟩]
set_option maxRecDepth 100000 in
set_option maxHeartbeats 2000000 in
theorem rcompose_any (n : Int) (ws : List Nat) (m : Int) (vs : List Nat) (hl : ws.length = 7) (hw : Hid (∀ i, ws.getD i 0 < 18446744073709551616)) (kl : vs.length = 7) (kw : Hid (∀ i, vs.getD i 0 < 18446744073709551616)) (w : World) :
    Calls Try.prog 28 #[.agg (tvv n ws), .agg (tvv m vs)] w fun e w' => e = .returned (.tuple #[.agg (tvv (cmpT n ws m vs).1 (cmpT n ws m vs).2.1), .int .i64 (cmpT n ws m vs).2.2]) ∧ Below w.heap.size w w' := by
  have HL := Lib.hid hl; have KL := Lib.hid kl; clear hl kl
  have HZ := Lib.hid (tvv_zero n ws)
  have KZ := Lib.hid (tvv_zero m vs)
  go_enter Try.func28, Try.ntmps28
  go_wp2_with (refine ld_tr w.heap.size HL.out (hp_old (hp_old (hp_new rfl))) rfl _ rfl rfl ?_)
  refine (rcheck_any n ws HL.out hw _).mono ?_
  rintro e w1 ⟨rfl, hb⟩
  have A1 := Lib.hid (hp_below' hb (hp_old (hp_old (hp_new (w := w) (o := .cells (tvv n ws) 26) rfl))))
  have A2 := Lib.hid (hp_below' hb (hp_old (hp_new (w := w.alloc (.cells (tvv n ws) 26)) (o := .cells (tvv m vs) 26) rfl)))
  have A3 := Lib.hid (hp_below' hb (hp_new (w := (w.alloc (.cells (tvv n ws) 26)).alloc (.cells (tvv m vs) 26)) rfl))
  have HW := Lib.hid (bl_then (bl_alloc (bl_alloc (bl_alloc (Below.refl _ w) _) _) _) hb)
  rw [World.size_alloc] at A2
  rw [World.size_alloc, World.size_alloc] at A3
  clear hb
  generalize hb1 : goodT n ws = b1 at *
  have HB1 := Lib.hid hb1
  clear hb1
  cases b1 with
  | false =>
    have HX : Hid (cmpT n ws m vs = (0, List.replicate 7 0, 130)) := Lib.hid (by unfold cmpT; rw [HB1.out]; rfl)
    go_wp2_with (refine st_tr (w.heap.size + 1 + 1) (n := 0) (l := List.replicate 7 0) (by simp) A3.out rfl rfl _ _ rfl rfl rfl ?_)
    refine bodyPost_ret (v := .tuple #[.agg (tvv 0 (List.replicate 7 0)), .int .i64 130]) ?_ rfl ⟨by rw [HX.out], bl_row HW.out (by omega) _⟩
    refine (results_cell_tmp (p := 4) (t := 5) (by rfl) _ _ (w.heap.size + 1 + 1) 26 _ _ _ ?_ (setRow_heap _ _ _ _ _ _ A3.out) Try.underlying26 rfl (tr_z _ _ (by simp))).trans ?_ <;> rfl
  | true =>
    go_wp2_with (refine ld_tr (w.heap.size + 1) KL.out A2.out rfl _ rfl rfl ?_)
    refine (rcheck_any m vs KL.out kw _).mono ?_
    rintro e w2 ⟨rfl, hb⟩
    have B1 := Lib.hid (hp_below' hb A1.out)
    have B2 := Lib.hid (hp_below' hb A2.out)
    have B3 := Lib.hid (hp_below' hb A3.out)
    have HW2 := Lib.hid (bl_then HW.out hb)
    clear hb A1 A2 A3 HW
    have D1 : w2.cell? ⟨w.heap.size, 0, none⟩ = some (.int .i64 n) := by rw [cell_of_row _ _ _ _ _ _ B1.out, HZ.out]
    have D2 : w2.cell? ⟨w.heap.size + 1, 0, none⟩ = some (.int .i64 m) := by rw [cell_of_row _ _ _ _ _ _ B2.out, KZ.out]
    generalize hb2 : goodT m vs = b2 at *
    have HB2 := Lib.hid hb2
    clear hb2
    cases b2 with
    | false =>
      have HX : Hid (cmpT n ws m vs = (0, List.replicate 7 0, 130)) := Lib.hid (by unfold cmpT; rw [HB1.out, HB2.out]; rfl)
      go_wp2_with (refine st_tr (w.heap.size + 1 + 1) (n := 0) (l := List.replicate 7 0) (by simp) B3.out rfl rfl _ _ rfl rfl rfl ?_)
      refine bodyPost_ret (v := .tuple #[.agg (tvv 0 (List.replicate 7 0)), .int .i64 130]) ?_ rfl ⟨by rw [HX.out], bl_row HW2.out (by omega) _⟩
      refine (results_cell_tmp (p := 4) (t := 5) (by rfl) _ _ (w.heap.size + 1 + 1) 26 _ _ _ ?_ (setRow_heap _ _ _ _ _ _ B3.out) Try.underlying26 rfl (tr_z _ _ (by simp))).trans ?_ <;> rfl
    | true =>
      by_cases hnm : n = m
      · subst hnm
        obtain ⟨hn1, hn64, hin, _⟩ := goodT_spec HB1.out
        obtain ⟨hn1', hn64', hin', _⟩ := goodT_spec HB2.out
        obtain ⟨k, rfl⟩ := Int.eq_ofNat_of_zero_le (show 0 ≤ n by omega)
        have hk : k ≤ 64 := by omega
        rw [Int.toNat_natCast] at hin hin'
        have HX : Hid (cmpT k ws k vs = ((k : Int), pks (thn (imk k ws) (imk k vs)) k, 0)) := Lib.hid (by
          unfold cmpT; rw [HB1.out, HB2.out, if_pos (show (true && true) = true from rfl), if_pos rfl, Int.toNat_natCast, thn_bhd hk hin])
        have HI := Lib.hid hin
        have hne : ((k : Int) != (k : Int)) = false := by simp
        clear hn1 hn64 hn1' hn64' hin hin'
        go_wp2_with fail
        refine wp_region_held_drew (S := fun w' => w'.heap[w.heap.size]? = some (.cells (tvv k ws) 26 (0, 0)) ∧ w'.heap[w.heap.size + 1]? = some (.cells (tvv k vs) 26 (0, 0)) ∧ (∃ c, w'.heap[w.heap.size + 1 + 1]? = some (.cells c 26 (0, 0)) ∧ c.size = 8) ∧ Below w.heap.size w w') (by kernel_rfl) ⟨B1.out, B2.out, ⟨_, B3.out, rfl⟩, HW2.out.drew⟩ (fun hS => ?_)
        have keep : ∀ {u v : World}, Below u.heap.size u v → (u.heap[w.heap.size]? = some (.cells (tvv k ws) 26 (0, 0)) ∧ u.heap[w.heap.size + 1]? = some (.cells (tvv k vs) 26 (0, 0)) ∧ (∃ c, u.heap[w.heap.size + 1 + 1]? = some (.cells c 26 (0, 0)) ∧ c.size = 8) ∧ Below w.heap.size w u) → (v.heap[w.heap.size]? = some (.cells (tvv k ws) 26 (0, 0)) ∧ v.heap[w.heap.size + 1]? = some (.cells (tvv k vs) 26 (0, 0)) ∧ (∃ c, v.heap[w.heap.size + 1 + 1]? = some (.cells c 26 (0, 0)) ∧ c.size = 8) ∧ Below w.heap.size w v) :=
          fun hb ⟨h1, h2, ⟨c, h3, h3'⟩, h4⟩ => ⟨hp_below' hb h1, hp_below' hb h2, ⟨c, hp_below' hb h3, h3'⟩, bl_then h4 hb⟩
        refine any_take (i := 0) rfl (by kernel_rfl) (by kernel_rfl) (by kernel_rfl) (fun _ _ _ h => h) hS (yi_row _ _ rfl (by rfl) (w.heap.size) rfl (tvv k ws) _ Try.underlying26 rfl (tr_z _ _ HL.out) (fun w' h' => ⟨_, _, h'.1⟩)) ?_
        (try simp only [Act.put, List.setIfInBounds_toArray, List.set_cons_zero, List.set_cons_succ])
        refine any_take (i := 2) rfl (by kernel_rfl) (by kernel_rfl) (by kernel_rfl) (fun _ _ _ h => h) hS (yi_row _ _ rfl (by rfl) (w.heap.size + 1) rfl (tvv k vs) _ Try.underlying26 rfl (tr_z _ _ KL.out) (fun w' h' => ⟨_, _, h'.2.1⟩)) ?_
        (try simp only [Act.put, List.setIfInBounds_toArray, List.set_cons_zero, List.set_cons_succ])
        refine any_call (i := 1) rfl (by kernel_rfl) (by rfl) 56 #[.agg (tvv k ws)] ?x3 (images_any k ws hk HL.out hw _) ?_
        case x3 => (simp [go_sem])
        (try simp only [Act.put, List.setIfInBounds_toArray, List.set_cons_zero, List.set_cons_succ])
        rintro e w3 ⟨v3, rfl, ho3, hb3⟩
        obtain ⟨X, xc, rfl, _, hX⟩ := own_slice k (imk_len _ _) ho3
        have hS3 := keep hb3 hS
        refine ⟨_, rfl, hS3, ?_⟩
        (try simp only [Act.put, List.setIfInBounds_toArray, List.set_cons_zero, List.set_cons_succ])
        refine any_call (i := 3) rfl (by kernel_rfl) (by rfl) 56 #[.agg (tvv k vs)] ?x6 (images_any k vs hk KL.out kw _) ?_
        case x6 => (simp [go_sem])
        (try simp only [Act.put, List.setIfInBounds_toArray, List.set_cons_zero, List.set_cons_succ])
        rintro e w4 ⟨v4, rfl, ho4, hb4⟩
        obtain ⟨Y, yc, rfl, _, hY⟩ := own_slice k (imk_len _ _) ho4
        have hX4 := Kd.C_below hX hb4
        have hS4 := keep hb4 hS3
        refine ⟨_, rfl, hS4, ?_⟩
        (try simp only [Act.put, List.setIfInBounds_toArray, List.set_cons_zero, List.set_cons_succ])
        refine any_call (i := 4) rfl (by kernel_rfl) (by rfl) 60 #[.slice X k xc, .slice Y k yc] ?x9 (then_at X xc (imk k ws) Y yc (imk k vs) k k (imk_len _ _) (imk_len _ _) (by omega) (fun i hi => by rw [imk_getD _ _ _ hi]; exact HI.out i hi) _ hX4 hY) ?_
        case x9 => (simp [go_sem])
        (try simp only [Act.put, List.setIfInBounds_toArray, List.set_cons_zero, List.set_cons_succ])
        rintro e w5 ⟨v5, rfl, ho5, hb5⟩
        obtain ⟨Z, zc, rfl, _, hZ⟩ := own_slice k (by rw [thn_len, imk_len]) ho5
        have hS5 := keep hb5 hS4
        refine ⟨_, rfl, hS5, ?_⟩
        (try simp only [Act.put, List.setIfInBounds_toArray, List.set_cons_zero, List.set_cons_succ])
        refine any_call (i := 5) rfl (by kernel_rfl) (by rfl) 54 #[.slice Z k zc] ?x12 (packed_at Z zc (thn (imk k ws) (imk k vs)) k (by rw [thn_len, imk_len]) _ hZ hk (thn_lt (imk_lt _ _))) ?_
        case x12 => (simp [go_sem])
        (try simp only [Act.put, List.setIfInBounds_toArray, List.set_cons_zero, List.set_cons_succ])
        rintro e w6 ⟨rfl, hb6⟩
        have hS6 := keep hb6 hS5
        refine ⟨_, rfl, hS6, ?_⟩
        (try simp only [Act.put, List.setIfInBounds_toArray, List.set_cons_zero, List.set_cons_succ])
        generalize pks (thn (imk k ws) (imk k vs)) k = ps at *
        have hps : ps.length = 7 := by have := cmpT_len k ws k vs; rw [HX.out] at this; exact this
        obtain ⟨q1, q2, ⟨c, q3, q3'⟩, q4⟩ := hS6
        have hS7 : (w6.setRow (w.heap.size + 1 + 1) (tvv k ps)).heap[w.heap.size]? = some (.cells (tvv k ws) 26 (0, 0)) ∧ (w6.setRow (w.heap.size + 1 + 1) (tvv k ps)).heap[w.heap.size + 1]? = some (.cells (tvv k vs) 26 (0, 0)) ∧ (∃ c, (w6.setRow (w.heap.size + 1 + 1) (tvv k ps)).heap[w.heap.size + 1 + 1]? = some (.cells c 26 (0, 0)) ∧ c.size = 8) ∧ Below w.heap.size w (w6.setRow (w.heap.size + 1 + 1) (tvv k ps)) :=
          ⟨hp_row (by omega) q1, hp_row (by omega) q2, ⟨_, setRow_heap _ _ _ _ _ _ q3, by rw [tvv_size, hps]⟩, bl_row q4 (by omega) _⟩
        refine any_row (i := 6) rfl (by kernel_rfl) (by rfl) _ _ _ rfl (w.heap.size + 1 + 1) (tvv k ps) rfl rfl 26 _ q3 (tr_z _ _ hps) (by rw [tvv_size, hps, q3']) (tvv_one _ _) hS7 ?_
        (try simp only [Act.put, List.setIfInBounds_toArray, List.set_cons_zero, List.set_cons_succ])
        refine any_val (i := 7) rfl (by kernel_rfl) (by rfl) hS7 rfl ?_
        (try simp only [Act.put, List.setIfInBounds_toArray, List.set_cons_zero, List.set_cons_succ])
        refine wpAnyH_done (by kernel_rfl) ?_ _
        have HF := Lib.hid hS7.2.2.2
        have HC := Lib.hid q3
        have HPS := Lib.hid hps
        clear hS hS3 hS4 hS5 hS7 hb3 hb4 hb5 hb6 ho3 ho4 ho5 hX hY hZ hX4 q1 q2 q3 q3' q4 hps keep
        go_wp2
        refine bodyPost_ret (v := .tuple #[.agg (tvv k ps), .int .i64 0]) ?_ rfl ⟨by rw [HX.out], HF.out⟩
        refine (results_cell_tmp (p := 4) (t := 5) (by rfl) _ _ (w.heap.size + 1 + 1) 26 _ _ _ ?_ (setRow_heap _ _ _ _ _ _ HC.out) Try.underlying26 rfl (tr_z _ _ HPS.out)).trans ?_ <;> rfl
      · have hne : (n != m) = true := by rw [bne_iff_ne]; exact hnm
        have HX : Hid (cmpT n ws m vs = (0, List.replicate 7 0, 1)) := Lib.hid (by unfold cmpT; rw [HB1.out, HB2.out, if_pos (show (true && true) = true from rfl), if_neg hnm])
        clear hnm
        go_wp2_with (refine st_tr (w.heap.size + 1 + 1) (n := 0) (l := List.replicate 7 0) (by simp) B3.out rfl rfl _ _ rfl rfl rfl ?_)
        refine bodyPost_ret (v := .tuple #[.agg (tvv 0 (List.replicate 7 0)), .int .i64 1]) ?_ rfl ⟨by rw [HX.out], bl_row HW2.out (by omega) _⟩
        refine (results_cell_tmp (p := 4) (t := 5) (by rfl) _ _ (w.heap.size + 1 + 1) 26 _ _ _ ?_ (setRow_heap _ _ _ _ _ _ B3.out) Try.underlying26 rfl (tr_z _ _ (by simp))).trans ?_ <;> rfl
end Go.Proofs.Ytpebnldoimoahaa
