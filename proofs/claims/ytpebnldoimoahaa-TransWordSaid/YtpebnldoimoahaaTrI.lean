/- The walk of trans.Compose. -/
import Derived.Test.YtpebnldoimoahaaTrH
namespace Go.Proofs.Ytpebnldoimoahaa
open Go.RowKit Go.Proofs.YtpebnldoimoahaaW.PrintWords
set_option linter.unusedSimpArgs false
/-- What Compose answers. -/
def cmpT (n : Int) (ws : List Nat) (m : Int) (vs : List Nat) : Int × List Nat × Int :=
  if (goodT n ws && goodT m vs) = true then
    (if n = m then (n, pks (bhd n.toNat (ims n.toNat ws) (ims m.toNat vs)) n.toNat, 0) else (0, List.replicate 7 0, 1))
  else (0, List.replicate 7 0, 130)
theorem bhd_lt {k : Nat} {a b : List Nat} (ha : ∀ i, a.getD i 0 < 64) (hb : ∀ i, b.getD i 0 < 64) (i : Nat) : (bhd k a b).getD i 0 < 64 := by
  by_cases h : i < 64
  · simp only [bhd, List.getD_eq_getElem?_getD, List.getElem?_map, List.getElem?_range h, Option.map_some, Option.getD_some]
    split
    · rw [← List.getD_eq_getElem?_getD]; exact hb _
    · rw [← List.getD_eq_getElem?_getD]; exact ha _
  · rw [List.getD_eq_getElem?_getD, List.getElem?_eq_none (by rw [bhd_len]; omega)]; decide
theorem cmpT_len (n : Int) (ws : List Nat) (m : Int) (vs : List Nat) : (cmpT n ws m vs).2.1.length = 7 := by
  unfold cmpT; split
  · split
    · exact pks_len _ _
    · simp
  · simp
set_option maxRecDepth 100000 in
set_option maxHeartbeats 2000000 in
theorem compose_any (n : Int) (ws : List Nat) (m : Int) (vs : List Nat) (hl : ws.length = 7) (hw : Hid (∀ i, ws.getD i 0 < 18446744073709551616)) (kl : vs.length = 7) (kw : Hid (∀ i, vs.getD i 0 < 18446744073709551616)) (w : World) :
    Calls Try.prog 25 #[.agg (tvv n ws), .agg (tvv m vs)] w fun e w' => e = .returned (.tuple #[.agg (tvv (cmpT n ws m vs).1 (cmpT n ws m vs).2.1), .int .i64 (cmpT n ws m vs).2.2]) ∧ Below w.heap.size w w' := by
  have HL := Lib.hid hl; have KL := Lib.hid kl; clear hl kl
  have HZ := Lib.hid (tvv_zero n ws)
  have KZ := Lib.hid (tvv_zero m vs)
  go_enter Try.func25, Try.ntmps25
  go_wp2_with (refine ld_tr w.heap.size HL.out (hp_old (hp_old (hp_new rfl))) rfl _ rfl rfl ?_)
  refine (open_any n ws HL.out hw _).mono ?_
  rintro e w1 ⟨l1, hl1, rfl, hi1, hb⟩
  have HL1 := Lib.hid hl1; have HI1 := Lib.hid hi1
  have A1 := Lib.hid (hp_below' hb (hp_old (hp_old (hp_new (w := w) (o := .cells (tvv n ws) 26) rfl))))
  have A2 := Lib.hid (hp_below' hb (hp_old (hp_new (w := w.alloc (.cells (tvv n ws) 26)) (o := .cells (tvv m vs) 26) rfl)))
  have A3 := Lib.hid (hp_below' hb (hp_new (w := (w.alloc (.cells (tvv n ws) 26)).alloc (.cells (tvv m vs) 26)) rfl))
  have HW := Lib.hid (bl_then (bl_alloc (bl_alloc (bl_alloc (Below.refl _ w) _) _) _) hb)
  rw [World.size_alloc] at A2
  rw [World.size_alloc, World.size_alloc] at A3
  clear hb hi1 hl1
  have B1 := Lib.hid (hp_old (o := .cells (img l1) 98) A1.out)
  have B2 := Lib.hid (hp_old (o := .cells (img l1) 98) A2.out)
  go_wp2_with (first | (refine st_im_new HL1.out rfl rfl _ _ rfl rfl rfl ?_) | (refine ld_tr (w.heap.size + 1) KL.out B2.out rfl _ rfl rfl ?_))
  refine (open_any m vs KL.out kw _).mono ?_
  rintro e w2 ⟨l2, hl2, rfl, hi2, hb⟩
  have HL2 := Lib.hid hl2; have HI2 := Lib.hid hi2
  have C1 := Lib.hid (hp_old (o := .cells (img l2) 98) (hp_below' hb B1.out))
  have C2 := Lib.hid (hp_old (o := .cells (img l2) 98) (hp_below' hb B2.out))
  have C3 := Lib.hid (hp_old (o := .cells (img l2) 98) (hp_below' hb (hp_old (o := .cells (img l1) 98) A3.out)))
  have C4 := Lib.hid (hp_old (o := .cells (img l2) 98) (hp_below' hb (hp_new (w := w1) (o := .cells (img l1) 98) rfl)))
  have C5 := Lib.hid (hp_new (w := w2) (o := .cells (img l2) 98) rfl)
  have HW2 := Lib.hid (bl_alloc (bl_then (bl_alloc HW.out (.cells (img l1) 98)) hb) (.cells (img l2) 98))
  clear hb hl2 hi2 HW A1 A2 A3 B1 B2
  have D1 : (w2.alloc (.cells (img l2) 98)).cell? ⟨w.heap.size, 0, none⟩ = some (.int .i64 n) := by rw [cell_of_row _ _ _ _ _ _ C1.out, HZ.out]
  have D2 : (w2.alloc (.cells (img l2) 98)).cell? ⟨w.heap.size + 1, 0, none⟩ = some (.int .i64 m) := by rw [cell_of_row _ _ _ _ _ _ C2.out, KZ.out]
  generalize hb1 : goodT n ws = b1 at *
  generalize hb2 : goodT m vs = b2 at *
  have HB1 := Lib.hid hb1; have HB2 := Lib.hid hb2
  clear hb1 hb2
  have HE : Hid (∀ r : Bool, (b1 && b2) = r → r = false → cmpT n ws m vs = (0, List.replicate 7 0, 130)) := Lib.hid (fun r h1 h2 => by
    unfold cmpT; rw [HB1.out, HB2.out, h1, h2]; rfl)
  by_cases hb : (b1 && b2) = true
  · have HF : Hid (n ≠ m → cmpT n ws m vs = (0, List.replicate 7 0, 1)) := Lib.hid (fun h => by
      unfold cmpT; rw [HB1.out, HB2.out, if_pos hb, if_neg h])
    have HG : Hid (n = m → cmpT n ws m vs = (n, pks (bhd n.toNat (ims n.toNat ws) (ims m.toNat vs)) n.toNat, 0)) := Lib.hid (fun h => by
      unfold cmpT; rw [HB1.out, HB2.out, if_pos hb, if_pos h])
    simp only [Bool.and_eq_true] at hb
    obtain ⟨rfl, rfl⟩ := hb
    obtain ⟨hn1, hn64, _, _⟩ := goodT_spec HB1.out
    by_cases hnm : n = m
    · subst hnm
      obtain ⟨k, rfl⟩ := Int.eq_ofNat_of_zero_le (show 0 ≤ n by omega)
      rw [Int.toNat_natCast] at *
      obtain rfl := HI1.out rfl
      obtain rfl := HI2.out rfl
      have hk : k ≤ 64 := by omega
      have hne : ((k : Int) != (k : Int)) = false := by simp
      clear hn1 hn64
      go_wp2_with (refine st_im_new HL2.out rfl rfl _ _ rfl rfl rfl ?_)
      have hlt1 : ∀ i, (ims k ws).getD i 0 < 64 := ims_lt _ _
      have hlt2 : ∀ i, (ims k vs).getD i 0 < 64 := ims_lt _ _
      have HLT1 := Lib.hid hlt1; have HLT2 := Lib.hid hlt2
      clear hlt1 hlt2
      have HX := Lib.hid (HG.out (by first | rfl | trivial))
      clear HG HF HE
      generalize ims k ws = L at *
      generalize ims k vs = M at *
      refine wp_region_held_drew (S := fun w' => w'.heap[w.heap.size]? = some (.cells (tvv k ws) 26 (0, 0)) ∧ w'.heap[w1.heap.size]? = some (.cells (img L) 98 (0, 0)) ∧ w'.heap[w2.heap.size]? = some (.cells (img M) 98 (0, 0)) ∧ (∃ c, w'.heap[w.heap.size + 1 + 1]? = some (.cells c 26 (0, 0)) ∧ c.size = 8) ∧ Below w.heap.size w w') (by kernel_rfl) ⟨C1.out, C4.out, C5.out, ⟨_, C3.out, rfl⟩, HW2.out.drew⟩ (fun hS => ?_)
      refine any_take (i := 0) (v := .pointer (some ⟨w.heap.size, 0, none⟩)) rfl (by kernel_rfl) (by kernel_rfl) (by kernel_rfl) (fun _ _ _ h => h) hS (yi_val (by rfl) (fun w' h' => ?y1)) ?_
      case y1 => first | rfl | (go_simp; done) | (go_simp; omega)
      (try simp only [Act.put, List.setIfInBounds_toArray, List.set_cons_zero, List.set_cons_succ])
      refine any_take (i := 2) (v := .pointer (some ⟨w.heap.size, 0, none⟩)) rfl (by kernel_rfl) (by kernel_rfl) (by kernel_rfl) (fun _ _ _ h => h) hS (yi_val (by rfl) (fun w' h' => ?y2)) ?_
      case y2 => first | rfl | (go_simp; done) | (go_simp; omega)
      (try simp only [Act.put, List.setIfInBounds_toArray, List.set_cons_zero, List.set_cons_succ])
      refine any_take (i := 1) (v := .int .i64 k) rfl (by kernel_rfl) (by kernel_rfl) (by kernel_rfl) (fun _ _ _ h => h) hS (yi_cell _ _ rfl (by rfl) ⟨w.heap.size, 0, none⟩ rfl _ Try.underlying3 rfl (fun w' h' => (cell_of_row _ _ _ _ _ _ h'.1).trans (tvv_zero _ _))) ?_
      (try simp only [Act.put, List.setIfInBounds_toArray, List.set_cons_zero, List.set_cons_succ])
      refine any_take (i := 3) (v := .int .i64 k) rfl (by kernel_rfl) (by kernel_rfl) (by kernel_rfl) (fun _ _ _ h => h) hS (yi_cell _ _ rfl (by rfl) ⟨w.heap.size, 0, none⟩ rfl _ Try.underlying3 rfl (fun w' h' => (cell_of_row _ _ _ _ _ _ h'.1).trans (tvv_zero _ _))) ?_
      (try simp only [Act.put, List.setIfInBounds_toArray, List.set_cons_zero, List.set_cons_succ])
      refine any_take (i := 4) rfl (by kernel_rfl) (by kernel_rfl) (by kernel_rfl) (fun _ _ _ h => h) hS (yi_row _ _ rfl (by rfl) (w1.heap.size) rfl (img L) _ Try.underlying98 rfl (im_z _ HL1.out) (fun w' h' => ⟨_, _, h'.2.1⟩)) ?_
      (try simp only [Act.put, List.setIfInBounds_toArray, List.set_cons_zero, List.set_cons_succ])
      refine any_take (i := 5) rfl (by kernel_rfl) (by kernel_rfl) (by kernel_rfl) (fun _ _ _ h => h) hS (yi_row _ _ rfl (by rfl) (w2.heap.size) rfl (img M) _ Try.underlying98 rfl (im_z _ HL2.out) (fun w' h' => ⟨_, _, h'.2.2.1⟩)) ?_
      (try simp only [Act.put, List.setIfInBounds_toArray, List.set_cons_zero, List.set_cons_succ])
      refine any_call (i := 6) rfl (by kernel_rfl) (by rfl) 58 #[.int .i64 k, .agg (img L), .agg (img M)] ?x7 (behind_any k L M hk HL1.out HL2.out HLT1.out _) ?_
      case x7 => (simp [go_sem])
      (try simp only [Act.put, List.setIfInBounds_toArray, List.set_cons_zero, List.set_cons_succ])
      rintro e w3 ⟨rfl, hb3⟩
      have hS3 : w3.heap[w.heap.size]? = some (.cells (tvv k ws) 26 (0, 0)) ∧ w3.heap[w1.heap.size]? = some (.cells (img L) 98 (0, 0)) ∧ w3.heap[w2.heap.size]? = some (.cells (img M) 98 (0, 0)) ∧ (∃ c, w3.heap[w.heap.size + 1 + 1]? = some (.cells c 26 (0, 0)) ∧ c.size = 8) ∧ Below w.heap.size w w3 :=
        ⟨hp_below' hb3 hS.1, hp_below' hb3 hS.2.1, hp_below' hb3 hS.2.2.1, ⟨_, hp_below' hb3 C3.out, rfl⟩, bl_then hS.2.2.2.2 hb3⟩
      refine ⟨_, rfl, hS3, ?_⟩
      (try simp only [Act.put, List.setIfInBounds_toArray, List.set_cons_zero, List.set_cons_succ])
      refine any_call (i := 7) rfl (by kernel_rfl) (by rfl) 53 #[.int .i64 k, .agg (img (bhd k L M))] ?x10 (pack_any k (bhd k L M) hk (bhd_len _ _ _) (bhd_lt HLT1.out HLT2.out) _) ?_
      case x10 => (simp [go_sem])
      (try simp only [Act.put, List.setIfInBounds_toArray, List.set_cons_zero, List.set_cons_succ])
      rintro e w4 ⟨rfl, hb4⟩
      have hC4 := hp_below' hb4 (hp_below' hb3 C3.out)
      have hS4 : w4.heap[w.heap.size]? = some (.cells (tvv k ws) 26 (0, 0)) ∧ w4.heap[w1.heap.size]? = some (.cells (img L) 98 (0, 0)) ∧ w4.heap[w2.heap.size]? = some (.cells (img M) 98 (0, 0)) ∧ (∃ c, w4.heap[w.heap.size + 1 + 1]? = some (.cells c 26 (0, 0)) ∧ c.size = 8) ∧ Below w.heap.size w w4 :=
        ⟨hp_below' hb4 hS3.1, hp_below' hb4 hS3.2.1, hp_below' hb4 hS3.2.2.1, ⟨_, hC4, rfl⟩, bl_then hS3.2.2.2.2 hb4⟩
      refine ⟨_, rfl, hS4, ?_⟩
      (try simp only [Act.put, List.setIfInBounds_toArray, List.set_cons_zero, List.set_cons_succ])
      have hne1 : w1.heap.size ≠ w.heap.size + 1 + 1 := by
        intro e
        have h1 := hS4.2.1
        rw [e, hC4] at h1
        simp at h1
      have hne2 : w2.heap.size ≠ w.heap.size + 1 + 1 := by
        intro e
        have h1 := hS4.2.2.1
        rw [e, hC4] at h1
        simp at h1
      have hS5 : (w4.setRow (w.heap.size + 1 + 1) (tvv k (pks (bhd k L M) k))).heap[w.heap.size]? = some (.cells (tvv k ws) 26 (0, 0)) ∧ (w4.setRow (w.heap.size + 1 + 1) (tvv k (pks (bhd k L M) k))).heap[w1.heap.size]? = some (.cells (img L) 98 (0, 0)) ∧ (w4.setRow (w.heap.size + 1 + 1) (tvv k (pks (bhd k L M) k))).heap[w2.heap.size]? = some (.cells (img M) 98 (0, 0)) ∧ (∃ c, (w4.setRow (w.heap.size + 1 + 1) (tvv k (pks (bhd k L M) k))).heap[w.heap.size + 1 + 1]? = some (.cells c 26 (0, 0)) ∧ c.size = 8) ∧ Below w.heap.size w (w4.setRow (w.heap.size + 1 + 1) (tvv k (pks (bhd k L M) k))) :=
        ⟨hp_row (by omega) hS4.1, hp_row hne1 hS4.2.1, hp_row hne2 hS4.2.2.1, ⟨_, setRow_heap _ _ _ _ _ _ hC4, by rw [tvv_size, pks_len]⟩, bl_row hS4.2.2.2.2 (by omega) _⟩
      refine any_row (i := 8) rfl (by kernel_rfl) (by rfl) _ _ _ rfl (w.heap.size + 1 + 1) (tvv k (pks (bhd k L M) k)) rfl rfl 26 _ hC4 (tr_z _ _ (pks_len _ _)) (by rw [tvv_size, pks_len]; rfl) (tvv_one _ _) hS5 ?_
      (try simp only [Act.put, List.setIfInBounds_toArray, List.set_cons_zero, List.set_cons_succ])
      refine any_val (i := 9) rfl (by kernel_rfl) (by rfl) hS5 rfl ?_
      (try simp only [Act.put, List.setIfInBounds_toArray, List.set_cons_zero, List.set_cons_succ])
      refine wpAnyH_done (by kernel_rfl) ?_ _
      have HF5 := Lib.hid hS5.2.2.2.2
      have HC4 := Lib.hid hC4
      clear hS hS3 hS4 hS5 hb3 hb4 hC4 hne1 hne2
      go_wp2
      refine bodyPost_ret (v := .tuple #[.agg (tvv k (pks (bhd k L M) k)), .int .i64 0]) ?_ rfl ⟨by rw [HX.out], HF5.out⟩
      refine (results_cell_tmp (p := 4) (t := 5) (by rfl) _ _ (w.heap.size + 1 + 1) 26 _ _ _ ?_ (setRow_heap _ _ _ _ _ _ HC4.out) Try.underlying26 rfl (tr_z _ _ (pks_len _ _))).trans ?_ <;> rfl
    · have hne : (n != m) = true := by rw [bne_iff_ne]; exact hnm
      have HX := Lib.hid (HF.out hnm)
      clear hnm HG HF HE
      go_wp2_with (first | (refine st_im_new HL2.out rfl rfl _ _ rfl rfl rfl ?_) | (refine st_tr (w.heap.size + 1 + 1) (n := 0) (l := List.replicate 7 0) (by simp) C3.out rfl rfl _ _ rfl rfl rfl ?_))
      refine bodyPost_ret (v := .tuple #[.agg (tvv 0 (List.replicate 7 0)), .int .i64 1]) ?_ rfl ⟨by rw [HX.out], bl_row HW2.out (by omega) _⟩
      refine (results_cell_tmp (p := 4) (t := 5) (by rfl) _ _ (w.heap.size + 1 + 1) 26 _ _ _ ?_ (setRow_heap _ _ _ _ _ _ C3.out) Try.underlying26 rfl (tr_z _ _ (by simp))).trans ?_ <;> rfl
  · have HX := Lib.hid (HE.out _ rfl (by simpa using hb))
    have hor : (!b1 || !b2) = true := by cases b1 <;> cases b2 <;> simp_all
    clear hb HE
    cases b1 <;> cases b2 <;>
    first
    | (exact absurd hor (by decide))
    | (go_wp2_with (first | (refine st_im_new HL2.out rfl rfl _ _ rfl rfl rfl ?_) | (refine st_tr (w.heap.size + 1 + 1) (n := 0) (l := List.replicate 7 0) (by simp) C3.out rfl rfl _ _ rfl rfl rfl ?_))
       refine bodyPost_ret (v := .tuple #[.agg (tvv 0 (List.replicate 7 0)), .int .i64 130]) ?_ rfl ⟨by rw [HX.out], bl_row HW2.out (by omega) _⟩
       refine (results_cell_tmp (p := 4) (t := 5) (by rfl) _ _ (w.heap.size + 1 + 1) 26 _ _ _ ?_ (setRow_heap _ _ _ _ _ _ C3.out) Try.underlying26 rfl (tr_z _ _ (by simp))).trans ?_ <;> rfl)
end Go.Proofs.Ytpebnldoimoahaa
