/- The walk of the reference's Image. -/
import Derived.Test.YtpebnldoimoahaaImg
namespace Go.Proofs.Ytpebnldoimoahaa
open Go.RowKit Go.Proofs.YtpebnldoimoahaaW.PrintWords
set_option linter.unusedSimpArgs false
/-- The cell of a list's place. -/
theorem at_cell {w : World} {ad : Addr} {n : Nat} {l : List Nat} (h : Kd.C (Kd.int .i64) w (some ad) n (zl l)) (k : Nat) (hk : k < n) : w.cell? (ad.add k) = some (.int .i64 ((l.getD k 0 : Nat) : Int)) := by
  obtain ⟨ad', e, hc⟩ := Kd.at_int h k (by omega) (by omega)
  cases e
  rw [Int.toNat_natCast, zl_rd] at hc
  exact hc
theorem at_some {w : World} {A : Option Addr} {n : Nat} {l : List Nat} (h : Kd.C (Kd.int .i64) w A n (zl l)) (k : Nat) (hk : k < n) : ∃ ad, A = some ad := by
  obtain ⟨ad', e, _⟩ := Kd.at_int h k (by omega) (by omega)
  exact ⟨ad', e⟩
theorem mem_lt64 {l : List Nat} (h : ∀ i, l.getD i 0 < 64) (k : Nat) : ∀ i ∈ l.take k, i < 64 := fun i hi => by
  obtain ⟨j, hj, rfl⟩ := List.mem_iff_getElem.1 (List.mem_of_mem_take hi)
  have := h j
  simpa [List.getD_eq_getElem?_getD, List.getElem?_eq_getElem hj] using this
theorem lsT_len {b : Bool} {n : Int} {ws : List Nat} (h : goodT n ws = b) : (lsT b n.toNat ws).length = if b then n.toNat else 0 := by
  cases b <;> simp [lsT, imk_len]
theorem lsT_small {n : Int} {ws : List Nat} {b : Bool} (h : goodT n ws = b) : (lsT b n.toNat ws).length ≤ 64 := by
  cases b
  · simp [lsT]
  · have := goodT_spec h
    simp [lsT, imk_len]; omega
theorem lsT_lt (b : Bool) (n : Nat) (ws : List Nat) (i : Nat) : (lsT b n ws).getD i 0 < 64 := by
  cases b
  · simp [lsT]
  · exact imk_lt _ _ _
/-- List's answer, by names. -/
def RlR (l : List Nat) (er : Int) (w : World) (e : Ending) (w' : World) : Prop := ∃ v, e = .returned (.tuple #[v, .int .i64 er]) ∧ Own w' w.heap.size v (zl l) ∧ Below w.heap.size w w'
theorem rlist_l (n : Int) (ws : List Nat) (hl : ws.length = 7) (hw : Hid (∀ i, ws.getD i 0 < 18446744073709551616)) : ∀ w : World,
    Calls Try.prog 46 #[.agg (tvv n ws)] w (RlR (lsT (goodT n ws) n.toNat ws) (chkE (goodT n ws)) w) := fun w => rlist_any n ws hl hw w
set_option maxRecDepth 100000 in
set_option maxHeartbeats 800000 in
theorem rimage_any (n : Int) (ws : List Nat) (hl : ws.length = 7) (hw : Hid (∀ i, ws.getD i 0 < 18446744073709551616)) (w : World) :
    Calls Try.prog 48 #[.agg (tvv n ws)] w fun e w' => e = .returned (.tuple #[.agg (sv (bo (lsT (goodT n ws) n.toNat ws))), .int .i64 (chkE (goodT n ws))]) ∧ Below w.heap.size w w' := by
  have HL := Lib.hid hl; clear hl
  have HM := Lib.hid (lsT_small (n := n) (ws := ws) rfl)
  have HI := Lib.hid (lsT_lt (goodT n ws) n.toNat ws)
  have HLS := Aside0.mk (rlist_l n ws HL.out hw)
  generalize lsT (goodT n ws) n.toNat ws = l at *
  generalize chkE (goodT n ws) = er at *
  go_enter Try.func48, Try.ntmps48
  go_wp2_with (refine ld_tr w.heap.size HL.out (hp_old (hp_new rfl)) rfl _ rfl rfl ?_)
  refine (HLS.out _).mono ?_
  rintro e w1 ⟨v, rfl, ho, hb⟩
  have A2 := Lib.hid (hp_below' hb (hp_new (w := w.alloc (.cells (tvv n ws) 26)) rfl))
  rw [World.size_alloc] at A2
  have HB := Lib.hid (bl_then (bl_alloc (bl_alloc (Below.refl _ w) _) _) hb)
  obtain ⟨A, c, rfl, _, hC⟩ := own_slice l.length rfl ho
  have HC := Aside0.mk hC
  clear hb ho hC
  go_wp2
  go_loopw [7] (fun i wr => ∃ k : Nat, k ≤ l.length ∧ i = .int .i64 k ∧ Hid (wr.heap[w1.heap.size]? = some (.cells (sv (bo (l.take k))) 69 (0, 0)) ∧ Below w1.heap.size w1 wr)) (fun i _ => l.length - (intOf i).toNat)
  case atStart => exact ⟨0, by omega, rfl, Lib.hid ⟨hp_new rfl, bl_alloc (Below.refl _ _) _⟩⟩
  case round =>
    obtain ⟨k, hk, rfl, H⟩ := hrel
    have hm64 := HM.out
    by_cases hkl : k < l.length
    · obtain ⟨ad, rfl⟩ := at_some HC.out k hkl
      have HK := Lib.hid (show bo (l.take (k + 1)) = bo (l.take k) ||| 2 ^ (l.getD k 0) by rw [take_snoc hkl, bo_snoc])
      have HX := Lib.hid (bo_lt (l.take k) (mem_lt64 HI.out k))
      have HY := Lib.hid (HI.out k)
      have HCC := Lib.hid (show ∀ (wz : World), Below w1.heap.size w1 wz → wz.cell? (ad.add k) = some (.int .i64 ((l.getD k 0 : Nat) : Int)) from fun wz hb => at_cell (Kd.C_below HC.out hb) k hkl)
      generalize l.getD k 0 = y at *
      generalize bo (l.take k) = x at *
      go_wp2_with fail
      refine wp_region_held_drew (S := fun w' => Below w1.heap.size w1 w') (by kernel_rfl) H.out.2.drew (fun hS => ?_)
      refine any_take (i := 1) (v := ?v2) rfl (by kernel_rfl) (by kernel_rfl) (by kernel_rfl) (fun _ _ _ h => h) hS (.inl ⟨by rfl, ?y2⟩) ?_
      case y2 => (intro w' h'; go_simp; with_reducible rfl)
      (try simp only [Act.put, List.setIfInBounds_toArray, List.set_cons_zero, List.set_cons_succ])
      refine any_take (i := 2) (v := ?v3) rfl (by kernel_rfl) (by kernel_rfl) (by kernel_rfl) (fun _ _ _ h => h) hS (.inl ⟨by rfl, ?y3⟩) ?_
      case y3 => (intro w' h'; go_simp; with_reducible rfl)
      (try simp only [Act.put, List.setIfInBounds_toArray, List.set_cons_zero, List.set_cons_succ])
      refine any_take (i := 3) (v := .pointer (some (ad.add k))) rfl (by kernel_rfl) (by kernel_rfl) (by kernel_rfl) (fun _ _ _ h => h) hS (yi_val (by rfl) (fun w' h' => ?y4)) ?_
      case y4 => first | rfl | (go_simp; done) | (go_simp; omega)
      (try simp only [Act.put, List.setIfInBounds_toArray, List.set_cons_zero, List.set_cons_succ])
      refine any_take (i := 4) (v := .int .i64 (y : Int)) rfl (by kernel_rfl) (by kernel_rfl) (by kernel_rfl) (fun _ _ _ h => h) hS (yi_cell _ _ rfl (by rfl) (ad.add k) rfl _ Try.underlying3 rfl (fun w' h' => HCC.out w' h')) ?_
      (try simp only [Act.put, List.setIfInBounds_toArray, List.set_cons_zero, List.set_cons_succ])
      refine any_one (i := 0) rfl (by kernel_rfl) (by rfl) (wp_load_row 69 _ rfl w1.heap.size rfl _ _ _ _ (show wr.drew.heap[w1.heap.size]? = _ from H.out.1) Try.underlying69 rfl (sv_z x) ⟨hS, ?_⟩)
      (try simp only [Act.put, List.setIfInBounds_toArray, List.set_cons_zero, List.set_cons_succ])
      refine any_call (i := 5) rfl (by kernel_rfl) (by rfl) 73 #[.agg (sv x), .int .i64 (y : Int)] ?x7 (with_any x y HX.out HY.out _) ?_
      case x7 => (simp [go_sem])
      (try simp only [Act.put, List.setIfInBounds_toArray, List.set_cons_zero, List.set_cons_succ])
      rintro e w2 ⟨rfl, hb⟩
      have hS2 : Below w1.heap.size w1 w2 := bl_then hS hb
      refine ⟨_, rfl, hS2, ?_⟩
      (try simp only [Act.put, List.setIfInBounds_toArray, List.set_cons_zero, List.set_cons_succ])
      have g2 : w2.heap[w1.heap.size]? = some (.cells (sv x) 69 (0, 0)) := hp_below' hb (show wr.drew.heap[w1.heap.size]? = _ from H.out.1)
      have hS3 : Below w1.heap.size w1 (w2.setRow w1.heap.size (sv (x ||| 2 ^ y))) := bl_row hS2 (Nat.le_refl _) _
      refine any_row (i := 6) rfl (by kernel_rfl) (by rfl) _ _ _ rfl w1.heap.size (sv (x ||| 2 ^ y)) rfl rfl 69 _ g2 (sv_z _) rfl (sv_one _) hS3 ?_
      (try simp only [Act.put, List.setIfInBounds_toArray, List.set_cons_zero, List.set_cons_succ])
      refine wpAnyH_done (by kernel_rfl) ?_ _
      have G2 := Lib.hid (setRow_heap _ _ _ (sv (x ||| 2 ^ y)) _ _ g2)
      have G3 := Lib.hid hS3
      rw [← HK.out] at G2 G3
      rw [← HK.out]
      clear hS hS2 hS3 g2 hb H
      go_wp2
      go_roundw
      case rel => exact ⟨k + 1, by omega, by go_num, Lib.hid ⟨G2.out, G3.out⟩⟩
      case measure => simp [intOf]; omega
    · have : k = l.length := by omega
      subst this
      rw [List.take_length] at H
      have A3 := Lib.hid (hp_below' H.out.2 A2.out)
      go_wp2_with (first | (refine ld_sv _ rfl w1.heap.size rfl H.out.1 rfl ?_) | (refine st_sv _ _ rfl rfl (w.heap.size + 1) rfl rfl A3.out rfl ?_))
      refine bodyPost_ret (v := .tuple #[.agg (sv (bo l)), .int .i64 er]) ?_ rfl ⟨rfl, bl_row (bl_then HB.out H.out.2) (by omega) _⟩
      refine (results_cell_tmp (p := 2) (t := 3) (by rfl) _ _ (w.heap.size + 1) 69 _ _ _ ?_ (setRow_heap _ _ _ _ _ _ A3.out) Try.underlying69 rfl (sv_z _)).trans ?_ <;> rfl
end Go.Proofs.Ytpebnldoimoahaa
