/- The walk of trans.open. -/
import Derived.Test.YtpebnldoimoahaaEqT
import Derived.Test.YtpebnldoimoahaaRegion
namespace Go.Proofs.Ytpebnldoimoahaa
open Go.RowKit

def Op (w wr : World) (n : Int) (ws l : List Nat) : Prop := wr.heap[w.heap.size]? = some (.cells (tvv n ws) 26 (0, 0)) ∧ wr.heap[w.heap.size + 1 + 1]? = some (.cells (img l) 98 (0, 0)) ∧ (∃ c, wr.heap[w.heap.size + 1]? = some (.cells c 98 (0, 0)) ∧ c.size = 64) ∧ Below w.heap.size w wr
/-- What open answers: the images, and whether it is a transformation. -/
def OpenR (n : Int) (ws : List Nat) (w : World) (e : Ending) (w' : World) : Prop :=
  ∃ l, l.length = 64 ∧ e = .returned (.tuple #[.agg (img l), .bool (goodT n ws)]) ∧ (goodT n ws = true → l = ims n.toNat ws) ∧ Below w.heap.size w w'
theorem goodT_small {n : Int} {ws : List Nat} (h : ¬ (1 ≤ n ∧ n ≤ 64)) : goodT n ws = false := by
  unfold goodT
  by_cases h1 : 1 ≤ n
  · rw [decide_eq_false (p := n ≤ 64) (by omega)]; simp
  · rw [decide_eq_false h1]; simp
theorem goodT_point {n k : Nat} {ws : List Nat} (hk : k < n) (h : n ≤ im ws k) : goodT n ws = false := by
  unfold goodT
  have : (List.range (n : Int).toNat).all (fun i => decide (im ws i < (n : Int).toNat)) = false := by
    rw [Bool.eq_false_iff]
    intro hh
    rw [List.all_eq_true] at hh
    have := hh k (by simp; omega)
    simp at this; omega
  rw [this]; simp
theorem goodT_all {n : Nat} {ws : List Nat} (h0 : 1 ≤ n) (h1 : n ≤ 64) (h : ∀ i, i < n → im ws i < n) : goodT n ws = decide (pks (ims n ws) n = ws) := by
  unfold goodT
  rw [decide_eq_true (p := (1 : Int) ≤ n) (by omega), decide_eq_true (p := (n : Int) ≤ 64) (by omega), Int.toNat_natCast]
  have : (List.range n).all (fun i => decide (im ws i < n)) = true := by
    rw [List.all_eq_true]; intro i hi; simp at hi; simpa using h i hi
  rw [this]; simp
set_option maxHeartbeats 800000 in
set_option maxRecDepth 100000 in
theorem open_in (n : Nat) (ws : List Nat) (h0 : 1 ≤ n) (h1 : n ≤ 64) (hl : ws.length = 7) (hw : Hid (∀ i, ws.getD i 0 < 18446744073709551616)) (w : World) :
    Calls Try.prog 55 #[.agg (tvv n ws)] w (OpenR n ws w) := by
  have HL := Lib.hid hl; clear hl
  have hz : ∀ l : List Nat, l.length = 64 → (Try.prog.info? 98).map (·.size) = some (img l).size := fun l h => by rw [img_size, h]; kernel_rfl
  have HZ := Lib.hid hz; clear hz
  have z := tvv_zero n ws
  go_enter Try.func55, Try.ntmps55
  go_wp2
  go_loopw [17] (fun i wr => ∃ k : Nat, k ≤ n ∧ i = .int .i64 k ∧ Hid (∀ i, i < k → im ws i < n) ∧ Op w wr n ws (ims k ws)) (fun i _ => n - (intOf i).toNat)
  case atStart =>
    refine ⟨0, by omega, rfl, Lib.hid (by omega), ?_⟩
    rw [ims_zero]
    exact ⟨hp_old (hp_old (hp_new rfl)), hp_new (by simp), ⟨_, hp_old (hp_new (by simp)), rfl⟩, by repeat (first | exact Below.refl _ _ | refine bl_alloc ?_ _)⟩
  case round =>
    obtain ⟨k, hk, rfl, HI, H⟩ := hrel
    have c0 : wr.cell? ⟨w.heap.size, 0, none⟩ = some (.int .i64 n) := by
      rw [cell_of_row _ _ _ _ _ _ H.1, tvv_zero]
    by_cases hlt : k < n
    · have hk64 : k < 64 := by omega
      have c1 : wr.cell? ⟨w.heap.size, 1 + k / 10, none⟩ = some (.int .u64 ((ws.getD (k / 10) 0 : Nat) : Int)) := by
        rw [cell_of_row _ _ _ _ _ _ H.1, tvv_get _ _ _ (by rw [HL.out]; omega)]
      have f1 : wr.frozen? ⟨w.heap.size + 1 + 1, k, none⟩ = false := frozen_of_row _ _ _ _ _ H.2.1
      have c2 : wr.cell? ⟨w.heap.size + 1 + 1, k, none⟩ = some (.int .i64 0) := by
        rw [cell_of_row _ _ _ _ _ _ H.2.1, img_get _ _ (by rw [ims_len]; omega), ims_getD, if_neg (by omega)]; rfl
      have hv : bits .and .u64 (((ws.getD (k / 10) 0 : Nat) : Int) / 2 ^ (6 * (k % 10))) 63 = ((im ws k : Nat) : Int) := shr_in _ _ (hw.out _)
      have hi1 : im ws k < 64 := im_lt ws k
      have H2 : Op w (wr.setCell ⟨w.heap.size + 1 + 1, k, none⟩ (.int .i64 ((im ws k : Nat) : Int))).drew n ws (ims (k + 1) ws) := by
        obtain ⟨g1, g2, ⟨c, g3, g3'⟩, g4⟩ := H
        refine ⟨hp_cell (by simp; omega) g1, ?_, ⟨c, hp_cell (by simp) g3, g3'⟩, (bl_cell g4 (by simp; omega) _).drew⟩
        rw [heap_drew, heap_setCell_same _ _ _ _ _ _ g2, img_set, ims_set k ws]
      clear H
      have H2 := Lib.hid H2
      have HP : Hid (n ≤ im ws k → goodT n ws = false) := Lib.hid (goodT_point hlt)
      have HN : Hid (im ws k < n → ∀ i, i < k + 1 → im ws i < n) := Lib.hid (fun h i hi => by
        by_cases e : i = k
        · subst e; exact h
        · exact HI.out i (by omega))
      generalize im ws k = y at *
      generalize ws.getD (k / 10) 0 = x at *
      by_cases hyn : y < n
      · have hd : decide ((n : Int) ≤ y) = false := by simp; omega
        go_wp2
        go_region
        go_wp2
        go_roundw
        case rel => exact ⟨k+1, by omega, by go_num, Lib.hid (HN.out hyn), H2.out⟩
        case measure => simp [intOf]; omega
      · have hd : decide ((n : Int) ≤ y) = true := by simp; omega
        obtain ⟨g1, g2, ⟨c, g3, g3'⟩, g4⟩ := H2.out
        have G2 := Lib.hid g2; have G3 := Lib.hid g3; have G3' := Lib.hid g3'; have G4 := Lib.hid g4
        clear g1 g2 g3 g3' g4
        go_wp2
        go_region
        go_wp2_with (first | (refine wpList_load_row rfl 98 _ rfl (w.heap.size+1+1) rfl 98 _ _ _ G2.out Try.underlying98 rfl (HZ.out _ (ims_len _ _)) ?_) | (refine wpList_store_row rfl 98 _ _ rfl (w.heap.size+1) _ rfl rfl 98 c G3.out (HZ.out _ (ims_len _ _)) (by rw [G3'.out, img_size, ims_len]) (img_one _) ?_))
        refine bodyPost_ret (v := .tuple #[.agg (img (ims (k + 1) ws)), .bool false]) ?_ rfl ⟨ims (k + 1) ws, ims_len _ _, by rw [HP.out (by omega)], fun h => absurd h (by rw [HP.out (by omega)]; simp), bl_row G4.out (by omega) _⟩
        refine (results_cell_tmp (p := 2) (t := 3) (by rfl) _ _ (w.heap.size + 1) 98 _ _ _ ?_ (setRow_heap _ _ c _ _ _ G3.out) Try.underlying98 rfl (HZ.out _ (ims_len _ _))).trans ?_ <;> rfl
    · have : k = n := by omega
      subst this
      obtain ⟨g1, g2, ⟨c, g3, g3'⟩, g4⟩ := H
      have G1 := Lib.hid g1; have G2 := Lib.hid g2; have G3 := Lib.hid g3; have G3' := Lib.hid g3'; have G4 := Lib.hid g4
      clear g1 g2 g3 g3' g4
      have ht : ∀ n (l : List Nat), l.length = 7 → (Try.prog.info? 26).map (·.size) = some (tvv n l).size := fun n l h => by rw [tvv_size, h]; kernel_rfl
      go_wp2_with fail
      refine wp_region_held_drew (S := fun w' => w'.heap[w.heap.size]? = some (.cells (tvv k ws) 26 (0, 0)) ∧ w'.heap[w.heap.size + 1 + 1]? = some (.cells (img (ims k ws)) 98 (0, 0)) ∧ (∃ c, w'.heap[w.heap.size + 1]? = some (.cells c 98 (0, 0)) ∧ c.size = 64) ∧ Below w.heap.size w w') (by kernel_rfl) ⟨G1.out, G2.out, ⟨c, G3.out, G3'.out⟩, G4.out.drew⟩ (fun hS => ?_)
      refine any_take (i := 0) rfl (by kernel_rfl) (by kernel_rfl) (by kernel_rfl) (fun _ _ _ h => h) hS (yi_row _ _ rfl rfl (w.heap.size + 1 + 1) rfl (img (ims k ws)) _ Try.underlying98 rfl (HZ.out _ (ims_len _ _)) (fun w' h' => ⟨_, _, h'.2.1⟩)) ?_
      (try simp only [Act.put, List.setIfInBounds_toArray, List.set_cons_zero, List.set_cons_succ])
      refine any_take (i := 3) rfl (by kernel_rfl) (by kernel_rfl) (by kernel_rfl) (fun _ _ _ h => h) hS (yi_row _ _ rfl rfl (w.heap.size + 1 + 1) rfl (img (ims k ws)) _ Try.underlying98 rfl (HZ.out _ (ims_len _ _)) (fun w' h' => ⟨_, _, h'.2.1⟩)) ?_
      (try simp only [Act.put, List.setIfInBounds_toArray, List.set_cons_zero, List.set_cons_succ])
      refine any_take (i := 1) (v := .pointer (some ⟨w.heap.size, 0, none⟩)) rfl (by kernel_rfl) (by kernel_rfl) (by kernel_rfl) (fun _ _ _ h => h) hS (.inl ⟨by rfl, fun w' h' => ?c1⟩) ?_
      (try simp only [Act.put, List.setIfInBounds_toArray, List.set_cons_zero, List.set_cons_succ])
      case c1 => go_simp
      refine any_take (i := 2) (v := .int .i64 k) rfl (by kernel_rfl) (by kernel_rfl) (by kernel_rfl) (fun _ _ _ h => h) hS (yi_cell _ _ rfl rfl ⟨w.heap.size, 0, none⟩ rfl _ Try.underlying3 rfl (fun w' h' => (cell_of_row _ _ _ _ _ _ h'.1).trans (tvv_zero _ _))) ?_
      (try simp only [Act.put, List.setIfInBounds_toArray, List.set_cons_zero, List.set_cons_succ])
      refine any_take (i := 5) rfl (by kernel_rfl) (by kernel_rfl) (by kernel_rfl) (fun _ _ _ h => h) hS (yi_row _ _ rfl rfl w.heap.size rfl (tvv k ws) _ Try.underlying26 rfl (ht _ _ HL.out) (fun w' h' => ⟨_, _, h'.1⟩)) ?_
      (try simp only [Act.put, List.setIfInBounds_toArray, List.set_cons_zero, List.set_cons_succ])
      refine any_call (i := 4) rfl (by kernel_rfl) rfl 53 #[.int .i64 k, .agg (img (ims k ws))] ?c2 (pack_any k (ims k ws) h1 (ims_len _ _) (ims_lt _ _) _) ?_
      case c2 => simp [go_sem]
      (try simp only [Act.put, List.setIfInBounds_toArray, List.set_cons_zero, List.set_cons_succ])
      rintro e w2 ⟨rfl, hb⟩
      have hS2 : w2.heap[w.heap.size]? = some (.cells (tvv k ws) 26 (0, 0)) ∧ w2.heap[w.heap.size + 1 + 1]? = some (.cells (img (ims k ws)) 98 (0, 0)) ∧ (∃ c, w2.heap[w.heap.size + 1]? = some (.cells c 98 (0, 0)) ∧ c.size = 64) ∧ Below w.heap.size w w2 :=
        ⟨hp_below' hb hS.1, hp_below' hb hS.2.1, ⟨c, hp_below' hb G3.out, G3'.out⟩, bl_trans hS.2.2.2 (Nat.le_of_lt (hp_lt hS.1)) hb⟩
      refine ⟨_, rfl, hS2, ?_⟩
      refine any_take (i := 6) (v := .bool (goodT k ws)) rfl (by kernel_rfl) (by kernel_rfl) (by kernel_rfl) (fun _ _ _ h => h) hS2 (yi_bin _ _ _ _ _ rfl rfl (fun w' h' => ⟨?c3, ?c4⟩)) ?_
      (try simp only [Act.put, List.setIfInBounds_toArray, List.set_cons_zero, List.set_cons_succ])
      case c3 => exact run_eqGuard_agg w' .eql 26 _ _ _ _ (by kernel_rfl)
      case c4 =>
        have h4 := run_eqT w' k k (pks (ims k ws) k) ws (pks_len _ _) HL.out
        refine Eq.trans h4 ?_
        rw [goodT_all h0 h1 HI.out]
        simp
      obtain ⟨c', gc, gc'⟩ := hS2.2.2.1
      have hS3 : (w2.setRow (w.heap.size + 1) (img (ims k ws))).heap[w.heap.size]? = some (.cells (tvv k ws) 26 (0, 0)) ∧ (w2.setRow (w.heap.size + 1) (img (ims k ws))).heap[w.heap.size + 1 + 1]? = some (.cells (img (ims k ws)) 98 (0, 0)) ∧ (∃ c, (w2.setRow (w.heap.size + 1) (img (ims k ws))).heap[w.heap.size + 1]? = some (.cells c 98 (0, 0)) ∧ c.size = 64) ∧ Below w.heap.size w (w2.setRow (w.heap.size + 1) (img (ims k ws))) :=
        ⟨hp_row (by omega) hS2.1, hp_row (by omega) hS2.2.1, ⟨_, setRow_heap _ _ c' _ _ _ gc, by rw [img_size, ims_len]⟩, bl_row hS2.2.2.2 (by omega) _⟩
      refine any_row (i := 7) rfl (by kernel_rfl) rfl _ _ _ rfl (w.heap.size + 1) (img (ims k ws)) rfl rfl 98 c' gc (HZ.out _ (ims_len _ _)) (by rw [gc', img_size, ims_len]) (img_one _) hS3 ?_
      refine any_val (i := 8) rfl (by kernel_rfl) rfl hS3 rfl ?_
      refine wpAnyH_done (by kernel_rfl) ?_ _
      go_wp2
      refine bodyPost_ret (v := .tuple #[.agg (img (ims k ws)), .bool (goodT k ws)]) ?_ rfl ⟨_, ims_len _ _, rfl, fun _ => rfl, hS3.2.2.2⟩
      refine (results_cell_tmp (p := 2) (t := 3) (by rfl) _ _ (w.heap.size + 1) 98 _ _ _ ?_ (setRow_heap _ _ c' _ _ _ gc) Try.underlying98 rfl (HZ.out _ (ims_len _ _))).trans ?_ <;> rfl
end Go.Proofs.Ytpebnldoimoahaa
