/- trans.open and trans.Check at whatever packed value. -/
import Derived.Test.YtpebnldoimoahaaTrC
namespace Go.Proofs.Ytpebnldoimoahaa
open Go.RowKit
theorem zeros_img : (#[.int .i64 0, .int .i64 0, .int .i64 0, .int .i64 0, .int .i64 0, .int .i64 0, .int .i64 0, .int .i64 0, .int .i64 0, .int .i64 0, .int .i64 0, .int .i64 0, .int .i64 0, .int .i64 0, .int .i64 0, .int .i64 0, .int .i64 0, .int .i64 0, .int .i64 0, .int .i64 0, .int .i64 0, .int .i64 0, .int .i64 0, .int .i64 0, .int .i64 0, .int .i64 0, .int .i64 0, .int .i64 0, .int .i64 0, .int .i64 0, .int .i64 0, .int .i64 0, .int .i64 0, .int .i64 0, .int .i64 0, .int .i64 0, .int .i64 0, .int .i64 0, .int .i64 0, .int .i64 0, .int .i64 0, .int .i64 0, .int .i64 0, .int .i64 0, .int .i64 0, .int .i64 0, .int .i64 0, .int .i64 0, .int .i64 0, .int .i64 0, .int .i64 0, .int .i64 0, .int .i64 0, .int .i64 0, .int .i64 0, .int .i64 0, .int .i64 0, .int .i64 0, .int .i64 0, .int .i64 0, .int .i64 0, .int .i64 0, .int .i64 0, .int .i64 0] : Array Value) = img (List.replicate 64 0) := by rfl
set_option maxRecDepth 100000 in
set_option maxHeartbeats 800000 in
theorem open_out (n : Int) (ws : List Nat) (hn : n < 1 ∨ 64 < n) (w : World) :
    Calls Try.prog 55 #[.agg (tvv n ws)] w (OpenR n ws w) := by
  have hz : ∀ l : List Nat, l.length = 64 → (Try.prog.info? 98).map (·.size) = some (img l).size := fun l h => by rw [img_size, h]; kernel_rfl
  have HZ := Lib.hid hz; clear hz
  have HG := Lib.hid (goodT_small (n := n) (ws := ws) (by omega))
  have z := tvv_zero n ws
  have hd : (decide (n < 1) || decide (64 < n)) = true := by simp; omega
  go_enter Try.func55, Try.ntmps55
  go_wp2_with (first | (refine wpList_load_row rfl 98 _ rfl (w.heap.size+1+1) rfl 98 (img (List.replicate 64 0)) _ _ (hp_new (by simp)) Try.underlying98 rfl (HZ.out _ (by simp)) ?_) | (refine wpList_store_row rfl 98 _ _ rfl (w.heap.size+1) (img (List.replicate 64 0)) rfl rfl 98 (img (List.replicate 64 0)) (hp_old (hp_new (by simp))) (HZ.out _ (by simp)) rfl (img_one _) ?_))
  all_goals
    refine bodyPost_ret (v := .tuple #[.agg (img (List.replicate 64 0)), .bool false]) ?_ rfl ⟨List.replicate 64 0, by simp, by rw [HG.out], fun h => absurd h (by rw [HG.out]; simp), bl_row (by repeat (first | exact Below.refl _ _ | refine bl_alloc ?_ _)) (by omega) _⟩
    refine (results_cell_tmp (p := 2) (t := 3) (by rfl) _ _ (w.heap.size + 1) 98 _ _ _ ?_ (setRow_heap _ _ (img (List.replicate 64 0)) _ _ _ (hp_old (hp_new (by simp)))) Try.underlying98 rfl (HZ.out _ (by simp))).trans ?_ <;> rfl
/-- Whatever the packed value. -/
theorem open_any (n : Int) (ws : List Nat) (hl : ws.length = 7) (hw : Hid (∀ i, ws.getD i 0 < 18446744073709551616)) (w : World) :
    Calls Try.prog 55 #[.agg (tvv n ws)] w (OpenR n ws w) := by
  by_cases h : 1 ≤ n ∧ n ≤ 64
  · obtain ⟨m, rfl⟩ := Int.eq_ofNat_of_zero_le (show 0 ≤ n by omega)
    exact open_in m ws (by omega) (by omega) hl hw w
  · exact open_out n ws (by omega) w
section
variable {ops : Array Oper} {rest : List Oper} {o : Oper} {a : Act} {w : World} {Q : Exit → Act → World → Prop}
theorem im_z (l : List Nat) (h : l.length = 64) : (Try.prog.info? 98).map (·.size) = some (img l).size := by rw [img_size, h]; kernel_rfl
theorem tr_z (n : Int) (l : List Nat) (h : l.length = 7) : (Try.prog.info? 26).map (·.size) = some (tvv n l).size := by rw [tvv_size, h]; kernel_rfl
theorem ld_im (g : Nat) {l : List Nat} {t : TypeId} {fr : Nat × Nat} (hl : l.length = 64) (hg : w.heap[g]? = some (.cells (img l) t fr)) (hgd : o.guard = none) (x : Operand) (ho : o.op = .load 98 x)
    (hx : a.eval x = .pointer (some ⟨g, 0, none⟩)) (h : wpList Try.prog ops Q rest (a.put o.dst (.agg (img l))) w) : wpList Try.prog ops Q (o :: rest) a w :=
  wpList_load_row hgd 98 x ho g hx t _ fr _ hg Try.underlying98 rfl (im_z l hl) h
theorem ld_tr (g : Nat) {n : Int} {l : List Nat} {t : TypeId} {fr : Nat × Nat} (hl : l.length = 7) (hg : w.heap[g]? = some (.cells (tvv n l) t fr)) (hgd : o.guard = none) (x : Operand) (ho : o.op = .load 26 x)
    (hx : a.eval x = .pointer (some ⟨g, 0, none⟩)) (h : wpList Try.prog ops Q rest (a.put o.dst (.agg (tvv n l))) w) : wpList Try.prog ops Q (o :: rest) a w :=
  wpList_load_row hgd 26 x ho g hx t _ fr _ hg Try.underlying26 rfl (tr_z n l hl) h
theorem st_im (g : Nat) {l : List Nat} {c : Array Value} {t : TypeId} (hl : l.length = 64) (hg : w.heap[g]? = some (.cells c t (0, 0))) (hc : c.size = 64) (hgd : o.guard = none) (x y : Operand) (ho : o.op = .store 98 x y)
    (hx : a.eval x = .pointer (some ⟨g, 0, none⟩)) (hy : a.eval y = .agg (img l)) (h : wpList Try.prog ops Q rest (a.put o.dst undef) (w.setRow g (img l))) : wpList Try.prog ops Q (o :: rest) a w :=
  wpList_store_row hgd 98 x y ho g _ hx hy t c hg (im_z l hl) (by rw [hc, img_size, hl]) (img_one _) h
theorem st_tr (g : Nat) {n : Int} {l : List Nat} {c : Array Value} {t : TypeId} (hl : l.length = 7) (hg : w.heap[g]? = some (.cells c t (0, 0))) (hc : c.size = 8) (hgd : o.guard = none) (x y : Operand) (ho : o.op = .store 26 x y)
    (hx : a.eval x = .pointer (some ⟨g, 0, none⟩)) (hy : a.eval y = .agg (tvv n l)) (h : wpList Try.prog ops Q rest (a.put o.dst undef) (w.setRow g (tvv n l))) : wpList Try.prog ops Q (o :: rest) a w :=
  wpList_store_row hgd 26 x y ho g _ hx hy t c hg (tr_z n l hl) (by rw [hc, tvv_size, hl]) (tvv_one _ _) h
theorem st_im_new {l : List Nat} {c : Array Value} {t : TypeId} (hl : l.length = 64) (hc : c.size = 64) (hgd : o.guard = none) (x y : Operand) (ho : o.op = .store 98 x y)
    (hx : a.eval x = .pointer (some ⟨w.heap.size, 0, none⟩)) (hy : a.eval y = .agg (img l)) (h : wpList Try.prog ops Q rest (a.put o.dst undef) (w.alloc (.cells (img l) t))) : wpList Try.prog ops Q (o :: rest) a (w.alloc (.cells c t)) :=
  st_im w.heap.size hl (hp_new rfl) hc hgd x y ho hx hy (by rw [World.setRow_alloc_new]; exact h)
theorem st_tr_new {n : Int} {l : List Nat} {c : Array Value} {t : TypeId} (hl : l.length = 7) (hc : c.size = 8) (hgd : o.guard = none) (x y : Operand) (ho : o.op = .store 26 x y)
    (hx : a.eval x = .pointer (some ⟨w.heap.size, 0, none⟩)) (hy : a.eval y = .agg (tvv n l)) (h : wpList Try.prog ops Q rest (a.put o.dst undef) (w.alloc (.cells (tvv n l) t))) : wpList Try.prog ops Q (o :: rest) a (w.alloc (.cells c t)) :=
  st_tr w.heap.size hl (hp_new rfl) hc hgd x y ho hx hy (by rw [World.setRow_alloc_new]; exact h)
end
/-- The error of a check. -/
def chkE (b : Bool) : Int := if b then 0 else 130
set_option maxRecDepth 100000 in
set_option maxHeartbeats 400000 in
/-- trans.Check: is it one? -/
theorem check_any (n : Int) (ws : List Nat) (hl : ws.length = 7) (hw : Hid (∀ i, ws.getD i 0 < 18446744073709551616)) (w : World) :
    Calls Try.prog 18 #[.agg (tvv n ws)] w fun e w' => e = .returned (.int .i64 (chkE (goodT n ws))) ∧ Below w.heap.size w w' := by
  have HL := Lib.hid hl; clear hl
  go_enter Try.func18, Try.ntmps18
  go_wp2_with (refine ld_tr w.heap.size HL.out (hp_new rfl) rfl _ rfl rfl ?_)
  refine (open_any n ws HL.out hw _).mono ?_
  rintro e w1 ⟨l, hl, rfl, hi, hb⟩
  have HB := Lib.hid hb; have HLL := Lib.hid hl; clear hi hl hb
  generalize hgb : goodT n ws = b at *
  have HGB := Lib.hid hgb; clear hgb
  cases b <;>
  · go_wp2_with (refine st_im_new HLL.out rfl rfl _ _ rfl rfl rfl ?_)
    go_ret
    exact ⟨by rw [HGB.out]; rfl, bl_alloc (bl_trans (bl_alloc (Below.refl _ _) _) (by simp) HB.out) _⟩
end Go.Proofs.Ytpebnldoimoahaa
