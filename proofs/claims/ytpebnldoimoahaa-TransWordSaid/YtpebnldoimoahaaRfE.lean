/- The walks of the reference's List and Identity. -/
import Derived.Test.YtpebnldoimoahaaRfD
namespace Go.Proofs.Ytpebnldoimoahaa
open Go.RowKit Go.Proofs.YtpebnldoimoahaaW.PrintWords
/-- What the reference's List answers: the images, if it is one. -/
def lsT (b : Bool) (n : Nat) (ws : List Nat) : List Nat := if b then imk n ws else []
def RlistR (n : Int) (ws : List Nat) (w : World) (e : Ending) (w' : World) : Prop :=
  ∃ v, e = .returned (.tuple #[v, .int .i64 (chkE (goodT n ws))]) ∧ Own w' w.heap.size v (zl (lsT (goodT n ws) n.toNat ws)) ∧ Below w.heap.size w w'
set_option maxRecDepth 100000 in
set_option maxHeartbeats 800000 in
theorem rlist_any (n : Int) (ws : List Nat) (hl : ws.length = 7) (hw : Hid (∀ i, ws.getD i 0 < 18446744073709551616)) (w : World) :
    Calls Try.prog 46 #[.agg (tvv n ws)] w (RlistR n ws w) := by
  have HL := Lib.hid hl; clear hl
  go_enter Try.func46, Try.ntmps46
  go_wp2_with (refine ld_tr w.heap.size HL.out (hp_new rfl) rfl _ rfl rfl ?_)
  refine (rcheck_any n ws HL.out hw _).mono ?_
  rintro e w1 ⟨rfl, hb⟩
  have HT := Lib.hid (hp_below' hb (hp_new (w := w) (o := .cells (tvv n ws) 26) rfl))
  have HB := Lib.hid (bl_trans (bl_alloc (Below.refl _ w) (.cells (tvv n ws) 26)) (by simp) hb)
  clear hb
  generalize hgb : goodT n ws = b at *
  have HGB := Lib.hid hgb; clear hgb
  cases b with
  | false =>
    go_wp2_with fail
    go_ret2
    exact ⟨_, by rw [HGB.out]; rfl, by rw [HGB.out]; exact Kd.R_nil _ _ _ _ _, HB.out⟩
  | true =>
    obtain ⟨hn1, hn64, _, _⟩ := goodT_spec HGB.out
    obtain ⟨m, rfl⟩ := Int.eq_ofNat_of_zero_le (show 0 ≤ n by omega)
    have hm64 : m ≤ 64 := by omega
    clear hn1 hn64
    go_wp2_with (refine ld_tr w.heap.size HL.out HT.out rfl _ rfl rfl ?_)
    refine (images_any m ws hm64 HL.out hw _).mono ?_
    rintro e w2 ⟨v, rfl, ho, hb⟩
    have HO := Aside0.mk ho
    have HB2 := Lib.hid (bl_then HB.out hb)
    have HS := Lib.hid HB.out.size
    clear ho hb
    go_wp2_with fail
    go_ret2
    exact ⟨_, by rw [HGB.out]; rfl, by rw [HGB.out]; exact Kd.R_lower HO.out HS.out, HB2.out⟩
/-- Packed, the length by another name. -/
theorem packed_at (A : Option Addr) (c : Nat) (l : List Nat) (k : Nat) (hk : l.length = k) (w : World) (hr : Kd.C (Kd.int .i64) w A k (zl l)) (hn : k ≤ 64) (hlt : ∀ i, l.getD i 0 < 64) :
    Calls Try.prog 54 #[.slice A k c] w fun e w' => e = .returned (.agg (tvv k (pks l k))) ∧ Below w.heap.size w w' := by
  subst hk
  exact packed_any A c l w (by rw [zl_len]; exact hr) hn hlt
theorem rangek_lt (n : Nat) (hn : n ≤ 64) (i : Nat) : (List.range n).getD i 0 < 64 := by
  by_cases h : i < n <;> simp [h]; omega
/-- A list of the call's own, told by its length. -/
theorem own_slice {w : World} {base : Nat} {v : Value} {l : List Nat} (k : Nat) (hk : l.length = k) (h : Own w base v (zl l)) : ∃ A c, v = .slice A k c ∧ k ≤ c ∧ Kd.C (Kd.int .i64) w A k (zl l) := by
  obtain ⟨A, c, h1, h2, h3⟩ := Kd.R_reads h
  rw [zl_len, hk] at *
  exact ⟨A, c, h1, h2, h3⟩
set_option maxRecDepth 100000 in
set_option maxHeartbeats 800000 in
theorem rident_any (n : Int) (w : World) :
    Calls Try.prog 27 #[.int .i64 n] w fun e w' => e = .returned (.tuple #[.agg (tvv (idT n).1 (idT n).2.1), .int .i64 (idT n).2.2]) ∧ Below w.heap.size w w' := by
  by_cases hs : n < 1 ∨ 64 < n
  · have HE : Hid (idT n = (0, List.replicate 7 0, 6)) := Lib.hid (if_pos hs)
    have hd : (decide (n < 1) || decide (64 < n)) = true := by simp; omega
    clear hs
    go_enter Try.func27, Try.ntmps27
    go_wp2_with (refine st_tr w.heap.size (n := 0) (l := List.replicate 7 0) (by simp) (hp_new rfl) rfl rfl _ _ rfl rfl rfl ?_)
    all_goals
      refine bodyPost_ret (v := .tuple #[.agg (tvv 0 (List.replicate 7 0)), .int .i64 6]) ?_ rfl ⟨by rw [HE.out], bl_row (bl_alloc (Below.refl _ _) _) (by omega) _⟩
      refine (results_cell_tmp (p := 2) (t := 3) (by rfl) _ _ w.heap.size 26 _ _ _ ?_ (setRow_heap _ _ _ _ _ _ (hp_new rfl)) Try.underlying26 rfl (tr_z _ _ (by simp))).trans ?_ <;> rfl
  · have h1 : 1 ≤ n := by omega
    have h2 : n ≤ 64 := by omega
    obtain ⟨m, rfl⟩ := Int.eq_ofNat_of_zero_le (show 0 ≤ n by omega)
    have hm64 : m ≤ 64 := by omega
    have HE : Hid (idT m = ((m : Int), pks (List.range m) m, 0)) := Lib.hid (by
      unfold idT
      rw [if_neg hs, Int.toNat_natCast, pks_ext (List.range 64) (List.range m) m (fun i hi => by simp [hi, show i < 64 by omega])])
    clear hs
    go_enter Try.func27, Try.ntmps27
    go_wp2_with fail
    refine (rest_any m (by omega) _).mono ?_
    rintro e w1 ⟨v, rfl, ho, hb⟩
    obtain ⟨A, c, rfl, hlc, hC⟩ := own_slice m (by simp) ho
    have HT := Lib.hid (hp_below' hb (hp_new (w := w) rfl))
    have HB := Lib.hid (bl_then (bl_alloc (Below.refl _ w) _) hb)
    have HC := Aside0.mk hC
    clear ho hb hC
    go_wp2_with fail
    refine (packed_at A c (List.range m) m (by simp) _ HC.out hm64 (rangek_lt m hm64)).mono ?_
    rintro e w2 ⟨rfl, hb⟩
    have HT2 := Lib.hid (hp_below' hb HT.out)
    have HB2 := Lib.hid (bl_then HB.out hb)
    clear hb HT HB HC
    go_wp2_with (refine st_tr w.heap.size (pks_len _ _) HT2.out rfl rfl _ _ rfl rfl rfl ?_)
    refine bodyPost_ret (v := .tuple #[.agg (tvv m (pks (List.range m) m)), .int .i64 0]) ?_ rfl ⟨by rw [HE.out], bl_row HB2.out (by omega) _⟩
    refine (results_cell_tmp (p := 2) (t := 3) (by rfl) _ _ w.heap.size 26 _ _ _ ?_ (setRow_heap _ _ _ _ _ _ HT2.out) Try.underlying26 rfl (tr_z _ _ (pks_len _ _))).trans ?_ <;> rfl
end Go.Proofs.Ytpebnldoimoahaa
