/- The walks of trans.Image and the reference's with and Image. -/
import Derived.Test.YtpebnldoimoahaaSet
import Derived.Test.YtpebnldoimoahaaGood
namespace Go.Proofs.Ytpebnldoimoahaa
open Go.RowKit Go.Proofs.YtpebnldoimoahaaW.PrintWords
set_option linter.unusedSimpArgs false
/-- The first images of a row lie as a list. -/
theorem C_img {w : World} {g : Nat} {L : List Nat} {t : TypeId} {fr : Nat × Nat} (h : w.heap[g]? = some (.cells (img L) t fr)) (l : List Nat) (n : Nat) (hn : l.length = n) (hm : n ≤ 64) (hL : L.length = 64) (he : ∀ i, i < n → l.getD i 0 = L.getD i 0) : Kd.C (Kd.int .i64) w (some ⟨g, 0, none⟩) n (zl l) := by
  have := C_block (zl l) h (by rw [zl_len, hn]; omega) (fun j hj => by
    rw [zl_len, hn] at hj
    rw [img_get _ _ (by omega)]
    have e := zl_rd l j
    unfold rd at e
    rw [Int.toNat_natCast] at e
    rw [e, he j hj])
  rw [zl_len, hn] at this
  exact this
/-- The first images as a slice. -/
theorem cut_img (g m : Nat) (hm : m ≤ 64) : ∀ W : World, (Instr.sliceAt 98 (.pointer (some ⟨g, 0, none⟩)) none (some (.int .i64 (m : Int))) none).run Try.prog W = .ok (.slice (some ⟨g, 0, none⟩) m 64) W := by
  intro W
  have hl : Try.prog.arrayLen 98 = 64 := by kernel_rfl
  have he : Try.prog.elem 98 = 3 := by kernel_rfl
  have hu : Try.prog.underlying 98 = some (.array (Try.prog.arrayLen 98) (Try.prog.elem 98)) := by rw [hl, he]; exact Try.underlying98
  obtain ⟨i, hi⟩ := info_of_underlying (P := Try.prog) Try.underlying3
  rw [run_sliceAt_array_h W _ _ hu .i64 (m : Int) (by omega) (by rw [hl]; omega), hl, he]
  have ha : (⟨g, 0, none⟩ : Addr).add 0 = ⟨g, 0, none⟩ := by simp [Addr.add]
  simp [sizeOf, typeInfo, hi, slicedAt, Result.andThen, ha]
theorem lsT_true (n : Nat) (ws : List Nat) : lsT true n ws = imk n ws := rfl
set_option maxRecDepth 100000 in
set_option maxHeartbeats 800000 in
theorem image_any (n : Int) (ws : List Nat) (hl : ws.length = 7) (hw : Hid (∀ i, ws.getD i 0 < 18446744073709551616)) (w : World) :
    Calls Try.prog 35 #[.agg (tvv n ws)] w fun e w' => e = .returned (.tuple #[.agg (sv (bo (lsT (goodT n ws) n.toNat ws))), .int .i64 (chkE (goodT n ws))]) ∧ Below w.heap.size w w' := by
  have HL := Lib.hid hl; clear hl
  have HZ := Lib.hid (tvv_zero n ws)
  go_enter Try.func35, Try.ntmps35
  go_wp2_with (refine ld_tr w.heap.size HL.out (hp_old (hp_new rfl)) rfl _ rfl rfl ?_)
  refine (open_any n ws HL.out hw _).mono ?_
  rintro e w1 ⟨l, hl, rfl, hi, hb⟩
  have HLL := Lib.hid hl; have HI := Lib.hid hi
  have A1 := Lib.hid (hp_below' hb (hp_old (hp_new (w := w) (o := .cells (tvv n ws) 26) rfl)))
  have A2 := Lib.hid (hp_below' hb (hp_new (w := w.alloc (.cells (tvv n ws) 26)) rfl))
  have HB := Lib.hid (bl_then (bl_alloc (bl_alloc (Below.refl _ w) _) _) hb)
  rw [World.size_alloc] at A2
  clear hi hl hb
  have B1 := Lib.hid (hp_old (o := .cells (img l) 98) A1.out)
  have B2 := Lib.hid (hp_old (o := .cells (img l) 98) A2.out)
  have B3 := Lib.hid (hp_new (w := w1) (o := .cells (img l) 98) rfl)
  have D1 : (w1.alloc (.cells (img l) 98)).cell? ⟨w.heap.size, 0, none⟩ = some (.int .i64 n) := by rw [cell_of_row _ _ _ _ _ _ B1.out, HZ.out]
  generalize hgb : goodT n ws = b at *
  have HGB := Lib.hid hgb; clear hgb
  cases b with
  | false =>
    go_wp2_with (first | (refine st_im_new HLL.out rfl rfl _ _ rfl rfl rfl ?_) | (refine st_sv _ _ rfl rfl (w.heap.size + 1) (n := 0) rfl rfl B2.out rfl ?_))
    refine bodyPost_ret (v := .tuple #[.agg (sv 0), .int .i64 130]) ?_ rfl ⟨by rw [HGB.out]; rfl, bl_row (bl_alloc HB.out _) (by omega) _⟩
    refine (results_cell_tmp (p := 2) (t := 3) (by rfl) _ _ (w.heap.size + 1) 69 _ _ _ ?_ (setRow_heap _ _ _ _ _ _ B2.out) Try.underlying69 rfl (sv_z _)).trans ?_ <;> rfl
  | true =>
    obtain ⟨hn1, hn64, _, _⟩ := goodT_spec HGB.out
    obtain ⟨m, rfl⟩ := Int.eq_ofNat_of_zero_le (show 0 ≤ n by omega)
    obtain rfl := HI.out rfl
    rw [Int.toNat_natCast] at *
    have hm : m ≤ 64 := by omega
    clear hn1 hn64 HI
    have HC := Aside0.mk (C_img B3.out (imk m ws) m (imk_len _ _) hm HLL.out (fun i hi => by rw [imk_getD _ _ _ hi, ims_getD, if_pos ⟨hi, by omega⟩]))
    have hcut := cut_img w1.heap.size m hm
    go_wp2_with (refine st_im_new HLL.out rfl rfl _ _ rfl rfl rfl ?_)
    refine (chosen_any _ 64 (imk m ws) m (imk_len _ _) (imk_lt _ _) (by omega) _ HC.out).mono ?_
    rintro e w2 ⟨rfl, hb⟩
    have C2 := Lib.hid (hp_below' hb B2.out)
    have CB := Lib.hid (bl_then (bl_alloc HB.out _) hb)
    clear hb
    go_wp2_with (refine st_sv _ _ rfl rfl (w.heap.size + 1) rfl rfl C2.out rfl ?_)
    refine bodyPost_ret (v := .tuple #[.agg (sv (bo (imk m ws))), .int .i64 0]) ?_ rfl ⟨by rw [HGB.out]; rfl, bl_row CB.out (by omega) _⟩
    refine (results_cell_tmp (p := 2) (t := 3) (by rfl) _ _ (w.heap.size + 1) 69 _ _ _ ?_ (setRow_heap _ _ _ _ _ _ C2.out) Try.underlying69 rfl (sv_z _)).trans ?_ <;> rfl
set_option maxRecDepth 100000 in
set_option maxHeartbeats 800000 in
theorem with_any (x y : Nat) (hx : x < 18446744073709551616) (hy : y < 64) (w : World) :
    Calls Try.prog 73 #[.agg (sv x), .int .i64 y] w fun e w' => e = .returned (.agg (sv (x ||| 2 ^ y))) ∧ Below w.heap.size w w' := by
  have e1 : (y : Int).tdiv 64 = 0 := by rw [Int.tdiv_eq_ediv_of_nonneg (by omega)]; omega
  have e2 : (y : Int).tmod 64 = y := by rw [Int.tmod_eq_emod_of_nonneg (by omega)]; omega
  have e3 : (y : Int) / 64 = 0 := by omega
  have e4 : (y : Int) % 64 = y := by omega
  have HV := or_bit x y hx hy
  go_enter Try.func73, Try.ntmps73
  have A1 := Lib.hid (hp_old (o := .cells (sv 0) 69) (hp_new (w := w) (o := .cells (sv x) 69) rfl))
  have A2 := Lib.hid (hp_new (w := w.alloc (.cells (sv x) 69)) (o := .cells (sv 0) 69) rfl)
  rw [World.size_alloc] at A2
  have HB := Lib.hid (bl_alloc (bl_alloc (Below.refl _ w) (.cells (sv x) 69)) (.cells (sv 0) 69))
  have hz : sv 0 = #[.int .u64 0, .int .u64 0, .int .u64 0, .int .u64 0, .int .u64 0, .int .u64 0, .int .u64 0, .int .u64 0] := rfl
  rw [hz] at A1 A2 HB
  have c1 : ((w.alloc (.cells (sv x) 69)).alloc (.cells #[.int .u64 0, .int .u64 0, .int .u64 0, .int .u64 0, .int .u64 0, .int .u64 0, .int .u64 0, .int .u64 0] 69)).cell? ⟨w.heap.size, 0, none⟩ = some (.int .u64 x) := by rw [cell_of_row _ _ _ _ _ _ A1.out, sv_at]
  have f1 : ((w.alloc (.cells (sv x) 69)).alloc (.cells #[.int .u64 0, .int .u64 0, .int .u64 0, .int .u64 0, .int .u64 0, .int .u64 0, .int .u64 0, .int .u64 0] 69)).frozen? ⟨w.heap.size, 0, none⟩ = false := frozen_of_row _ _ _ _ _ A1.out
  have hss := sv_set x (x ||| 2 ^ y)
  have HS := Lib.hid (hp_old (o := .cells (sv 0) 69) (hp_new (w := w) (o := .cells (sv (x ||| 2 ^ y)) 69) rfl))
  have HT := Lib.hid (hp_new (w := w.alloc (.cells (sv (x ||| 2 ^ y)) 69)) (o := .cells (sv 0) 69) rfl)
  rw [World.size_alloc] at HT
  have HU := Lib.hid (bl_alloc (bl_alloc (Below.refl _ w) (.cells (sv (x ||| 2 ^ y)) 69)) (.cells (sv 0) 69))
  go_wp2_with (first | (refine ld_sv _ rfl w.heap.size rfl HS.out rfl ?_) | (refine st_sv _ _ rfl rfl (w.heap.size + 1) rfl rfl HT.out rfl ?_))
  refine bodyPost_ret (v := .agg (sv (x ||| 2 ^ y))) ?_ rfl ⟨rfl, bl_row HU.out (by omega) _⟩
  exact results_cell_row rfl _ _ (w.heap.size + 1) 69 _ _ _ rfl (setRow_heap _ _ _ _ _ _ HT.out) Try.underlying69 rfl (sv_z _)
end Go.Proofs.Ytpebnldoimoahaa
