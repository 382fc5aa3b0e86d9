/- The walk of trans.Cycle. -/
import Derived.Test.YtpebnldoimoahaaTrE
import Derived.Test.YtpebnldoimoahaaMake
import Derived.Test.YtpebnldoimoahaaCyc
namespace Go.Proofs.Ytpebnldoimoahaa
open Go.RowKit Go.Proofs.YtpebnldoimoahaaW.PrintWords

/-- What Cycle answers. -/
def CycR (n : Int) (ws : List Nat) (w : World) (e : Ending) (w' : World) : Prop :=
  e = .returned (if goodT n ws then .tuple #[.int .i64 (cyc (ims n.toNat ws) n.toNat n.toNat).1, .int .i64 (cyc (ims n.toNat ws) n.toNat n.toNat).2, .int .i64 0] else .tuple #[.int .i64 0, .int .i64 0, .int .i64 130]) ∧ Below w.heap.size w w'
theorem per_fin (p a r : Nat) (z : Int) (hp : p < 17179869184) (hz : z = (r : Int)) (hb : p / a * r < 17179869184) : wrap64 (wrap64 ((p : Int) / (a : Int)) * z) = ((p / a * r : Nat) : Int) := by
  subst hz
  have h1 : p / a ≤ p := Nat.div_le_self _ _
  have e0 : (p : Int) / (a : Int) = ((p / a : Nat) : Int) := by push_cast; rfl
  rw [e0]
  generalize p / a = q at *
  rw [IntWalk.wrap64_in ((q : Nat) : Int) ⟨by omega, by omega⟩]
  have e : (q : Int) * (r : Int) = ((q * r : Nat) : Int) := by push_cast; rfl
  rw [e]
  generalize q * r = z at *
  exact IntWalk.wrap64_in _ ⟨by omega, by omega⟩
def Cw (w w1 wr : World) (m : Nat) (ws L : List Nat) : Prop := wr.heap[w.heap.size]? = some (.cells (tvv m ws) 26 (0, 0)) ∧ wr.heap[w1.heap.size]? = some (.cells (img L) 98 (0, 0)) ∧ Below w.heap.size w wr
set_option maxRecDepth 100000 in
set_option maxHeartbeats 2000000 in
theorem cycle_any (n : Int) (ws : List Nat) (hl : ws.length = 7) (hw : Hid (∀ i, ws.getD i 0 < 18446744073709551616)) (w : World) :
    Calls Try.prog 23 #[.agg (tvv n ws)] w (CycR n ws w) := by
  have HL := Lib.hid hl; clear hl
  have HZ := Lib.hid (tvv_zero n ws)
  go_enter Try.func23, Try.ntmps23
  go_wp2_with (refine ld_tr w.heap.size HL.out (hp_new rfl) rfl _ rfl rfl ?_)
  refine (open_any n ws HL.out hw _).mono ?_
  rintro e w1 ⟨l, hl, rfl, hi, hb⟩
  have HB := Lib.hid hb; have HLL := Lib.hid hl; have HI := Lib.hid hi; clear hl hb hi
  have HC := Lib.hid (rfl : CycR n ws w = CycR n ws w)
  by_cases hg : goodT n ws = true
  · obtain ⟨hn1, hn64, hin, _⟩ := goodT_spec hg
    obtain rfl := HI.out hg
    obtain ⟨m, rfl⟩ := Int.eq_ofNat_of_zero_le (show 0 ≤ n by omega)
    rw [Int.toNat_natCast] at *
    have HIN : Hid (Inn (ims m ws) m) := Lib.hid (fun i hi => by
      rw [ims_getD, if_pos (by omega)]; exact hin i hi)
    have HG := Lib.hid hg; clear hg hin HI
    generalize hL : ims m ws = L at *
    have HLL2 := Lib.hid hL; clear hL
    generalize hgb : goodT m ws = b at *
    have HGB := Lib.hid hgb; clear hgb
    obtain rfl : b = true := HG.out
    have hz1 : w.heap.size + 1 ≤ w1.heap.size := by have := HB.out.size; simpa using this
    have GB := Lib.hid (hp_below HB.out (show w.heap.size < (w.alloc (.cells (tvv m ws) 26)).heap.size by simp) (hp_new rfl))
    have hm1 : 1 ≤ m := by omega
    have hm64 : m ≤ 64 := by omega
    clear hn1 hn64
    have c0 : (w1.alloc (.cells (img L) 98)).cell? ⟨w.heap.size, 0, none⟩ = some (.int .i64 m) := by rw [cell_of_row _ _ _ _ _ _ (hp_old GB.out), HZ.out]
    have hne : ¬ (w.heap.size = w1.heap.size) := by omega
    go_wp2_with (refine st_im_new HLL.out rfl rfl _ _ rfl rfl rfl ?_)
    have HM := Lib.hid hne
    clear hne c0
    go_loopw [23, 2, 3] (fun i v2 v3 wr => ∃ k : Nat, k ≤ m ∧ i = .int .i64 k ∧ v2 = .int .i64 (cyc L m k).1 ∧ v3 = .int .i64 (cyc L m k).2 ∧ Cw w w1 wr m ws L) (fun i _ _ _ => m - (intOf i).toNat)
    case atStart =>
      exact ⟨0, by omega, rfl, rfl, rfl, hp_old GB.out, hp_new rfl, bl_alloc (bl_trans (bl_alloc (Below.refl _ _) _) (by simp) HB.out) _⟩
    case round =>
      obtain ⟨k, hk, rfl, rfl, rfl, H⟩ := hrel
      by_cases hlt : k < m
      · have c0 : wr.cell? ⟨w.heap.size, 0, none⟩ = some (.int .i64 m) := by rw [cell_of_row _ _ _ _ _ _ H.1, HZ.out]
        have HH := Lib.hid H; clear H
        have HCS := Lib.hid (cyc_small HIN.out (show k ≤ m by omega) hm64)
        generalize hidx : (cyc L m k).1 = idx at *
        generalize hper : (cyc L m k).2 = per at *
        have HIDX := Lib.hid hidx; have HPER := Lib.hid hper; clear hidx hper
        go_wp2_with (refine wpl_make m (by omega) rfl _ _ rfl rfl rfl ?_)
        have HK := Lib.hid hlt
        have HS : Hid ((wr.alloc (.cells (img (List.replicate m 0)) 3)).heap[wr.heap.size]? = some (.cells (img (List.replicate m 0)) 3 (0, 0)) ∧ Cw w w1 (wr.alloc (.cells (img (List.replicate m 0)) 3)) m ws L ∧ w1.heap.size < wr.heap.size) :=
          Lib.hid ⟨hp_new rfl, ⟨hp_old HH.out.1, hp_old HH.out.2.1, bl_alloc HH.out.2.2 _⟩, hp_lt HH.out.2.1⟩
        clear HH c0
        generalize wr.alloc (.cells (img (List.replicate m 0)) 3) = wA at *
        generalize wr.heap.size = D at *
        clear wr
        go_loopw [9, 10] (fun f u wi => ∃ t : Nat, t ≤ m ∧ f = .int .i64 (t + 1 : Nat) ∧ u = .int .i64 (orb L k t) ∧ Hid (fresh L k t) ∧ wi.heap[D]? = some (.cells (img (atl L k m t)) 3 (0, 0)) ∧ Cw w w1 wi m ws L) (fun f _ _ => m + 1 - (intOf f).toNat)
        case atStart =>
          exact ⟨0, by omega, rfl, rfl, Lib.hid (fresh_zero _ _), HS.out.1, HS.out.2.1⟩
        case round =>
          obtain ⟨t, ht, rfl, rfl, HF, gat, H⟩ := hrel
          have ho := orb_lt HIN.out HK.out t
          have a0 : wr.cell? ⟨D, orb L k t, none⟩ = some (.int .i64 (((atl L k m t).getD (orb L k t) 0 : Nat) : Int)) := by
            rw [cell_of_row _ _ _ _ _ _ gat, img_get _ _ (by rw [atl_len]; exact ho)]
          have a1 : wr.frozen? ⟨D, orb L k t, none⟩ = false := frozen_of_row _ _ _ _ _ gat
          have a2 : wr.cell? ⟨w1.heap.size, orb L k t, none⟩ = some (.int .i64 ((L.getD (orb L k t) 0 : Nat) : Int)) := by
            rw [cell_of_row _ _ _ _ _ _ H.2.1, img_get _ _ (by rw [HLL.out]; omega)]
          have GAT := Lib.hid gat; have HX := Lib.hid H; clear gat H
          have hd1 := HS.out.2.2
          by_cases hc : (atl L k m t).getD (orb L k t) 0 = 0
          · have HF2 := Lib.hid (atl_fresh HIN.out HK.out HF.out hc)
            have ht2 := fresh_le HIN.out HK.out HF2.out
            have H2 : (wr.setCell ⟨D, orb L k t, none⟩ (.int .i64 ((t + 1 : Nat) : Int))).heap[D]? = some (.cells (img (atl L k m (t + 1))) 3 (0, 0)) ∧ Cw w w1 (wr.setCell ⟨D, orb L k t, none⟩ (.int .i64 ((t + 1 : Nat) : Int))) m ws L := by
              refine ⟨?_, hp_cell (by show w.heap.size ≠ D; omega) HX.out.1, hp_cell (by show w1.heap.size ≠ D; omega) HX.out.2.1, bl_cell HX.out.2.2 (by show w.heap.size ≤ D; omega) _⟩
              rw [heap_setCell_same _ _ _ _ _ _ GAT.out, img_set]; rfl
            have H2 := Lib.hid H2
            rw [hc] at a0
            clear hc
            have HO : Hid (L.getD (orb L k t) 0 = orb L k (t + 1)) := Lib.hid rfl
            generalize L.getD (orb L k t) 0 = y at *
            generalize orb L k t = x at *
            go_wp2
            go_roundw
            case rel => exact ⟨t + 1, ht2, by go_num, by rw [HO.out], HF2, H2.out.1, H2.out.2⟩
            case measure => simp [intOf]; omega
          · obtain ⟨hc1, hc2, htl⟩ := atl_tail HIN.out HK.out HF.out rfl hc
            have HT := Lib.hid (tlp_eq HIN.out HK.out htl)
            have HP := Lib.hid htl.one
            clear htl
            have hcb : (((atl L k m t).getD (orb L k t) 0 : Nat) : Int) ≠ 0 := by omega
            have hcd : ((((atl L k m t).getD (orb L k t) 0 : Nat) : Int) == 0) = false := by rw [beq_eq_false_iff_ne]; exact hcb
            clear hc hcb
            have htm : t ≤ 64 := by omega
            generalize (atl L k m t).getD (orb L k t) 0 = c at *
            generalize orb L k t = x at *
            have hsub : ((t + 1 : Nat) : Int) - (c : Int) = ((t + 1 - c : Nat) : Int) := by omega
            have hsub2 : (c : Int) - 1 = ((c - 1 : Nat) : Int) := by omega
            have HS1 := Lib.hid hsub; have HS2 := Lib.hid hsub2
            clear hsub hsub2
            go_wp2
            all_goals
              go_loopw [12, 13] (fun x y wg => ∃ a b : Nat, x = .int .i64 a ∧ y = .int .i64 b ∧ Hid (Nat.gcd a b = Nat.gcd per (t + 1 - c)) ∧ a ≤ 17179869184 ∧ b ≤ 17179869184 ∧ Hid (Cw w w1 wg m ws L)) (fun _ y _ => (intOf y).toNat)
              case atStart =>
                exact ⟨per, t + 1 - c, rfl, by rw [← HS1.out]; go_num, Lib.hid rfl, by have := HCS.out; omega, by omega, HX⟩
              case round =>
                obtain ⟨a, b, rfl, rfl, HGC, ha, hb, HH⟩ := hrel
                by_cases hb0 : b = 0
                · subst hb0
                  have hga : a = Nat.gcd per (t + 1 - c) := by have := HGC.out; rwa [Nat.gcd_zero_right] at this
                  have hap : 0 < a := by rw [hga]; exact Nat.gcd_pos_of_pos_left _ (by have := HCS.out; omega)
                  have han : ((a : Int) == 0) = false := by rw [beq_eq_false_iff_ne]; omega
                  have hpp : per < 17179869184 := HCS.out.2
                  have HV : Hid (cyc L m (k + 1) = (max idx (c - 1), per / a * (t + 1 - c)) ∧ per / a * (t + 1 - c) < 17179869184) := by
                    have h1 : cyc L m (k + 1) = (max idx (c - 1), per / a * (t + 1 - c)) := by
                      show (max (cyc L m k).1 (tlp L m k).1, (cyc L m k).2 / Nat.gcd (cyc L m k).2 (tlp L m k).2 * (tlp L m k).2) = _
                      rw [HT.out, HIDX.out, HPER.out, ← hga]
                    have h2 := (cyc_small HIN.out (show k + 1 ≤ m by omega) hm64).2
                    rw [h1] at h2
                    exact Lib.hid ⟨h1, h2⟩
                  clear hga
                  go_wp2
                  go_roundw
                  case rel =>
                    refine ⟨k + 1, by omega, by go_num, ?_, ?_, HH.out⟩
                    · rw [HV.out.1]; congr 1; show _ = ((max idx (c - 1) : Nat) : Int); omega
                    · rw [HV.out.1]; congr 1; exact per_fin per a (t + 1 - c) ((t : Int) + 1 - (c : Int)) hpp (by omega) HV.out.2
                  case measure => simp [intOf]; omega
                · have hbp : 0 < b := by omega
                  have hbn : ((b : Int) == 0) = false := by rw [beq_eq_false_iff_ne]; omega
                  clear hb0
                  go_wp2
                  go_quiet (fail)
                  go_wp2
                  go_roundw
                  case rel => exact ⟨b, a % b, rfl, by go_num, Lib.hid (by rw [← HGC.out, Nat.gcd_comm a b, Nat.gcd_rec b a, Nat.gcd_comm]), hb, by have := Nat.mod_lt a hbp; omega, Lib.hid ⟨HH.out.1, HH.out.2.1, bl_drewN HH.out.2.2 _⟩⟩
                  case measure => simp [intOf]; have := Nat.mod_lt a hbp; omega
      · have : k = m := by omega
        subst this
        have HH := Lib.hid H; clear H
        go_wp2
        go_ret3
        exact ⟨by rw [HGB.out, if_pos rfl, Int.toNat_natCast, HLL2.out]; rfl, HH.out.2.2⟩
  · have hgf : goodT n ws = false := by simpa using hg
    have HG := Lib.hid hgf; clear hg hgf
    generalize hgb : goodT n ws = b at *
    have HGB := Lib.hid hgb; clear hgb
    obtain rfl : b = false := HG.out
    go_wp2_with (refine st_im_new HLL.out rfl rfl _ _ rfl rfl rfl ?_)
    go_ret3
    exact ⟨by rw [HGB.out]; rfl, bl_alloc (bl_trans (bl_alloc (Below.refl _ _) _) (by simp) HB.out) _⟩
end Go.Proofs.Ytpebnldoimoahaa
