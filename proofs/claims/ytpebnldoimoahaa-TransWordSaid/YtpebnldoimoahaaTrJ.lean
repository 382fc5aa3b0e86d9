/- The walk of trans.Power. -/
import Derived.Test.YtpebnldoimoahaaTrI
namespace Go.Proofs.Ytpebnldoimoahaa
open Go.RowKit Go.Proofs.YtpebnldoimoahaaW.PrintWords
/-- The loop of Power: out, the square so far, what is left of the exponent. -/
def pwl (n : Nat) (o l : List Nat) (k : Nat) : List Nat :=
  if _h : k = 0 then o else pwl n (if k % 2 = 1 then bhd n o l else o) (bhd n l l) (k / 2)
termination_by k
decreasing_by omega
/-- What Power answers. -/
def powT (n : Int) (ws : List Nat) (k : Nat) : Int × List Nat × Int :=
  if goodT n ws = true then (n, pks (pwl n.toNat (List.range 64) (ims n.toNat ws) k) n.toNat, 0) else (0, List.replicate 7 0, 130)
theorem powT_len (n : Int) (ws : List Nat) (k : Nat) : (powT n ws k).2.1.length = 7 := by
  unfold powT; split
  · exact pks_len _ _
  · simp
theorem bit_in (j : Nat) (hj : j < 18446744073709551616) : bits .and .u64 (j : Int) 1 = ((j % 2 : Nat) : Int) := by
  have h := bits_and_u64_nat j 1 hj (by omega)
  rw [show ((1 : Nat) : Int) = 1 by rfl] at h
  rw [h]
  congr 1
  exact Nat.and_two_pow_sub_one_eq_mod _ 1
def Pw (w w1 w2 wr : World) (n : Nat) (ws o l : List Nat) : Prop :=
  wr.heap[w.heap.size]? = some (.cells (tvv n ws) 26 (0, 0)) ∧ wr.heap[w1.heap.size]? = some (.cells (img l) 98 (0, 0)) ∧ wr.heap[w2.heap.size]? = some (.cells (img o) 98 (0, 0)) ∧ (∃ c, wr.heap[w.heap.size + 1]? = some (.cells c 26 (0, 0)) ∧ c.size = 8) ∧ Below w.heap.size w wr
set_option maxRecDepth 100000 in
set_option maxHeartbeats 2000000 in
theorem power_any (n : Int) (ws : List Nat) (k : Nat) (hl : ws.length = 7) (hw : Hid (∀ i, ws.getD i 0 < 18446744073709551616)) (hk : Hid (k < 18446744073709551616)) (w : World) :
    Calls Try.prog 24 #[.agg (tvv n ws), .int .u64 k] w fun e w' => e = .returned (.tuple #[.agg (tvv (powT n ws k).1 (powT n ws k).2.1), .int .i64 (powT n ws k).2.2]) ∧ Below w.heap.size w w' := by
  have HL := Lib.hid hl; clear hl
  have HZ := Lib.hid (tvv_zero n ws)
  go_enter Try.func24, Try.ntmps24
  go_wp2_with (refine ld_tr w.heap.size HL.out (hp_old (hp_new rfl)) rfl _ rfl rfl ?_)
  refine (open_any n ws HL.out hw _).mono ?_
  rintro e w1 ⟨l1, hl1, rfl, hi1, hb⟩
  have HL1 := Lib.hid hl1; have HI1 := Lib.hid hi1
  have A1 := Lib.hid (hp_below' hb (hp_old (hp_new (w := w) (o := .cells (tvv n ws) 26) rfl)))
  have A2 := Lib.hid (hp_below' hb (hp_new (w := w.alloc (.cells (tvv n ws) 26)) rfl))
  have HW := Lib.hid (bl_then (bl_alloc (bl_alloc (Below.refl _ w) _) _) hb)
  rw [World.size_alloc] at A2
  clear hb hi1 hl1
  generalize hb1 : goodT n ws = b1 at *
  have HB1 := Lib.hid hb1
  clear hb1
  cases b1 with
  | false =>
    have HX : Hid (powT n ws k = (0, List.replicate 7 0, 130)) := Lib.hid (by unfold powT; rw [HB1.out]; rfl)
    have A3 := Lib.hid (hp_old (o := .cells (img l1) 98) A2.out)
    go_wp2_with (first | (refine st_im_new HL1.out rfl rfl _ _ rfl rfl rfl ?_) | (refine st_tr (w.heap.size + 1) (n := 0) (l := List.replicate 7 0) (by simp) A3.out rfl rfl _ _ rfl rfl rfl ?_))
    refine bodyPost_ret (v := .tuple #[.agg (tvv 0 (List.replicate 7 0)), .int .i64 130]) ?_ rfl ⟨by rw [HX.out], bl_row (bl_alloc HW.out _) (by omega) _⟩
    refine (results_cell_tmp (p := 4) (t := 5) (by rfl) _ _ (w.heap.size + 1) 26 _ _ _ ?_ (setRow_heap _ _ _ _ _ _ A3.out) Try.underlying26 rfl (tr_z _ _ (by simp))).trans ?_ <;> rfl
  | true =>
    obtain ⟨hn1, hn64, _, _⟩ := goodT_spec HB1.out
    obtain ⟨m, rfl⟩ := Int.eq_ofNat_of_zero_le (show 0 ≤ n by omega)
    have HX : Hid (powT m ws k = ((m : Int), pks (pwl m (List.range 64) (ims m ws) k) m, 0)) := Lib.hid (by unfold powT; rw [HB1.out, if_pos rfl, Int.toNat_natCast])
    obtain rfl := HI1.out rfl
    rw [Int.toNat_natCast] at *
    have hm64 : m ≤ 64 := by omega
    clear hn1 hn64
    go_wp2_with (refine st_im_new HL1.out rfl rfl _ _ rfl rfl rfl ?_)
    refine (same_img_any _).mono ?_
    rintro e w2 ⟨rfl, hb⟩
    have HP : Hid (Pw w w1 w2 (w2.alloc (.cells (img (List.range 64)) 98)) m ws (List.range 64) (ims m ws)) :=
      Lib.hid ⟨hp_old (hp_below' hb (hp_old A1.out)), hp_old (hp_below' hb (hp_new rfl)), hp_new rfl, ⟨_, hp_old (hp_below' hb (hp_old A2.out)), rfl⟩, bl_alloc (bl_then (bl_alloc HW.out _) hb) _⟩
    have HD : Hid (w.heap.size < w1.heap.size ∧ w1.heap.size < w2.heap.size ∧ w.heap.size + 1 < w1.heap.size) := Lib.hid (by
      have h1 := hp_lt A1.out; have h2 := hp_lt A2.out
      have h3 := hb.size
      rw [World.size_alloc] at h3
      exact ⟨h1, by omega, h2⟩)
    clear hb A1 A2 HW HI1
    go_wp2_with (refine st_im_new (by simp) rfl rfl _ _ rfl rfl rfl ?_)
    have HLT : Hid (∀ i, (ims m ws).getD i 0 < 64) := Lib.hid (ims_lt _ _)
    have HLE : Hid ((ims m ws).length = 64) := Lib.hid (ims_len _ _)
    generalize ims m ws = L0 at *
    simp only [Act.put]
    go_loopw [1] (fun x wr => ∃ j : Nat, x = .int .u64 j ∧ Hid (j < 18446744073709551616 ∧ ∃ o l, o.length = 64 ∧ l.length = 64 ∧ (∀ i, o.getD i 0 < 64) ∧ (∀ i, l.getD i 0 < 64) ∧ pwl m o l j = pwl m (List.range 64) L0 k ∧ Pw w w1 w2 wr m ws o l)) (fun x _ => (intOf x).toNat)
    case atStart =>
      exact ⟨k, rfl, Lib.hid ⟨hk.out, List.range 64, L0, by simp, HLE.out, range_lt, HLT.out, rfl, HP.out⟩⟩
    case round =>
      obtain ⟨j, rfl, H⟩ := hrel
      obtain ⟨hj, o, l, ho, hl, hot, hlt, hpw, g1, g2, g3, ⟨c, g4, g4'⟩, g5⟩ := H.out
      have c0 : wr.cell? ⟨w.heap.size, 0, none⟩ = some (.int .i64 m) := by rw [cell_of_row _ _ _ _ _ _ g1, HZ.out]
      have G1 := Lib.hid g1; have G2 := Lib.hid g2; have G3 := Lib.hid g3; have G4 := Lib.hid g4; have G4' := Lib.hid g4'; have G5 := Lib.hid g5
      have HO := Lib.hid ho; have HLL := Lib.hid hl; have HOT := Lib.hid hot; have HLLT := Lib.hid hlt; have HPW := Lib.hid hpw; have HJ := Lib.hid hj
      clear g1 g2 g3 g4 g4' g5 ho hl hot hlt hpw hj H
      by_cases hj0 : j = 0
      · subst hj0
        have HE : Hid (pwl m (List.range 64) L0 k = o) := Lib.hid (by rw [← HPW.out, pwl]; simp)
        clear HPW
        go_wp2_with (refine ld_im w2.heap.size HO.out G3.out rfl _ rfl rfl ?_)
        refine (pack_any m o hm64 HO.out HOT.out _).mono ?_
        rintro e w3 ⟨rfl, hb⟩
        have K4 := Lib.hid (hp_below' hb G4.out)
        have K5 := Lib.hid (bl_then G5.out hb)
        clear hb
        go_wp2_with (refine st_tr (w.heap.size + 1) (pks_len _ _) K4.out G4'.out rfl _ _ rfl rfl rfl ?_)
        refine bodyPost_ret (v := .tuple #[.agg (tvv m (pks o m)), .int .i64 0]) ?_ rfl ⟨by rw [HX.out, HE.out], bl_row K5.out (by omega) _⟩
        refine (results_cell_tmp (p := 4) (t := 5) (by rfl) _ _ (w.heap.size + 1) 26 _ _ _ ?_ (setRow_heap _ _ _ _ _ _ K4.out) Try.underlying26 rfl (tr_z _ _ (pks_len _ _))).trans ?_ <;> rfl
      · have hjp : 0 < j := by omega
        clear hj0
        have HQ : Hid (j / 2 < 18446744073709551616) := Lib.hid (by have := HJ.out; omega)
        have HD1 := HD.out.1; have HD2 := HD.out.2.1; have HD3 := HD.out.2.2
        have HB2 := Lib.hid (bhd_len m l l)
        have HBT := Lib.hid (bhd_lt (k := m) HLLT.out HLLT.out)
        by_cases hodd : j % 2 = 1
        · have hbit : bits .and .u64 (j : Int) 1 = 1 := by rw [bit_in j HJ.out, hodd]; rfl
          have HR : Hid (pwl m (bhd m o l) (bhd m l l) (j / 2) = pwl m (List.range 64) L0 k) := Lib.hid (by
            rw [← HPW.out]
            conv => rhs; rw [pwl]
            rw [dif_neg (by omega), if_pos hodd])
          have HBO := Lib.hid (bhd_len m o l)
          have HBOT := Lib.hid (bhd_lt (k := m) HOT.out HLLT.out)
          clear hodd
          go_wp2_with (first | (refine ld_im w2.heap.size HO.out G3.out rfl _ rfl rfl ?_) | (refine ld_im w1.heap.size HLL.out G2.out rfl _ rfl rfl ?_))
          refine (behind_any m o l hm64 HO.out HLL.out HOT.out _).mono ?_
          rintro e w3 ⟨rfl, hb⟩
          have K1 := Lib.hid (hp_row (g := w2.heap.size) (cs := img (bhd m o l)) (by omega) (hp_below' hb G1.out))
          have K2 := Lib.hid (hp_row (g := w2.heap.size) (cs := img (bhd m o l)) (by omega) (hp_below' hb G2.out))
          have K3 := Lib.hid (hp_below' hb G3.out)
          have K4 := Lib.hid (hp_row (g := w2.heap.size) (cs := img (bhd m o l)) (by omega) (hp_below' hb G4.out))
          have K5 := Lib.hid (bl_row (g := w2.heap.size) (bl_then G5.out hb) (by omega) (img (bhd m o l)))
          have K6 := Lib.hid (setRow_heap w3 w2.heap.size _ (img (bhd m o l)) _ _ K3.out)
          have c1 : (w3.setRow w2.heap.size (img (bhd m o l))).cell? ⟨w.heap.size, 0, none⟩ = some (.int .i64 m) := by rw [cell_of_row _ _ _ _ _ _ K1.out, HZ.out]
          clear hb c0
          go_wp2_with (first | (refine st_im w2.heap.size HBO.out K3.out (by rw [img_size, HO.out]) rfl _ _ rfl rfl rfl ?_) | (refine ld_im w1.heap.size HLL.out K2.out rfl _ rfl rfl ?_))
          refine (behind_any m l l hm64 HLL.out HLL.out HLLT.out _).mono ?_
          rintro e w4 ⟨rfl, hb⟩
          have M1 := Lib.hid (hp_row (g := w1.heap.size) (cs := img (bhd m l l)) (by omega) (hp_below' hb K1.out))
          have M2 := Lib.hid (hp_below' hb K2.out)
          have M3 := Lib.hid (hp_row (g := w1.heap.size) (cs := img (bhd m l l)) (by omega) (hp_below' hb K6.out))
          have M4 := Lib.hid (hp_row (g := w1.heap.size) (cs := img (bhd m l l)) (by omega) (hp_below' hb K4.out))
          have M5 := Lib.hid (bl_row (g := w1.heap.size) (bl_then K5.out hb) (by omega) (img (bhd m l l)))
          have M6 := Lib.hid (setRow_heap w4 w1.heap.size _ (img (bhd m l l)) _ _ M2.out)
          clear hb c1
          go_wp2_with (refine st_im w1.heap.size HB2.out M2.out (by rw [img_size, HLL.out]) rfl _ _ rfl rfl rfl ?_)
          go_roundw
          case rel => exact ⟨j / 2, by go_num, Lib.hid ⟨HQ.out, bhd m o l, bhd m l l, HBO.out, HB2.out, HBOT.out, HBT.out, HR.out, M1.out, M6.out, M3.out, ⟨c, M4.out, G4'.out⟩, M5.out⟩⟩
          case measure => simp [intOf]; omega
        · have hbit : bits .and .u64 (j : Int) 1 = 0 := by rw [bit_in j HJ.out, show j % 2 = 0 by omega]; rfl
          have HR : Hid (pwl m o (bhd m l l) (j / 2) = pwl m (List.range 64) L0 k) := Lib.hid (by
            rw [← HPW.out]
            conv => rhs; rw [pwl]
            rw [dif_neg (by omega), if_neg hodd])
          clear hodd
          go_wp2_with (refine ld_im w1.heap.size HLL.out G2.out rfl _ rfl rfl ?_)
          refine (behind_any m l l hm64 HLL.out HLL.out HLLT.out _).mono ?_
          rintro e w4 ⟨rfl, hb⟩
          have M1 := Lib.hid (hp_row (g := w1.heap.size) (cs := img (bhd m l l)) (by omega) (hp_below' hb G1.out))
          have M2 := Lib.hid (hp_below' hb G2.out)
          have M3 := Lib.hid (hp_row (g := w1.heap.size) (cs := img (bhd m l l)) (by omega) (hp_below' hb G3.out))
          have M4 := Lib.hid (hp_row (g := w1.heap.size) (cs := img (bhd m l l)) (by omega) (hp_below' hb G4.out))
          have M5 := Lib.hid (bl_row (g := w1.heap.size) (bl_then G5.out hb) (by omega) (img (bhd m l l)))
          have M6 := Lib.hid (setRow_heap w4 w1.heap.size _ (img (bhd m l l)) _ _ M2.out)
          clear hb c0
          go_wp2_with (refine st_im w1.heap.size HB2.out M2.out (by rw [img_size, HLL.out]) rfl _ _ rfl rfl rfl ?_)
          go_roundw
          case rel => exact ⟨j / 2, by go_num, Lib.hid ⟨HQ.out, o, bhd m l l, HO.out, HB2.out, HOT.out, HBT.out, HR.out, M1.out, M6.out, M3.out, ⟨c, M4.out, G4'.out⟩, M5.out⟩⟩
          case measure => simp [intOf]; omega
end Go.Proofs.Ytpebnldoimoahaa
