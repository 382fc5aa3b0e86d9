/- The walk of the reference's Power. -/
import Derived.Test.YtpebnldoimoahaaRfF
namespace Go.Proofs.Ytpebnldoimoahaa
open Go.RowKit Go.Proofs.YtpebnldoimoahaaW.PrintWords
set_option linter.unusedSimpArgs false
/-- The reference's loop. -/
def rpl (o l : List Nat) (k : Nat) : List Nat :=
  if _h : k = 0 then o else rpl (if k % 2 = 1 then thn o l else o) (thn l l) (k / 2)
termination_by k
decreasing_by omega
/-- Two lists of images that say the same of n points, each of them within. -/
def Agr (n : Nat) (o O : List Nat) : Prop := o.length = n ∧ O.length = 64 ∧ ∀ i, i < n → o.getD i 0 = O.getD i 0 ∧ o.getD i 0 < n
theorem Agr.thn {n : Nat} {o O l L : List Nat} (hn : n ≤ 64) (h : Agr n o O) (h' : Agr n l L) : Agr n (thn o l) (bhd n O L) :=
  ⟨by rw [thn_len, h.1], bhd_len _ _ _, fun i hi => by
    obtain ⟨h1, h2⟩ := h.2.2 i hi
    obtain ⟨h3, h4⟩ := h'.2.2 _ h2
    rw [thn_getD _ _ _ (by rw [h.1]; exact hi)]
    refine ⟨?_, h4⟩
    have h5 : i < 64 := by omega
    simp only [bhd, List.getD_eq_getElem?_getD, List.getElem?_map, List.getElem?_range h5, Option.map_some, Option.getD_some, if_pos hi]
    rw [← List.getD_eq_getElem?_getD, ← List.getD_eq_getElem?_getD, ← List.getD_eq_getElem?_getD, ← List.getD_eq_getElem?_getD, h3, h1]⟩
theorem Agr.pow {n : Nat} (hn : n ≤ 64) : ∀ (k : Nat) {o O l L : List Nat}, Agr n o O → Agr n l L → Agr n (rpl o l k) (pwl n O L k) := by
  intro k
  induction k using Nat.strongRecOn with
  | ind k ih =>
    intro o O l L h h'
    rw [rpl, pwl]
    by_cases hk : k = 0
    · rw [dif_pos hk, dif_pos hk]; exact h
    · rw [dif_neg hk, dif_neg hk]
      refine ih _ (by omega) ?_ (h'.thn hn h')
      split
      · exact h.thn hn h'
      · exact h
theorem Agr.pks {n : Nat} {o O : List Nat} (h : Agr n o O) : pks o n = pks O n := pks_ext _ _ _ fun i hi => (h.2.2 i hi).1
theorem agr_imk {n : Nat} {ws : List Nat} (hn : n ≤ 64) (h : ∀ i, i < n → im ws i < n) : Agr n (imk n ws) (ims n ws) :=
  ⟨imk_len _ _, ims_len _ _, fun i hi => by rw [imk_getD _ _ _ hi, ims_getD, if_pos ⟨hi, by omega⟩]; exact ⟨rfl, h i hi⟩⟩
theorem agr_range {n : Nat} (hn : n ≤ 64) : Agr n (List.range n) (List.range 64) :=
  ⟨by simp, by simp, fun i hi => by simp [hi, show i < 64 by omega]⟩
theorem mod_in (j : Nat) : decide (((j : Int) % 2) = 1) = decide (j % 2 = 1) := by
  congr 1; apply propext; omega
/-- A loop's state of the reference's Power. -/
def Rw (w wr : World) (n : Nat) (ws : List Nat) : Prop :=
  wr.heap[w.heap.size]? = some (.cells (tvv n ws) 26 (0, 0)) ∧ (∃ c, wr.heap[w.heap.size + 1]? = some (.cells c 26 (0, 0)) ∧ c.size = 8) ∧ Below w.heap.size w wr
theorem Rw.keep {w u v : World} {n : Nat} {ws : List Nat} (h : Rw w u n ws) (hb : Below u.heap.size u v) : Rw w v n ws :=
  ⟨hp_below' hb h.1, by obtain ⟨c, h1, h2⟩ := h.2.1; exact ⟨c, hp_below' hb h1, h2⟩, bl_then h.2.2 hb⟩
set_option maxRecDepth 100000 in
set_option maxHeartbeats 2000000 in
theorem rpower_any (n : Int) (ws : List Nat) (k : Nat) (hl : ws.length = 7) (hw : Hid (∀ i, ws.getD i 0 < 18446744073709551616)) (hk : Hid (k < 18446744073709551616)) (w : World) :
    Calls Try.prog 29 #[.agg (tvv n ws), .int .u64 k] w fun e w' => e = .returned (.tuple #[.agg (tvv (powT n ws k).1 (powT n ws k).2.1), .int .i64 (powT n ws k).2.2]) ∧ Below w.heap.size w w' := by
  have HL := Lib.hid hl; clear hl
  go_enter Try.func29, Try.ntmps29
  go_wp2_with (refine ld_tr w.heap.size HL.out (hp_old (hp_new rfl)) rfl _ rfl rfl ?_)
  refine (rlist_any n ws HL.out hw _).mono ?_
  rintro e w1 ⟨v, rfl, ho, hb⟩
  have A1 := Lib.hid (hp_below' hb (hp_old (hp_new (w := w) (o := .cells (tvv n ws) 26) rfl)))
  have A2 := Lib.hid (hp_below' hb (hp_new (w := w.alloc (.cells (tvv n ws) 26)) rfl))
  have HW := Lib.hid (bl_then (bl_alloc (bl_alloc (Below.refl _ w) _) _) hb)
  rw [World.size_alloc] at A2
  have HO := Aside0.mk ho
  clear hb ho
  generalize hb1 : goodT n ws = b1 at *
  have HB1 := Lib.hid hb1
  clear hb1
  cases b1 with
  | false =>
    have HX : Hid (powT n ws k = (0, List.replicate 7 0, 130)) := Lib.hid (by unfold powT; rw [HB1.out]; rfl)
    go_wp2_with (refine st_tr (w.heap.size + 1) (n := 0) (l := List.replicate 7 0) (by simp) A2.out rfl rfl _ _ rfl rfl rfl ?_)
    refine bodyPost_ret (v := .tuple #[.agg (tvv 0 (List.replicate 7 0)), .int .i64 130]) ?_ rfl ⟨by rw [HX.out], bl_row HW.out (by omega) _⟩
    refine (results_cell_tmp (p := 4) (t := 5) (by rfl) _ _ (w.heap.size + 1) 26 _ _ _ ?_ (setRow_heap _ _ _ _ _ _ A2.out) Try.underlying26 rfl (tr_z _ _ (by simp))).trans ?_ <;> rfl
  | true =>
    obtain ⟨hn1, hn64, hin, _⟩ := goodT_spec HB1.out
    obtain ⟨m, rfl⟩ := Int.eq_ofNat_of_zero_le (show 0 ≤ n by omega)
    rw [Int.toNat_natCast] at *
    have hm : m ≤ 64 := by omega
    have HX : Hid (powT m ws k = ((m : Int), pks (rpl (List.range m) (imk m ws) k) m, 0)) := Lib.hid (by
      unfold powT; rw [HB1.out, if_pos rfl, Int.toNat_natCast, (Agr.pow hm k (agr_range hm) (agr_imk hm hin)).pks])
    have HAG := Lib.hid (agr_imk hm hin)
    clear hn1 hn64 hin
    obtain ⟨A, c, rfl, _, hC⟩ := own_slice m (l := imk m ws) (imk_len _ _) HO.out
    have HC := Aside0.mk hC
    clear hC HO
    go_wp2_with fail
    refine (rest_any m (by omega) _).mono ?_
    rintro e w2 ⟨v, rfl, ho, hb⟩
    obtain ⟨B, d, rfl, _, hD⟩ := own_slice m (l := List.range m) (by simp) ho
    have HR : Hid (Rw w w2 m ws ∧ Kd.C (Kd.int .i64) w2 A m (zl (imk m ws)) ∧ Kd.C (Kd.int .i64) w2 B m (zl (List.range m))) :=
      Lib.hid ⟨(show Rw w w1 m ws from ⟨A1.out, ⟨_, A2.out, rfl⟩, HW.out⟩).keep hb, Kd.C_below HC.out hb, hD⟩
    clear hb ho hD HC A1 A2 HW
    go_wp2_with fail
    go_loopw [1, 6, 8] (fun x l o wr => ∃ j : Nat, x = .int .u64 j ∧ ∃ P p Q q, l = .slice P m p ∧ o = .slice Q m q ∧ Hid (j < 18446744073709551616 ∧ ∃ ol ll OL LL, Agr m ol OL ∧ Agr m ll LL ∧ rpl ol ll j = rpl (List.range m) (imk m ws) k ∧ Rw w wr m ws ∧ Kd.C (Kd.int .i64) wr P m (zl ll) ∧ Kd.C (Kd.int .i64) wr Q m (zl ol))) (fun x _ _ _ => (intOf x).toNat)
    case atStart =>
      exact ⟨k, rfl, A, c, B, d, rfl, rfl, Lib.hid ⟨hk.out, _, _, _, _, agr_range hm, HAG.out, rfl, HR.out.1, HR.out.2.1, HR.out.2.2⟩⟩
    case round =>
      obtain ⟨j, rfl, P, p, Q, q, rfl, rfl, H⟩ := hrel
      obtain ⟨hj, ol, ll, OL, LL, ao, al, hpw, g1, g2, g3⟩ := H.out
      have G1 := Lib.hid g1; have G2 := Aside0.mk g2; have G3 := Aside0.mk g3
      have AO := Lib.hid ao; have AL := Lib.hid al; have HPW := Lib.hid hpw; have HJ := Lib.hid hj
      clear g1 g2 g3 ao al hpw hj H
      have hll : ∀ i, i < m → ll.getD i 0 < m := fun i hi => (AL.out.2.2 i hi).2
      have hol : ∀ i, i < m → ol.getD i 0 < m := fun i hi => (AO.out.2.2 i hi).2
      have HLL := Lib.hid hll; have HOL := Lib.hid hol
      clear hll hol
      by_cases hj0 : j = 0
      · subst hj0
        have HE : Hid (rpl (List.range m) (imk m ws) k = ol) := Lib.hid (by rw [← HPW.out, rpl]; simp)
        have HLT : Hid (∀ i, ol.getD i 0 < 64) := Lib.hid (fun i => by
          by_cases h : i < m
          · have := HOL.out i h; omega
          · rw [List.getD_eq_getElem?_getD, List.getElem?_eq_none (by rw [AO.out.1]; omega)]; decide)
        clear HPW
        go_wp2_with fail
        refine (packed_at Q q ol m AO.out.1 _ G3.out hm HLT.out).mono ?_
        rintro e w3 ⟨rfl, hb⟩
        have K := Lib.hid (G1.out.keep hb)
        obtain ⟨k1, ⟨cc, k2, k2'⟩, k3⟩ := K.out
        have K2 := Lib.hid k2; have K2' := Lib.hid k2'; have K3 := Lib.hid k3
        clear hb k1 k2 k2' k3
        go_wp2_with (refine st_tr (w.heap.size + 1) (pks_len _ _) K2.out K2'.out rfl _ _ rfl rfl rfl ?_)
        refine bodyPost_ret (v := .tuple #[.agg (tvv m (pks ol m)), .int .i64 0]) ?_ rfl ⟨by rw [HX.out, HE.out], bl_row K3.out (by omega) _⟩
        refine (results_cell_tmp (p := 4) (t := 5) (by rfl) _ _ (w.heap.size + 1) 26 _ _ _ ?_ (setRow_heap _ _ _ _ _ _ K2.out) Try.underlying26 rfl (tr_z _ _ (pks_len _ _))).trans ?_ <;> rfl
      · have hjp : 0 < j := by omega
        clear hj0
        have HQ : Hid (j / 2 < 18446744073709551616) := Lib.hid (by have := HJ.out; omega)
        have hm2 : m ≤ 1000000 := by omega
        have hwr : IntKind.u64.wrap ((j : Int) / 2) = ((j / 2 : Nat) : Int) := by
          have := HJ.out
          rw [IntWalk.u64_in _ ⟨by omega, by omega⟩]; rfl
        by_cases hodd : j % 2 = 1
        · have hbit : ((j : Int) % 2 == 1) = true := by rw [beq_iff_eq]; omega
          have HN : Hid (rpl (thn ol ll) (thn ll ll) (j / 2) = rpl (List.range m) (imk m ws) k) := Lib.hid (by
            rw [← HPW.out]
            conv => rhs; rw [rpl]
            rw [dif_neg (by omega), if_pos hodd])
          clear hodd
          go_wp2_with fail
          refine (then_at Q q ol P p ll m m AO.out.1 AL.out.1 hm2 HOL.out _ G3.out G2.out).mono ?_
          rintro e w3 ⟨v, rfl, ho, hb⟩
          obtain ⟨X, x, rfl, _, hX⟩ := own_slice m (by rw [thn_len]; exact AO.out.1) ho
          have K1 := Lib.hid (G1.out.keep hb); have K2 := Aside0.mk (Kd.C_below G2.out hb); have K3 := Aside0.mk hX
          clear hb ho hX
          go_wp2_with fail
          refine (then_at P p ll P p ll m m AL.out.1 AL.out.1 hm2 HLL.out _ K2.out K2.out).mono ?_
          rintro e w4 ⟨v, rfl, ho, hb⟩
          obtain ⟨Y, y, rfl, _, hY⟩ := own_slice m (by rw [thn_len]; exact AL.out.1) ho
          have M1 := Lib.hid (K1.out.keep hb); have M2 := Aside0.mk hY; have M3 := Aside0.mk (Kd.C_below K3.out hb)
          clear hb ho hY
          go_wp2_with fail
          go_roundw
          case rel => exact ⟨j / 2, by go_num, Y, y, X, x, rfl, rfl, Lib.hid ⟨HQ.out, _, _, _, _, AO.out.thn hm AL.out, AL.out.thn hm AL.out, HN.out, M1.out, M2.out, M3.out⟩⟩
          case measure => simp [intOf]; omega
        · have hbit : ((j : Int) % 2 == 1) = false := by rw [beq_eq_false_iff_ne]; omega
          have HN : Hid (rpl ol (thn ll ll) (j / 2) = rpl (List.range m) (imk m ws) k) := Lib.hid (by
            rw [← HPW.out]
            conv => rhs; rw [rpl]
            rw [dif_neg (by omega), if_neg hodd])
          clear hodd
          go_wp2_with fail
          refine (then_at P p ll P p ll m m AL.out.1 AL.out.1 hm2 HLL.out _ G2.out G2.out).mono ?_
          rintro e w4 ⟨v, rfl, ho, hb⟩
          obtain ⟨Y, y, rfl, _, hY⟩ := own_slice m (by rw [thn_len]; exact AL.out.1) ho
          have M1 := Lib.hid (G1.out.keep hb); have M2 := Aside0.mk hY; have M3 := Aside0.mk (Kd.C_below G3.out hb)
          clear hb ho hY
          go_wp2_with fail
          go_roundw
          case rel => exact ⟨j / 2, by go_num, Y, y, Q, q, rfl, rfl, Lib.hid ⟨HQ.out, _, _, _, _, AO.out, AL.out.thn hm AL.out, HN.out, M1.out, M2.out, M3.out⟩⟩
          case measure => simp [intOf]; omega
end Go.Proofs.Ytpebnldoimoahaa
