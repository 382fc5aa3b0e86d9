/- The walks of trans.Kernel and the reference's Kernel. -/
import Derived.Test.YtpebnldoimoahaaRImg
import Derived.Test.YtpebnldoimoahaaMake
namespace Go.Proofs.Ytpebnldoimoahaa
open Go.RowKit Go.Proofs.YtpebnldoimoahaaW.PrintWords
/-- The least point that goes where i goes. -/
def kr (L : List Nat) (i : Nat) : Nat := ((List.range (i + 1)).find? fun k => L.getD k 0 == L.getD i 0).getD 0
theorem kr_eq {L : List Nat} {i j : Nat} (hj : j ≤ i) (h : ∀ k, k < j → L.getD k 0 ≠ L.getD i 0) (he : L.getD j 0 = L.getD i 0) : kr L i = j := by
  have : (List.range (i + 1)).find? (fun k => L.getD k 0 == L.getD i 0) = some j := by
    rw [List.find?_range_eq_some]
    refine ⟨by simpa using he, by simp; omega, fun k hk => by simpa using h k hk⟩
  unfold kr
  rw [this]; rfl
theorem kr_spec (L : List Nat) (i : Nat) : kr L i ≤ i ∧ L.getD (kr L i) 0 = L.getD i 0 ∧ ∀ k, k < kr L i → L.getD k 0 ≠ L.getD i 0 := by
  have hex : ∃ j, j ≤ i ∧ (∀ k, k < j → L.getD k 0 ≠ L.getD i 0) ∧ L.getD j 0 = L.getD i 0 := by
    have key : ∀ m, (∃ j, j ≤ m ∧ L.getD j 0 = L.getD i 0) → ∃ j, j ≤ m ∧ (∀ k, k < j → L.getD k 0 ≠ L.getD i 0) ∧ L.getD j 0 = L.getD i 0 := by
      intro m
      induction m using Nat.strongRecOn with
      | ind m ih =>
        rintro ⟨j, hj, he⟩
        by_cases hk : ∃ k, k < j ∧ L.getD k 0 = L.getD i 0
        · obtain ⟨k, hk, hke⟩ := hk
          obtain ⟨j', h1, h2, h3⟩ := ih k (by omega) ⟨k, Nat.le_refl _, hke⟩
          exact ⟨j', by omega, h2, h3⟩
        · exact ⟨j, hj, fun k hkj hke => hk ⟨k, hkj, hke⟩, he⟩
    exact key i ⟨i, Nat.le_refl _, rfl⟩
  obtain ⟨j, h1, h2, h3⟩ := hex
  rw [kr_eq h1 h2 h3]
  exact ⟨h1, h3, h2⟩
theorem kr_congr {L M : List Nat} {i : Nat} (h : ∀ k, k ≤ i → L.getD k 0 = M.getD k 0) : kr L i = kr M i := by
  obtain ⟨h1, h2, h3⟩ := kr_spec M i
  refine kr_eq h1 (fun k hk => ?_) ?_
  · rw [h k (by omega), h i (Nat.le_refl _)]; exact h3 k hk
  · rw [h _ h1, h i (Nat.le_refl _)]; exact h2
def krl (l : List Nat) : List Nat := (List.range l.length).map (kr l)
theorem krl_len (l : List Nat) : (krl l).length = l.length := by simp [krl]
/-- The list while point k stands at j. -/
def krp (L : List Nat) (n k j : Nat) : List Nat := (List.range n).map fun i => if i < k then kr L i else if i = k then j else 0
theorem krp_len (L : List Nat) (n k j : Nat) : (krp L n k j).length = n := by simp [krp]
theorem krp_start (L : List Nat) (n : Nat) : krp L n 0 0 = List.replicate n 0 := by
  apply List.ext_getElem (by simp [krp])
  intro i h1 h2
  simp [krp]
theorem krp_get (L : List Nat) (n k j : Nat) (h : k < n) : (krp L n k j).getD k 0 = j := by simp [krp, List.getD_eq_getElem?_getD, h]
theorem krp_set (L : List Nat) (n k j x : Nat) : (krp L n k j).set k x = krp L n k x := by
  apply List.ext_getElem (by simp [krp])
  intro i h1 h2
  simp only [krp, List.getElem_set, List.getElem_map, List.getElem_range]
  by_cases e : k = i
  · subst e; simp
  · rw [if_neg e]
    by_cases hi : i < k
    · simp [hi]
    · simp [hi, show i ≠ k by omega]
theorem krp_next (L : List Nat) (n k : Nat) : krp L n k (kr L k) = krp L n (k + 1) 0 := by
  apply List.ext_getElem (by simp [krp])
  intro i h1 h2
  simp only [krp, List.getElem_map, List.getElem_range]
  by_cases hi : i < k
  · simp [hi, show i < k + 1 by omega]
  · by_cases e : i = k
    · subst e; simp
    · simp [hi, e, show ¬ i < k + 1 by omega]
theorem krp_end {L l : List Nat} {n : Nat} (hl : l.length = n) (h : ∀ i, i < n → l.getD i 0 = L.getD i 0) : krp L n n 0 = krl l := by
  apply List.ext_getElem (by simp [krp, krl, hl])
  intro i h1 h2
  have hi : i < n := by rw [krp_len] at h1; exact h1
  simp only [krp, krl, List.getElem_map, List.getElem_range, if_pos hi]
  exact (kr_congr fun k hk => h k (by omega)).symm
/-- A row of the call's own, as a list. -/
theorem own_img {w : World} {g base : Nat} {l : List Nat} {n : Nat} (h : w.heap[g]? = some (.cells (img l) 3 (0, 0))) (hb : base ≤ g) (hl : l.length = n) (hn : n ≤ 1000000) : Own w base (.slice (some ⟨g, 0, none⟩) n n) (zl l) := by
  refine Kd.R_of_own ⟨by simp [encs, zl, hl], .inr ⟨g, n, img l, by simp [zl, hl], hb, h, by simp [zl, hl], by unfold maxLen; omega, by rw [img_size, hl]; omega, ?_⟩⟩ (fun _ _ => trivial)
  rw [zl_len, hl, Nat.mul_one, List.take_of_length_le (by simp [img, hl])]
  simp [img, encs, zl]
set_option maxRecDepth 100000 in
set_option maxHeartbeats 2000000 in
theorem kernel_any (n : Int) (ws : List Nat) (hl : ws.length = 7) (hw : Hid (∀ i, ws.getD i 0 < 18446744073709551616)) (w : World) :
    Calls Try.prog 36 #[.agg (tvv n ws)] w (RlR (krl (lsT (goodT n ws) n.toNat ws)) (chkE (goodT n ws)) w) := by
  have HL := Lib.hid hl; clear hl
  have HZ := Lib.hid (tvv_zero n ws)
  go_enter Try.func36, Try.ntmps36
  go_wp2_with (refine ld_tr w.heap.size HL.out (hp_new rfl) rfl _ rfl rfl ?_)
  refine (open_any n ws HL.out hw _).mono ?_
  rintro e w1 ⟨L, hl, rfl, hi, hb⟩
  have HLL := Lib.hid hl; have HI := Lib.hid hi
  have A1 := Lib.hid (hp_below' hb (hp_new (w := w) (o := .cells (tvv n ws) 26) rfl))
  have HB := Lib.hid (bl_then (bl_alloc (Below.refl _ w) _) hb)
  clear hi hl hb
  have B1 := Lib.hid (hp_old (o := .cells (img L) 98) A1.out)
  have B3 := Lib.hid (hp_new (w := w1) (o := .cells (img L) 98) rfl)
  have D1 : (w1.alloc (.cells (img L) 98)).cell? ⟨w.heap.size, 0, none⟩ = some (.int .i64 n) := by rw [cell_of_row _ _ _ _ _ _ B1.out, HZ.out]
  generalize hgb : goodT n ws = b at *
  have HGB := Lib.hid hgb; clear hgb
  cases b with
  | false =>
    go_wp2_with (refine st_im_new HLL.out rfl rfl _ _ rfl rfl rfl ?_)
    go_ret2
    exact ⟨_, rfl, Kd.R_nil _ _ _ _ _, bl_alloc HB.out _⟩
  | true =>
    obtain ⟨hn1, hn64, _, _⟩ := goodT_spec HGB.out
    obtain ⟨m, rfl⟩ := Int.eq_ofNat_of_zero_le (show 0 ≤ n by omega)
    obtain rfl := HI.out rfl
    rw [Int.toNat_natCast] at *
    have hm : m ≤ 64 := by omega
    clear hn1 hn64 HI
    have HEL := Lib.hid (show ∀ i, i < m → (imk m ws).getD i 0 = (ims m ws).getD i 0 from fun i hi => by rw [imk_getD _ _ _ hi, ims_getD, if_pos ⟨hi, by omega⟩])
    generalize ims m ws = L at *
    go_wp2_with (first | (refine st_im_new HLL.out rfl rfl _ _ rfl rfl rfl ?_) | (refine wpl_make m (by omega) rfl _ _ rfl rfl rfl ?_))
    have hsz : w.heap.size < w1.heap.size := hp_lt A1.out
    have HS : Hid (((w1.alloc (.cells (img L) 98)).alloc (.cells (img (List.replicate m 0)) 3)).heap[w1.heap.size]? = some (.cells (img L) 98 (0, 0)) ∧ ((w1.alloc (.cells (img L) 98)).alloc (.cells (img (List.replicate m 0)) 3)).heap[w1.heap.size + 1]? = some (.cells (img (List.replicate m 0)) 3 (0, 0)) ∧ Below w.heap.size w ((w1.alloc (.cells (img L) 98)).alloc (.cells (img (List.replicate m 0)) 3))) :=
      Lib.hid ⟨hp_old B3.out, hp_new (by simp), bl_alloc (bl_alloc HB.out _) _⟩
    clear D1
    generalize w1.heap.size = D at *
    clear B1 B3 A1
    go_loopw [20] (fun i wr => ∃ k : Nat, k ≤ m ∧ i = .int .i64 k ∧ Hid (wr.heap[D]? = some (.cells (img L) 98 (0, 0)) ∧ wr.heap[D + 1]? = some (.cells (img (krp L m k 0)) 3 (0, 0)) ∧ Below w.heap.size w wr)) (fun i _ => m - (intOf i).toNat)
    case atStart => exact ⟨0, by omega, rfl, by rw [krp_start]; exact HS⟩
    case round =>
      obtain ⟨k, hk, rfl, H⟩ := hrel
      by_cases hkm : k < m
      · go_wp2
        have HSP := Lib.hid (kr_spec L k)
        go_loopw [] (fun wi => ∃ j : Nat, j ≤ k ∧ wi.cell? ⟨D + 1, k, none⟩ = some (.int .i64 j) ∧ Hid ((∀ q, q < j → L.getD q 0 ≠ L.getD k 0) ∧ wi.heap[D]? = some (.cells (img L) 98 (0, 0)) ∧ wi.heap[D + 1]? = some (.cells (img (krp L m k j)) 3 (0, 0)) ∧ Below w.heap.size w wi)) (fun wi => m - (intOf ((wi.cell? ⟨D + 1, k, none⟩).getD undef)).toNat)
        case atStart =>
          exact ⟨0, by omega, by rw [cell_of_row _ _ _ _ _ _ H.out.2.1, img_get _ _ (by rw [krp_len]; exact hkm), krp_get _ _ _ _ hkm], Lib.hid ⟨by omega, H.out⟩⟩
        case round =>
          obtain ⟨j, hj, c1, HJ⟩ := hrel
          have f1 : wr.frozen? ⟨D + 1, k, none⟩ = false := frozen_of_row _ _ _ _ _ HJ.out.2.2.1
          have c2 : wr.cell? ⟨D, j, none⟩ = some (.int .i64 ((L.getD j 0 : Nat) : Int)) := by rw [cell_of_row _ _ _ _ _ _ HJ.out.2.1, img_get _ _ (by rw [HLL.out]; omega)]
          have c3 : wr.cell? ⟨D, k, none⟩ = some (.int .i64 ((L.getD k 0 : Nat) : Int)) := by rw [cell_of_row _ _ _ _ _ _ HJ.out.2.1, img_get _ _ (by rw [HLL.out]; omega)]
          have hj64 : j < 64 := by omega
          have hk64 : k < 64 := by omega
          by_cases he : L.getD j 0 = L.getD k 0
          · have HE : Hid (wr.heap[D + 1]? = some (.cells (img (krp L m (k + 1) 0)) 3 (0, 0))) := Lib.hid (by
              rw [← krp_next, kr_eq hj HJ.out.1 he]; exact HJ.out.2.2.1)
            rw [he] at c2
            clear he
            generalize L.getD k 0 = y at *
            go_wp2
            go_quiet (fail)
            go_wp2
            go_roundw
            case rel => exact ⟨k + 1, by omega, by go_num, Lib.hid ⟨HJ.out.2.1, HE.out, bl_drewN HJ.out.2.2.2 _⟩⟩
            case measure => simp [intOf]; omega
          · have hjk : j < k := by
              apply Classical.byContradiction
              intro h
              exact he (by rw [show j = k by omega])
            have HN : Hid (∀ q, q < j + 1 → L.getD q 0 ≠ L.getD k 0) := Lib.hid (fun q hq => by
              by_cases e : q = j
              · subst e; exact he
              · exact HJ.out.1 q (by omega))
            have hne : (((L.getD j 0 : Nat) : Int) != ((L.getD k 0 : Nat) : Int)) = true := by rw [bne_iff_ne]; omega
            clear he
            generalize L.getD j 0 = x at *
            generalize L.getD k 0 = y at *
            go_wp2
            go_quiet (fail)
            go_wp2
            go_roundw
            case rel =>
              have hq : ((wr.drewN nq).setCell ⟨D + 1, k, none⟩ (.int .i64 ((j : Int) + 1))).heap[D + 1]? = some (.cells (img (krp L m k (j + 1))) 3 (0, 0)) := by
                rw [heap_setCell_same _ _ _ _ _ _ (show (wr.drewN nq).heap[D + 1]? = _ from HJ.out.2.2.1), show (j : Int) + 1 = ((j + 1 : Nat) : Int) by omega, img_set, krp_set]
              exact ⟨j + 1, by omega, by rw [cell_of_row _ _ _ _ _ _ hq, img_get _ _ (by rw [krp_len]; exact hkm), krp_get _ _ _ _ hkm], Lib.hid ⟨HN.out, hp_cell (by simp) HJ.out.2.1, hq, bl_cell (bl_drewN HJ.out.2.2.2 _) (by show w.heap.size ≤ D + 1; omega) _⟩⟩
            case measure =>
              have hq : ((wr.drewN nq).setCell ⟨D + 1, k, none⟩ (.int .i64 ((j : Int) + 1))).heap[D + 1]? = some (.cells (img (krp L m k (j + 1))) 3 (0, 0)) := by
                rw [heap_setCell_same _ _ _ _ _ _ (show (wr.drewN nq).heap[D + 1]? = _ from HJ.out.2.2.1), show (j : Int) + 1 = ((j + 1 : Nat) : Int) by omega, img_set, krp_set]
              have hq2 := cell_of_row _ _ k _ _ _ hq
              rw [img_get _ _ (by rw [krp_len]; exact hkm), krp_get _ _ _ _ hkm] at hq2
              rw [hq2, c1]
              simp [intOf]; omega
      · have : k = m := by omega
        subst this
        go_wp2
        go_ret2
        exact ⟨_, rfl, by rw [lsT_true, ← krp_end (imk_len k ws) HEL.out]; exact own_img H.out.2.1 (by omega) (krp_len _ _ _ _) (by omega), H.out.2.2⟩
end Go.Proofs.Ytpebnldoimoahaa
