/- The walk of trans.Make. -/
import Derived.Test.YtpebnldoimoahaaTrD
import Derived.Test.YtpebnldoimoahaaWMore
namespace Go.Proofs.Ytpebnldoimoahaa
open Go.RowKit Go.Proofs.YtpebnldoimoahaaW.PrintWords

/-- May each be an image? -/
def okL (l : List Int) : Bool := l.all fun p => decide (0 ≤ p) && decide (p < l.length)
def nats (l : List Int) : List Nat := l.map Int.toNat
/-- The first k of a list, 64 long. -/
def padk (k : Nat) (L : List Nat) : List Nat := (List.range 64).map fun i => if i < k then L.getD i 0 else 0
theorem padk_len (k : Nat) (L : List Nat) : (padk k L).length = 64 := by simp [padk]
theorem padk_zero (L : List Nat) : padk 0 L = List.replicate 64 0 := by
  apply List.ext_getElem (by simp [padk])
  intro i h1 h2
  rw [List.getElem_replicate]
  simp [padk]
theorem padk_getD (k : Nat) (L : List Nat) (i : Nat) : (padk k L).getD i 0 = if i < k ∧ i < 64 then L.getD i 0 else 0 := by
  by_cases h : i < 64
  · simp [padk, h]
  · simp [padk, h]
theorem padk_set (k : Nat) (L : List Nat) : (padk k L).set k (L.getD k 0) = padk (k + 1) L := by
  apply List.ext_getElem (by simp [padk])
  intro i h1 h2
  simp only [padk, List.getElem_set, List.getElem_map, List.getElem_range]
  by_cases e : k = i
  · subst e; simp
  · rw [if_neg e]
    by_cases h : i < k
    · rw [if_pos h, if_pos (by omega)]
    · rw [if_neg h, if_neg (by omega)]
theorem pw_ext (L M : List Nat) (lo : Nat) : ∀ c, (∀ i, i < c → L.getD (lo + i) 0 = M.getD (lo + i) 0) → pw L lo c = pw M lo c
  | 0, _ => rfl
  | c + 1, h => by simp only [pw]; rw [pw_ext L M lo c (fun i hi => h i (by omega)), h c (by omega)]
theorem pks_ext (L M : List Nat) (n : Nat) (h : ∀ i, i < n → L.getD i 0 = M.getD i 0) : pks L n = pks M n := by
  unfold pks
  apply List.map_congr_left
  intro j _
  exact pw_ext L M _ _ fun i hi => h _ (by omega)
theorem pks_padk (L : List Nat) (n : Nat) (hn : n ≤ 64) : pks (padk n L) n = pks L n :=
  pks_ext _ _ _ fun i hi => by rw [padk_getD, if_pos (by omega)]

/-- What Make answers: N, the words, the error. -/
def makeT (l : List Int) : Int × List Nat × Int :=
  if l.length < 1 ∨ 64 < l.length then (0, List.replicate 7 0, 6)
  else if okL l then ((l.length : Int), pks (nats l) l.length, 0) else (0, List.replicate 7 0, 11)
theorem makeT_size {l : List Int} (h : l.length < 1 ∨ 64 < l.length) : makeT l = (0, List.replicate 7 0, 6) := if_pos h
theorem makeT_bad {l : List Int} (h : ¬ (l.length < 1 ∨ 64 < l.length)) (k : Nat) (hk : k < l.length) (hb : ¬ (0 ≤ l.getD k 0 ∧ l.getD k 0 < l.length)) : makeT l = (0, List.replicate 7 0, 11) := by
  unfold makeT
  rw [if_neg h, if_neg]
  intro hh
  unfold okL at hh
  rw [List.all_eq_true] at hh
  have := hh (l.getD k 0) (by simp [List.getD_eq_getElem?_getD, List.getElem?_eq_getElem hk])
  simp at this
  apply hb
  simpa using this
theorem makeT_good {l : List Int} (h : ¬ (l.length < 1 ∨ 64 < l.length)) (hg : ∀ i, i < l.length → 0 ≤ l.getD i 0 ∧ l.getD i 0 < l.length) : makeT l = ((l.length : Int), pks (nats l) l.length, 0) := by
  unfold makeT
  rw [if_neg h, if_pos]
  unfold okL
  rw [List.all_eq_true]
  intro x hx
  obtain ⟨i, hi, rfl⟩ := List.mem_iff_getElem.1 hx
  have := hg i hi
  simp [List.getD_eq_getElem?_getD, List.getElem?_eq_getElem hi] at this
  simpa using this

def Mk (w wr : World) (l : List Nat) : Prop := (∃ c, wr.heap[w.heap.size]? = some (.cells c 26 (0, 0)) ∧ c.size = 8) ∧ wr.heap[w.heap.size + 1]? = some (.cells (img l) 98 (0, 0)) ∧ Below w.heap.size w wr
set_option maxRecDepth 100000 in
set_option maxHeartbeats 800000 in
theorem make_any (A : Option Addr) (c : Nat) (l : List Int) (w : World) (hr : Kd.C (Kd.int .i64) w A l.length l) :
    Calls Try.prog 15 #[.slice A l.length c] w fun e w' => e = .returned (.tuple #[.agg (tvv (makeT l).1 (makeT l).2.1), .int .i64 (makeT l).2.2]) ∧ Below w.heap.size w w' := by
  have HR := Aside0.mk hr
  clear hr
  by_cases hs : l.length < 1 ∨ 64 < l.length
  · rw [makeT_size hs]
    have HS := Lib.hid hs; clear hs
    have hd : (decide ((l.length : Int) < 1) || decide (64 < (l.length : Int))) = true := by
      have := HS.out; simp; omega
    go_enter Try.func15, Try.ntmps15
    go_wp2_with (refine st_tr w.heap.size (n := 0) (l := List.replicate 7 0) (by simp) (hp_new rfl) rfl rfl _ _ rfl rfl rfl ?_)
    all_goals
      refine bodyPost_ret (v := .tuple #[.agg (tvv 0 (List.replicate 7 0)), .int .i64 6]) ?_ rfl ⟨rfl, bl_row (bl_alloc (Below.refl _ _) _) (by omega) _⟩
      refine (results_cell_tmp (p := 2) (t := 3) (by rfl) _ _ w.heap.size 26 _ _ _ ?_ (setRow_heap _ _ _ _ _ _ (hp_new rfl)) Try.underlying26 rfl (tr_z _ _ (by simp))).trans ?_ <;> rfl
  · have hmax : l.length ≤ 64 := by omega
    have hmin : 1 ≤ l.length := by omega
    have HS := Lib.hid hs; clear hs
    go_enter Try.func15, Try.ntmps15
    go_wp2
    go_loopw [19] (fun i wr => ∃ k : Nat, k ≤ l.length ∧ i = .int .i64 k ∧ Hid (∀ i, i < k → 0 ≤ l.getD i 0 ∧ l.getD i 0 < l.length) ∧ Mk w wr (padk k (nats l))) (fun i _ => l.length - (intOf i).toNat)
    case atStart =>
      refine ⟨0, by omega, rfl, Lib.hid (by omega), ?_⟩
      rw [padk_zero]
      exact ⟨⟨_, hp_old (hp_new rfl), rfl⟩, hp_new (by simp), by repeat (first | exact Below.refl _ _ | refine bl_alloc ?_ _)⟩
    case round =>
      obtain ⟨k, hk, rfl, HI, H⟩ := hrel
      obtain ⟨⟨c1, g1, g1'⟩, g2, g3⟩ := H
      by_cases hlt : k < l.length
      · obtain ⟨ad, rfl, hcell⟩ := Kd.at_int (Kd.C_below HR.out g3) k (by omega) (by omega)
        rw [Int.toNat_natCast] at hcell
        have f1 : wr.frozen? ⟨w.heap.size + 1, k, none⟩ = false := frozen_of_row _ _ _ _ _ g2
        have f2 : (wr.cell? ⟨w.heap.size + 1, k, none⟩) = some (.int .i64 0) := by
          rw [cell_of_row _ _ _ _ _ _ g2, img_get _ _ (by rw [padk_len]; omega), padk_getD, if_neg (by omega)]; rfl
        have HX := Lib.hid (show rd l k = l.getD k 0 by unfold rd; rw [Int.toNat_natCast])
        have HN := Lib.hid (show (nats l).getD k 0 = (l.getD k 0).toNat by simp [nats, List.getD_eq_getElem?_getD, List.getElem?_eq_getElem hlt])
        have G1 := Lib.hid g1; have G1' := Lib.hid g1'; have G2 := Lib.hid g2; have G3 := Lib.hid g3
        clear g1 g1' g2 g3
        by_cases hp : 0 ≤ rd l k ∧ rd l k < l.length
        · obtain ⟨hp0, hp1⟩ := hp
          have hd1 : decide (rd l k < 0) = false := by simp; omega
          have hd2 : decide ((l.length : Int) ≤ rd l k) = false := by simp; omega
          have H2 : Mk w (wr.setCell ⟨w.heap.size + 1, k, none⟩ (.int .i64 (rd l k))) (padk (k + 1) (nats l)) := by
            refine ⟨⟨c1, hp_cell (by simp) G1.out, G1'.out⟩, ?_, bl_cell G3.out (by simp) _⟩
            rw [heap_setCell_same _ _ _ _ _ _ G2.out, show rd l k = ((rd l k).toNat : Int) by omega, img_set, ← padk_set, HN.out, HX.out]
          have HI2 : Hid (∀ i, i < k + 1 → 0 ≤ l.getD i 0 ∧ l.getD i 0 < l.length) := Lib.hid (fun i hi => by
            by_cases e : i = k
            · subst e; rw [← HX.out]; exact ⟨hp0, hp1⟩
            · exact HI.out i (by omega))
          have H2 := Lib.hid H2
          generalize rd l k = p at *
          go_wp2
          go_roundw
          case rel => exact ⟨k+1, by omega, by go_num, HI2, H2.out⟩
          case measure => simp [intOf]; omega
        · have hd : (decide (rd l k < 0) || decide ((l.length : Int) ≤ rd l k)) = true := by simp; omega
          have HB := Lib.hid (makeT_bad HS.out k hlt (by rw [← HX.out]; exact hp))
          clear hp
          generalize rd l k = p at *
          go_wp2_with (refine st_tr w.heap.size (n := 0) (l := List.replicate 7 0) (by simp) G1.out G1'.out rfl _ _ rfl rfl rfl ?_)
          all_goals
            refine bodyPost_ret (v := .tuple #[.agg (tvv 0 (List.replicate 7 0)), .int .i64 11]) ?_ rfl ⟨by rw [HB.out], bl_row G3.out (by omega) _⟩
            refine (results_cell_tmp (p := 2) (t := 3) (by rfl) _ _ w.heap.size 26 _ _ _ ?_ (setRow_heap _ _ _ _ _ _ G1.out) Try.underlying26 rfl (tr_z _ _ (by simp))).trans ?_ <;> rfl
      · have : k = l.length := by omega
        subst this
        have HG := Lib.hid (makeT_good HS.out HI.out)
        have G1 := Lib.hid g1; have G1' := Lib.hid g1'; have G2 := Lib.hid g2; have G3 := Lib.hid g3
        clear g1 g1' g2 g3
        go_wp2_with (refine ld_im (w.heap.size + 1) (padk_len _ _) G2.out rfl _ rfl rfl ?_)
        refine (pack_any l.length (padk l.length (nats l)) hmax (padk_len _ _) ?hlt64 _).mono ?_
        case hlt64 =>
          intro i
          rw [padk_getD]
          split
          · rename_i h
            have := HI.out i h.1
            simp [nats, List.getD_eq_getElem?_getD, List.getElem?_eq_getElem h.1] at this ⊢
            omega
          · omega
        rintro e w2 ⟨rfl, hb⟩
        have HB := Lib.hid hb
        clear hb
        have HP := Lib.hid (pks_padk (nats l) l.length hmax)
        have G4 := Lib.hid (hp_below' HB.out G1.out)
        have G5 := Lib.hid (bl_then G3.out HB.out)
        go_wp2_with (refine st_tr w.heap.size (n := l.length) (l := pks (padk l.length (nats l)) l.length) (pks_len _ _) G4.out G1'.out rfl _ _ rfl rfl rfl ?_)
        refine bodyPost_ret (v := .tuple #[.agg (tvv l.length (pks (padk l.length (nats l)) l.length)), .int .i64 0]) ?_ rfl ⟨by rw [HG.out, HP.out], bl_row G5.out (by omega) _⟩
        refine (results_cell_tmp (p := 2) (t := 3) (by rfl) _ _ w.heap.size 26 _ _ _ ?_ (setRow_heap _ _ _ _ _ _ G4.out) Try.underlying26 rfl (tr_z _ _ (pks_len _ _))).trans ?_ <;> rfl
end Go.Proofs.Ytpebnldoimoahaa
