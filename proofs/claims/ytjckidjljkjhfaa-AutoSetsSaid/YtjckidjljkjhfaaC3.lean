/- Merged by tools/merge2.py out of: XRunC XStay8 XRunF XLw8 (a claim bears 60 files at most). -/
import Derived.Test.YtjckidjljkjhfaaPAutoRunsx0
import Derived.Test.YtjckidjljkjhfaaPAutoRunsx2
import Derived.Test.YtjckidjljkjhfaaB1
import Derived.Test.YtjckidjljkjhfaaC2
namespace Go.Proofs.Ytjckidjljkjhfaa.PAutoRuns
open Go.RowKit Go.Proofs.YtjckidjljkjhfaaW.PrintWords Go.Proofs.YtjckidjljkjhfaaW.PrintLast Go.Proofs.YtjckidjljkjhfaaW.PrintMore
attribute [local go_sem] max2_int min2_int max_two min_two max_three min_three max_four min_four   -- for this text's walks alone
set_option linter.unusedVariables false
set_option linter.unusedSimpArgs false

/-! ### eggboxref08_Run: function 14 -/
mutual
def eggboxref08_Run.j0 : Nat → Int → ByteArray → Int → Bool → Int → List Int → List Bool → Option (Int × Int)
  | 0, _, _, _, _, _, _, _ => none
  | k + 1, x1, x2, x8, x23, x141000, x141001, x141002 => if x23 = true then (eggboxref08_Run.j1 k x1 x2 11 x141000 x141001 x141002) else (eggboxref08_Run.j1 k x1 x2 x8 x141000 x141001 x141002)
def eggboxref08_Run.j1 : Nat → Int → ByteArray → Int → Int → List Int → List Bool → Option (Int × Int)
  | 0, _, _, _, _, _, _ => none
  | k + 1, x1, x2, x8, x141000, x141001, x141002 => if x8 = 0 then ((eggboxref01_Check.f k x141000 x2).bind fun t142 => (if t142 = 0 then ((eggboxref08_Go.f k x141000 x141001 x141002 x1 x2).bind fun t143 => (some (t143, 0))) else (some (0, t142)))) else (some (0, x8))
end
def eggboxref08_Run.f (k : Nat) (a0_0 : Int) (l0_1 : List Int) (l0_2 : List Bool) (a1 : Int) (a2 : ByteArray) : Option (Int × Int) := (eggboxref08_Check.f k a0_0 l0_1 l0_2).bind fun t141 => (if t141 = 0 then (if a1 < 0 then (eggboxref08_Run.j0 k a1 a2 t141 true a0_0 l0_1 l0_2) else (eggboxref08_Run.j0 k a1 a2 t141 (decide (a1 ≥ (l0_2.length : Int))) a0_0 l0_1 l0_2)) else (eggboxref08_Run.j0 k a1 a2 t141 false a0_0 l0_1 l0_2))
theorem eggboxref08_Run.mono_l : ∀ k, (∀ y0 y1 y2 y3 y4 y5 y6, LeO (eggboxref08_Run.j0 k y0 y1 y2 y3 y4 y5 y6) (eggboxref08_Run.j0 (k + 1) y0 y1 y2 y3 y4 y5 y6)) ∧ (∀ y0 y1 y2 y3 y4 y5, LeO (eggboxref08_Run.j1 k y0 y1 y2 y3 y4 y5) (eggboxref08_Run.j1 (k + 1) y0 y1 y2 y3 y4 y5))
  | 0 => ⟨fun _ _ _ _ _ _ _ r h => by simp [eggboxref08_Run.j0] at h, fun _ _ _ _ _ _ r h => by simp [eggboxref08_Run.j1] at h⟩
  | k + 1 => by
    obtain ⟨ih0, ih1⟩ := eggboxref08_Run.mono_l k
    refine ⟨?_, ?_⟩
    · intro y0 y1 y2 y3 y4 y5 y6
      unfold eggboxref08_Run.j0
      repeat' first
      | (with_reducible exact ih0 _ _ _ _ _ _ _)
      | (with_reducible exact ih1 _ _ _ _ _ _)
      | (with_reducible exact eggboxref01_Check.mono _ _ _)
      | (with_reducible exact eggboxref08_Check.mono _ _ _ _)
      | (with_reducible exact eggboxref08_Go.mono _ _ _ _ _ _)
      | (with_reducible exact LeO.refl _)
      | (with_reducible exact LeO.none _)
      | (with_reducible refine LeO.ite ?_ ?_)
      | (with_reducible refine LeO.bind ?_ (fun _ => ?_))
      | exact ih0 _ _ _ _ _ _ _
      | exact ih1 _ _ _ _ _ _
      | exact eggboxref01_Check.mono _ _ _
      | exact eggboxref08_Check.mono _ _ _ _
      | exact eggboxref08_Go.mono _ _ _ _ _ _
      | exact LeO.none _
      | refine LeO.ite ?_ ?_
      | refine LeO.bind ?_ (fun _ => ?_)
    · intro y0 y1 y2 y3 y4 y5
      unfold eggboxref08_Run.j1
      repeat' first
      | (with_reducible exact ih0 _ _ _ _ _ _ _)
      | (with_reducible exact ih1 _ _ _ _ _ _)
      | (with_reducible exact eggboxref01_Check.mono _ _ _)
      | (with_reducible exact eggboxref08_Check.mono _ _ _ _)
      | (with_reducible exact eggboxref08_Go.mono _ _ _ _ _ _)
      | (with_reducible exact LeO.refl _)
      | (with_reducible exact LeO.none _)
      | (with_reducible refine LeO.ite ?_ ?_)
      | (with_reducible refine LeO.bind ?_ (fun _ => ?_))
      | exact ih0 _ _ _ _ _ _ _
      | exact ih1 _ _ _ _ _ _
      | exact eggboxref01_Check.mono _ _ _
      | exact eggboxref08_Check.mono _ _ _ _
      | exact eggboxref08_Go.mono _ _ _ _ _ _
      | exact LeO.none _
      | refine LeO.ite ?_ ?_
      | refine LeO.bind ?_ (fun _ => ?_)
theorem eggboxref08_Run.mono : ∀ a0 a1 a2 a3 a4 k, LeO (eggboxref08_Run.f k a0 a1 a2 a3 a4) (eggboxref08_Run.f (k + 1) a0 a1 a2 a3 a4) := by
  intro a0 a1 a2 a3 a4 k
  obtain ⟨ih0, ih1⟩ := eggboxref08_Run.mono_l k
  unfold eggboxref08_Run.f
  repeat' first
      | (with_reducible exact ih0 _ _ _ _ _ _ _)
      | (with_reducible exact ih1 _ _ _ _ _ _)
      | (with_reducible exact eggboxref01_Check.mono _ _ _)
      | (with_reducible exact eggboxref08_Check.mono _ _ _ _)
      | (with_reducible exact eggboxref08_Go.mono _ _ _ _ _ _)
      | (with_reducible exact LeO.refl _)
      | (with_reducible exact LeO.none _)
      | (with_reducible refine LeO.ite ?_ ?_)
      | (with_reducible refine LeO.bind ?_ (fun _ => ?_))
      | exact ih0 _ _ _ _ _ _ _
      | exact ih1 _ _ _ _ _ _
      | exact eggboxref01_Check.mono _ _ _
      | exact eggboxref08_Check.mono _ _ _ _
      | exact eggboxref08_Go.mono _ _ _ _ _ _
      | exact LeO.none _
      | refine LeO.ite ?_ ?_
      | refine LeO.bind ?_ (fun _ => ?_)
set_option maxHeartbeats 8000000 in
set_option maxRecDepth 100000 in
theorem eggboxref08_Run.calls (k : Nat) (a0_0 : Int) (A0_1 : Option Addr) (c0_1 : Nat) (l0_1 : List Int) (A0_2 : Option Addr) (c0_2 : Nat) (l0_2 : List Bool) (a1 : Int) (a2 : ByteArray) (r1 : Int) (r2 : Int) (w : World) (hr0_1 : Kd.C (Kd.int .i64) w A0_1 l0_1.length l0_1) (hc0_1 : l0_1.length ≤ c0_1) (hr0_2 : Kd.C Kd.bool w A0_2 l0_2.length l0_2) (hc0_2 : l0_2.length ≤ c0_2) (h : eggboxref08_Run.f k a0_0 l0_1 l0_2 a1 a2 = some (r1, r2)) :
    Calls Try.prog 14 #[.agg #[.int .i64 a0_0, .slice A0_1 l0_1.length c0_1, .slice A0_2 l0_2.length c0_2], .int .i64 a1, .string a2] w fun e w' => e = .returned (.tuple #[.int .i64 r1, .int .i64 r2]) ∧ Below w.heap.size w w' := by
  have hu25 := Try.underlying25
  have HR0_1 := Aside0.mk hr0_1
  have HC0_1 := Aside0.mk hc0_1
  clear hr0_1 hc0_1
  have HR0_2 := Aside0.mk hr0_2
  have HC0_2 := Aside0.mk hc0_2
  clear hr0_2 hc0_2
  have HB := Aside0.mk (Below.refl w.heap.size w)
  have H : ((eggboxref08_Check.f k a0_0 l0_1 l0_2).bind fun t141 => (if t141 = 0 then (if a1 < 0 then (eggboxref08_Run.j0 k a1 a2 t141 true a0_0 l0_1 l0_2) else (eggboxref08_Run.j0 k a1 a2 t141 (decide (a1 ≥ (l0_2.length : Int))) a0_0 l0_1 l0_2)) else (eggboxref08_Run.j0 k a1 a2 t141 false a0_0 l0_1 l0_2))) = some (r1, r2) := h
  clear h
  replace H := Option.bind_eq_some_iff.mp H
  obtain ⟨t141, A40, H⟩ := H
  replace H : (if t141 = 0 then (if a1 < 0 then (eggboxref08_Run.j0 k a1 a2 t141 true a0_0 l0_1 l0_2) else (eggboxref08_Run.j0 k a1 a2 t141 (decide (a1 ≥ (l0_2.length : Int))) a0_0 l0_1 l0_2)) else (eggboxref08_Run.j0 k a1 a2 t141 false a0_0 l0_1 l0_2)) = some (r1, r2) := H
  have A4 := Aside0.mk A40
  clear A40
  have HC5 := Aside0.mk H
  clear H
  go_enter Try.func14, Try.ntmps14
  go_upto_region 2 with (first | ((with_reducible refine gate_dst (N := 3) rfl ?_); (try (refine gate_guard (by rfl) ?_; dsimp only)); refine box_event ?hg (N := 3) ?hd (cs := #[.int .i64 a0_0, .slice A0_1 l0_1.length c0_1, .slice A0_2 l0_2.length c0_2]) (t := 25) ?hr ?_; (case hd => rfl); (case hg => rfl); (case hr => first | (go_simp; done) | (go_simp; rfl)); intro gb140 hg w6 hbox hb; have n0_ := Aside0.mk (below_step (by repeat (first | (with_reducible first | exact HB.out | apply below_alloc | apply pw_below_drewN | apply below_drew1) | exact HB.out)) hb); have n1_ := Aside0.mk (hbox); have n2_ := Aside0.mk ((by rw [hg]; exact (below_size (by repeat (first | (with_reducible first | exact HB.out | apply below_alloc | apply pw_below_drewN | apply below_drew1) | exact HB.out))) : w.heap.size ≤ gb140)); have n3_ := Aside0.mk ((by rw [hg]; exact (below_size (by repeat (first | (with_reducible first | exact HB.out | apply below_alloc | apply pw_below_drewN | apply below_drew1) | exact HB.out))) : w.heap.size ≤ gb140)); clear HB; have HB := n0_; have BK140 := n1_; have GW140 := n2_; have GE140 := n3_; clear n0_ n1_ n2_ n3_; clear hb hbox hg; have hcz7_0 : w6.cell? ⟨gb140, 0, none⟩ = some (.int .i64 a0_0) := (blk_cell BK140.out 0).trans rfl; have hcz7_1 : w6.cell? ⟨gb140, 1, none⟩ = some (.slice A0_1 l0_1.length c0_1) := (blk_cell BK140.out 1).trans rfl; have hcz7_2 : w6.cell? ⟨gb140, 2, none⟩ = some (.slice A0_2 l0_2.length c0_2) := (blk_cell BK140.out 2).trans rfl; have hfz7_0 := blk_frozen BK140.out 0; have hfz7_1 := blk_frozen BK140.out 1; have hfz7_2 := blk_frozen BK140.out 2) | ((with_reducible refine gate_callee (f := 19) rfl ?_); refine goesL_ (some 10) rfl rfl Try.func19 (by kernel_rfl) rfl #[.agg #[.int .i64 a0_0, .slice A0_1 l0_1.length c0_1, .slice A0_2 l0_2.length c0_2]] rfl (by (try simp only [List.map_toArray, List.map_cons, List.map_nil]); first | done | rfl | (simp only [List.length_drop, List.length_take]; rfl)) ?_; (with_reducible refine (eggboxref08_Check.calls k a0_0 _ _ l0_1 _ _ l0_2 t141 _ ?side1 ?side2 ?side3 ?side4 A4.out).mono ?_); (case side1 => repeat (first | exact (Kd.C_below HR0_1.out HB.out) | (with_reducible refine Kd.C_alloc ?_ _) | (with_reducible refine Kd.C_drewN ?_ _) | (with_reducible refine Kd.C_drew ?_))); (case side2 => exact HC0_1.out); (case side3 => repeat (first | exact (Kd.C_below HR0_2.out HB.out) | (with_reducible refine Kd.C_alloc ?_ _) | (with_reducible refine Kd.C_drewN ?_ _) | (with_reducible refine Kd.C_drew ?_))); (case side4 => exact HC0_2.out); rintro e w8 ⟨rfl, hb⟩; refine ⟨_, rfl, ?_⟩; have n0_ := Aside0.mk (blk_below (g := gb140) (o := .cells #[.int .i64 a0_0, .slice A0_1 l0_1.length c0_1, .slice A0_2 l0_2.length c0_2] 25 (0, 0)) (by (with_reducible repeat (first | refine blk_drewN ?_ _ | refine blk_drew ?_ | refine blk_alloc ?_ _)); exact BK140.out) hb); have n1_ := Aside0.mk (below_step (by repeat (first | (with_reducible first | exact HB.out | apply below_alloc | apply pw_below_drewN | apply below_drew1 | refine below_set ?_ GE140.out) | exact HB.out)) hb); clear BK140; clear HB; have BK140 := n0_; have HB := n1_; clear n0_ n1_; (try clear hb); (try clear hb2); (try clear hk); (try clear hi)))
  (try simp only [Act.put, List.setIfInBounds_toArray, List.set_cons_zero, List.set_cons_succ])
  go_cut [23] (fun v23 wc => ∃ (kq : Nat) (x23_4 : Bool), v23 = .bool x23_4 ∧ Aside0 (eggboxref08_Run.j0 kq a1 a2 t141 x23_4 a0_0 l0_1 l0_2 = some (r1, r2)) ∧ Aside0 (kq ≤ k) ∧ Aside0 (wc.heap[gb140]? = some (.cells #[.int .i64 a0_0, (.slice A0_1 l0_1.length c0_1), (.slice A0_2 l0_2.length c0_2)] 25 (0, 0))) ∧ Aside0 (Below w.heap.size w wc))
  case first =>
    have H := HC5.out
    clear HC5
    by_cases c9 : t141 = 0
    · rw [if_pos c9] at H
      have c9b0 : (t141 == 0) = true := beq_iff_eq.mpr c9
      have c9b1 : (t141 != 0) = false := bne_eq_false_iff_eq.mpr c9
      clear c9
      (first | rw [c9b0] | (simp only [i64_w, i32_w]; rw [c9b0]) | skip)
      by_cases c10 : a1 < 0
      · rw [if_pos c10] at H
        have c10b0 : decide (a1 < 0) = true := decide_eq_true c10
        clear c10
        have H' := Aside0.mk H
        clear H
        go_wp2
        go_meet
        case rel => exact ⟨_, (true), (by first | rfl | (simp; done) | (simp [*]; done)), H', ⟨by first | omega | exact Nat.le_refl _⟩, ⟨by (with_reducible repeat (first | refine blk_drewN ?_ _ | refine blk_drew ?_ | refine blk_alloc ?_ _)); exact BK140.out⟩, ⟨by repeat (first | (with_reducible first | exact HB.out | apply below_alloc | apply pw_below_drewN | apply below_drew1 | refine below_set ?_ GE140.out) | exact HB.out)⟩⟩
      · rw [if_neg c10] at H
        have c10b0 : decide (a1 < 0) = false := decide_eq_false c10
        clear c10
        have H' := Aside0.mk H
        clear H
        have hcz11_0 : w8.cell? ⟨gb140, 0, none⟩ = some (.int .i64 a0_0) := (blk_cell BK140.out 0).trans rfl
        have hcz11_1 : w8.cell? ⟨gb140, 1, none⟩ = some (.slice A0_1 l0_1.length c0_1) := (blk_cell BK140.out 1).trans rfl
        have hcz11_2 : w8.cell? ⟨gb140, 2, none⟩ = some (.slice A0_2 l0_2.length c0_2) := (blk_cell BK140.out 2).trans rfl
        have hfz11_0 := blk_frozen BK140.out 0
        have hfz11_1 := blk_frozen BK140.out 1
        have hfz11_2 := blk_frozen BK140.out 2
        go_wp2
        go_meet
        case rel => exact ⟨_, (decide (a1 ≥ (l0_2.length : Int))), (by first | rfl | (simp; done) | (simp [*]; done)), H', ⟨by first | omega | exact Nat.le_refl _⟩, ⟨by (with_reducible repeat (first | refine blk_drewN ?_ _ | refine blk_drew ?_ | refine blk_alloc ?_ _)); exact BK140.out⟩, ⟨by repeat (first | (with_reducible first | exact HB.out | apply below_alloc | apply pw_below_drewN | apply below_drew1 | refine below_set ?_ GE140.out) | exact HB.out)⟩⟩
    · rw [if_neg c9] at H
      have c9b0 : (t141 == 0) = false := beq_eq_false_iff_ne.mpr c9
      have c9b1 : (t141 != 0) = true := bne_iff_ne.mpr c9
      (first | rw [c9b0] | (simp only [i64_w, i32_w]; rw [c9b0]) | skip)
      have H' := Aside0.mk H
      clear H
      go_wp2
      go_meet
      case rel => exact ⟨_, (false), (by first | rfl | (simp; done) | (simp [*]; done)), H', ⟨by first | omega | exact Nat.le_refl _⟩, ⟨by (with_reducible repeat (first | refine blk_drewN ?_ _ | refine blk_drew ?_ | refine blk_alloc ?_ _)); exact BK140.out⟩, ⟨by repeat (first | (with_reducible first | exact HB.out | apply below_alloc | apply pw_below_drewN | apply below_drew1 | refine below_set ?_ GE140.out) | exact HB.out)⟩⟩
  case rest =>
    clear HC5
    try clear c1
    try clear p2
    try clear c9
    try clear c9b0
    try clear c9b1
    try clear c10
    try clear c10b0
    try clear hcz11_0
    try clear hcz11_1
    try clear hcz11_2
    try clear hcz7_0
    try clear hcz7_1
    try clear hcz7_2
    try clear hfz11_0
    try clear hfz11_1
    try clear hfz11_2
    try clear hfz7_0
    try clear hfz7_1
    try clear hfz7_2
    obtain ⟨kq, x23_4, rfl, HA, HJ4, BK140, HB⟩ := hcut
    cases kq with
    | zero => exact absurd HA.out (by simp [eggboxref08_Run.j0])
    | succ kj4 =>
      have H := HA.out
      clear HA
      simp only [eggboxref08_Run.j0] at H
      have HC12 := Aside0.mk H
      clear H
      go_upto_if 23 with (fail)
      go_cut [8] (fun v8 wc => ∃ (kq : Nat) (x8_11 : Int), v8 = .int .i64 x8_11 ∧ Aside0 (eggboxref08_Run.j1 kq a1 a2 x8_11 a0_0 l0_1 l0_2 = some (r1, r2)) ∧ Aside0 (kq ≤ kj4) ∧ Aside0 (wc.heap[gb140]? = some (.cells #[.int .i64 a0_0, (.slice A0_1 l0_1.length c0_1), (.slice A0_2 l0_2.length c0_2)] 25 (0, 0))) ∧ Aside0 (Below w.heap.size w wc))
      case first =>
        have H := HC12.out
        clear HC12
        by_cases c13 : x23_4 = true
        · subst c13
          have H1 : (eggboxref08_Run.j1 kj4 a1 a2 11 a0_0 l0_1 l0_2) = some (r1, r2) := by rw [if_pos rfl] at H; exact H
          clear H
          have H := H1
          clear H1
          have H' := Aside0.mk H
          clear H
          go_wp2
          go_meet
          case rel => exact ⟨_, (11), (by first | rfl | (simp; done) | (simp [*]; done)), H', ⟨by have := HJ4.out; first | omega | exact Nat.le_refl _⟩, ⟨by (with_reducible repeat (first | refine blk_drewN ?_ _ | refine blk_drew ?_ | refine blk_alloc ?_ _)); exact BK140.out⟩, ⟨by repeat (first | (with_reducible first | exact HB.out | apply below_alloc | apply pw_below_drewN | apply below_drew1 | refine below_set ?_ GE140.out) | exact HB.out)⟩⟩
        · replace c13 := Bool.eq_false_iff.mpr c13
          subst c13
          have H1 : (eggboxref08_Run.j1 kj4 a1 a2 t141 a0_0 l0_1 l0_2) = some (r1, r2) := by rw [if_neg (show ¬ (false = true) by decide)] at H; exact H
          clear H
          have H := H1
          clear H1
          have H' := Aside0.mk H
          clear H
          go_wp2
          go_meet
          case rel => exact ⟨_, (t141), (by first | rfl | (simp; done) | (simp [*]; done)), H', ⟨by have := HJ4.out; first | omega | exact Nat.le_refl _⟩, ⟨by (with_reducible repeat (first | refine blk_drewN ?_ _ | refine blk_drew ?_ | refine blk_alloc ?_ _)); exact BK140.out⟩, ⟨by repeat (first | (with_reducible first | exact HB.out | apply below_alloc | apply pw_below_drewN | apply below_drew1 | refine below_set ?_ GE140.out) | exact HB.out)⟩⟩
      case rest =>
        clear HC12
        try clear c1
        try clear p2
        try clear c9
        try clear c9b0
        try clear c9b1
        try clear c10
        try clear c10b0
        try clear c13
        try clear hcz11_0
        try clear hcz11_1
        try clear hcz11_2
        try clear hcz7_0
        try clear hcz7_1
        try clear hcz7_2
        try clear hfz11_0
        try clear hfz11_1
        try clear hfz11_2
        try clear hfz7_0
        try clear hfz7_1
        try clear hfz7_2
        try clear p2
        obtain ⟨kq, x8_11, rfl, HA, HJ11, BK140, HB⟩ := hcut
        cases kq with
        | zero => exact absurd HA.out (by simp [eggboxref08_Run.j1])
        | succ kj11 =>
          have H := HA.out
          clear HA
          simp only [eggboxref08_Run.j1] at H
          by_cases c14 : x8_11 = 0
          · rw [if_pos c14] at H
            have c14b0 : (x8_11 == 0) = true := beq_iff_eq.mpr c14
            have c14b1 : (x8_11 != 0) = false := bne_eq_false_iff_eq.mpr c14
            clear c14
            replace H := Option.bind_eq_some_iff.mp H
            obtain ⟨t142, A150, H⟩ := H
            replace H : (if t142 = 0 then ((eggboxref08_Go.f kj11 a0_0 l0_1 l0_2 a1 a2).bind fun t143 => (some (t143, 0))) else (some (0, t142))) = some (r1, r2) := H
            have A15 := Aside0.mk A150
            clear A150
            by_cases c16 : t142 = 0
            · rw [if_pos c16] at H
              have c16b0 : (t142 == 0) = true := beq_iff_eq.mpr c16
              have c16b1 : (t142 != 0) = false := bne_eq_false_iff_eq.mpr c16
              clear c16
              replace H := Option.bind_eq_some_iff.mp H
              obtain ⟨t143, A170, H⟩ := H
              replace H : (some (t143, 0)) = some (r1, r2) := H
              have A17 := Aside0.mk A170
              clear A170
              simp only [Option.some.injEq, Prod.mk.injEq] at H
              obtain ⟨rfl, rfl⟩ := H
              have hcz18_0 : wc.cell? ⟨gb140, 0, none⟩ = some (.int .i64 a0_0) := (blk_cell BK140.out 0).trans rfl
              have hcz18_1 : wc.cell? ⟨gb140, 1, none⟩ = some (.slice A0_1 l0_1.length c0_1) := (blk_cell BK140.out 1).trans rfl
              have hcz18_2 : wc.cell? ⟨gb140, 2, none⟩ = some (.slice A0_2 l0_2.length c0_2) := (blk_cell BK140.out 2).trans rfl
              have hfz18_0 := blk_frozen BK140.out 0
              have hfz18_1 := blk_frozen BK140.out 1
              have hfz18_2 := blk_frozen BK140.out 2
              go_wp2_with (first | ((with_reducible refine gate_callee (f := 47) rfl ?_); refine goesL_ (some 29) rfl rfl Try.func47 (by kernel_rfl) rfl #[.int .i64 a0_0, .string a2] rfl (by (try simp only [List.map_toArray, List.map_cons, List.map_nil]); first | done | rfl | (simp only [List.length_drop, List.length_take]; rfl)) ?_; (with_reducible refine (eggboxref01_Check.calls kj11 a0_0 a2 t142 _ A15.out).mono ?_); rintro e w' ⟨rfl, ⟨nd, rfl⟩⟩; refine ⟨_, rfl, ?_⟩) | ((with_reducible refine gate_callee (f := 53) rfl ?_); refine goesL_ (some 36) rfl rfl Try.func53 (by kernel_rfl) rfl #[.agg #[.int .i64 a0_0, .slice A0_1 l0_1.length c0_1, .slice A0_2 l0_2.length c0_2], .int .i64 a1, .string a2] rfl (by (try simp only [List.map_toArray, List.map_cons, List.map_nil]); first | done | rfl | (simp only [List.length_drop, List.length_take]; rfl)) ?_; (with_reducible refine (eggboxref08_Go.calls kj11 a0_0 _ _ l0_1 _ _ l0_2 a1 a2 t143 _ ?side1 ?side2 ?side3 ?side4 A17.out).mono ?_); (case side1 => repeat (first | exact (Kd.C_below HR0_1.out (by repeat (first | (with_reducible first | exact HB.out | apply below_alloc | apply pw_below_drewN | apply below_drew1 | refine below_set ?_ GE140.out) | exact HB.out))) | (with_reducible refine Kd.C_alloc ?_ _) | (with_reducible refine Kd.C_drewN ?_ _) | (with_reducible refine Kd.C_drew ?_))); (case side2 => exact HC0_1.out); (case side3 => repeat (first | exact (Kd.C_below HR0_2.out (by repeat (first | (with_reducible first | exact HB.out | apply below_alloc | apply pw_below_drewN | apply below_drew1 | refine below_set ?_ GE140.out) | exact HB.out))) | (with_reducible refine Kd.C_alloc ?_ _) | (with_reducible refine Kd.C_drewN ?_ _) | (with_reducible refine Kd.C_drew ?_))); (case side4 => exact HC0_2.out); rintro e w19 ⟨rfl, hb⟩; refine ⟨_, rfl, ?_⟩; have n0_ := Aside0.mk (blk_below (g := gb140) (o := .cells #[.int .i64 a0_0, .slice A0_1 l0_1.length c0_1, .slice A0_2 l0_2.length c0_2] 25 (0, 0)) (by (with_reducible repeat (first | refine blk_drewN ?_ _ | refine blk_drew ?_ | refine blk_alloc ?_ _)); exact BK140.out) hb); have n1_ := Aside0.mk (below_step (by repeat (first | (with_reducible first | exact HB.out | apply below_alloc | apply pw_below_drewN | apply below_drew1 | refine below_set ?_ GE140.out) | exact HB.out)) hb); clear BK140; clear HB; have BK140 := n0_; have HB := n1_; clear n0_ n1_; (try clear hb); (try clear hb2); (try clear hk); (try clear hi)))
              go_ret2
              exact ⟨by first | rfl | (simp [errW_none, errW_some] <;> rfl) | (simp [*, errW_none, errW_some] <;> rfl), by repeat (first | (with_reducible first | exact HB.out | apply below_alloc | apply pw_below_drewN | apply below_drew1 | refine below_set ?_ GE140.out) | exact HB.out)⟩
            · rw [if_neg c16] at H
              have c16b0 : (t142 == 0) = false := beq_eq_false_iff_ne.mpr c16
              have c16b1 : (t142 != 0) = true := bne_iff_ne.mpr c16
              simp only [Option.some.injEq, Prod.mk.injEq] at H
              obtain ⟨rfl, rfl⟩ := H
              have hcz20_0 : wc.cell? ⟨gb140, 0, none⟩ = some (.int .i64 a0_0) := (blk_cell BK140.out 0).trans rfl
              have hcz20_1 : wc.cell? ⟨gb140, 1, none⟩ = some (.slice A0_1 l0_1.length c0_1) := (blk_cell BK140.out 1).trans rfl
              have hcz20_2 : wc.cell? ⟨gb140, 2, none⟩ = some (.slice A0_2 l0_2.length c0_2) := (blk_cell BK140.out 2).trans rfl
              have hfz20_0 := blk_frozen BK140.out 0
              have hfz20_1 := blk_frozen BK140.out 1
              have hfz20_2 := blk_frozen BK140.out 2
              go_wp2_with (first | ((with_reducible refine gate_callee (f := 47) rfl ?_); refine goesL_ (some 29) rfl rfl Try.func47 (by kernel_rfl) rfl #[.int .i64 a0_0, .string a2] rfl (by (try simp only [List.map_toArray, List.map_cons, List.map_nil]); first | done | rfl | (simp only [List.length_drop, List.length_take]; rfl)) ?_; (with_reducible refine (eggboxref01_Check.calls kj11 a0_0 a2 t142 _ A15.out).mono ?_); rintro e w' ⟨rfl, ⟨nd, rfl⟩⟩; refine ⟨_, rfl, ?_⟩))
              go_ret2
              exact ⟨by first | rfl | (simp [errW_none, errW_some] <;> rfl) | (simp [*, errW_none, errW_some] <;> rfl), by repeat (first | (with_reducible first | exact HB.out | apply below_alloc | apply pw_below_drewN | apply below_drew1 | refine below_set ?_ GE140.out) | exact HB.out)⟩
          · rw [if_neg c14] at H
            have c14b0 : (x8_11 == 0) = false := beq_eq_false_iff_ne.mpr c14
            have c14b1 : (x8_11 != 0) = true := bne_iff_ne.mpr c14
            simp only [Option.some.injEq, Prod.mk.injEq] at H
            obtain ⟨rfl, rfl⟩ := H
            go_wp2
            go_ret2
            exact ⟨by first | rfl | (simp [errW_none, errW_some] <;> rfl) | (simp [*, errW_none, errW_some] <;> rfl), by repeat (first | (with_reducible first | exact HB.out | apply below_alloc | apply pw_below_drewN | apply below_drew1 | refine below_set ?_ GE140.out) | exact HB.out)⟩

-- NOT PRINTED: function 15 (auto_Accepts)

/-! ### eggboxref08_Accepts: function 16 -/
def eggboxref08_Accepts.f (k : Nat) (a0_0 : Int) (l0_1 : List Int) (l0_2 : List Bool) (a1 : ByteArray) : Option (Bool × Int) := (eggboxref08_Run.f k a0_0 l0_1 l0_2 0 a1).bind fun bt146 => (if bt146.2 = 0 then (if 0 ≤ bt146.1 then (if bt146.1 < (l0_2.length : Int) then (some (rdOf false l0_2 bt146.1, 0)) else (none)) else (none)) else (some (false, bt146.2)))
theorem eggboxref08_Accepts.mono : ∀ a0 a1 a2 a3 k, LeO (eggboxref08_Accepts.f k a0 a1 a2 a3) (eggboxref08_Accepts.f (k + 1) a0 a1 a2 a3) := by
  intro a0 a1 a2 a3 k
  unfold eggboxref08_Accepts.f
  repeat' first
      | (with_reducible exact eggboxref08_Run.mono _ _ _ _ _ _)
      | (with_reducible exact LeO.refl _)
      | (with_reducible exact LeO.none _)
      | (with_reducible refine LeO.ite ?_ ?_)
      | (with_reducible refine LeO.bind ?_ (fun _ => ?_))
      | exact eggboxref08_Run.mono _ _ _ _ _ _
      | exact LeO.none _
      | refine LeO.ite ?_ ?_
      | refine LeO.bind ?_ (fun _ => ?_)
set_option maxHeartbeats 8000000 in
set_option maxRecDepth 100000 in
theorem eggboxref08_Accepts.calls (k : Nat) (a0_0 : Int) (A0_1 : Option Addr) (c0_1 : Nat) (l0_1 : List Int) (A0_2 : Option Addr) (c0_2 : Nat) (l0_2 : List Bool) (a1 : ByteArray) (r1 : Bool) (r2 : Int) (w : World) (hr0_1 : Kd.C (Kd.int .i64) w A0_1 l0_1.length l0_1) (hc0_1 : l0_1.length ≤ c0_1) (hr0_2 : Kd.C Kd.bool w A0_2 l0_2.length l0_2) (hc0_2 : l0_2.length ≤ c0_2) (h : eggboxref08_Accepts.f k a0_0 l0_1 l0_2 a1 = some (r1, r2)) :
    Calls Try.prog 16 #[.agg #[.int .i64 a0_0, .slice A0_1 l0_1.length c0_1, .slice A0_2 l0_2.length c0_2], .string a1] w fun e w' => e = .returned (.tuple #[.bool r1, .int .i64 r2]) ∧ Below w.heap.size w w' := by
  have hu25 := Try.underlying25
  have HR0_1 := Aside0.mk hr0_1
  have HC0_1 := Aside0.mk hc0_1
  clear hr0_1 hc0_1
  have HR0_2 := Aside0.mk hr0_2
  have HC0_2 := Aside0.mk hc0_2
  clear hr0_2 hc0_2
  have HB := Aside0.mk (Below.refl w.heap.size w)
  have H : ((eggboxref08_Run.f k a0_0 l0_1 l0_2 0 a1).bind fun bt146 => (if bt146.2 = 0 then (if 0 ≤ bt146.1 then (if bt146.1 < (l0_2.length : Int) then (some (rdOf false l0_2 bt146.1, 0)) else (none)) else (none)) else (some (false, bt146.2)))) = some (r1, r2) := h
  clear h
  replace H := Option.bind_eq_some_iff.mp H
  obtain ⟨⟨t146, t147⟩, A30, H⟩ := H
  replace H : (if t147 = 0 then (if 0 ≤ t146 then (if t146 < (l0_2.length : Int) then (some (rdOf false l0_2 t146, 0)) else (none)) else (none)) else (some (false, t147))) = some (r1, r2) := H
  have A3 := Aside0.mk A30
  clear A30
  by_cases c4 : t147 = 0
  · rw [if_pos c4] at H
    have c4b0 : (t147 == 0) = true := beq_iff_eq.mpr c4
    have c4b1 : (t147 != 0) = false := bne_eq_false_iff_eq.mpr c4
    clear c4
    by_cases c5 : 0 ≤ t146
    · rw [if_pos c5] at H
      have c5b0 : decide (0 ≤ t146) = true := decide_eq_true c5
      clear c5
      by_cases c6 : t146 < (l0_2.length : Int)
      · rw [if_pos c6] at H
        have c6b0 : decide (t146 < (l0_2.length : Int)) = true := decide_eq_true c6
        clear c6
        simp only [Option.some.injEq, Prod.mk.injEq] at H
        obtain ⟨rfl, rfl⟩ := H
        go_enter Try.func16, Try.ntmps16
        go_wp2_with (first | ((with_reducible refine gate_dst (N := 2) rfl ?_); refine box_event ?hg (N := 2) ?hd (cs := #[.int .i64 a0_0, .slice A0_1 l0_1.length c0_1, .slice A0_2 l0_2.length c0_2]) (t := 25) ?hr ?_; (case hd => rfl); (case hg => rfl); (case hr => first | (go_simp; done) | (go_simp; rfl)); intro gb145 hg w7 hbox hb; have n0_ := Aside0.mk (below_step (by repeat (first | (with_reducible first | exact HB.out | apply below_alloc | apply pw_below_drewN | apply below_drew1) | exact HB.out)) hb); have n1_ := Aside0.mk (hbox); have n2_ := Aside0.mk ((by rw [hg]; exact (below_size (by repeat (first | (with_reducible first | exact HB.out | apply below_alloc | apply pw_below_drewN | apply below_drew1) | exact HB.out))) : w.heap.size ≤ gb145)); have n3_ := Aside0.mk ((by rw [hg]; exact (below_size (by repeat (first | (with_reducible first | exact HB.out | apply below_alloc | apply pw_below_drewN | apply below_drew1) | exact HB.out))) : w.heap.size ≤ gb145)); clear HB; have HB := n0_; have BK145 := n1_; have GW145 := n2_; have GE145 := n3_; clear n0_ n1_ n2_ n3_; clear hb hbox hg; have hcz8_0 : w7.cell? ⟨gb145, 0, none⟩ = some (.int .i64 a0_0) := (blk_cell BK145.out 0).trans rfl; have hcz8_1 : w7.cell? ⟨gb145, 1, none⟩ = some (.slice A0_1 l0_1.length c0_1) := (blk_cell BK145.out 1).trans rfl; have hcz8_2 : w7.cell? ⟨gb145, 2, none⟩ = some (.slice A0_2 l0_2.length c0_2) := (blk_cell BK145.out 2).trans rfl; have hfz8_0 := blk_frozen BK145.out 0; have hfz8_1 := blk_frozen BK145.out 1; have hfz8_2 := blk_frozen BK145.out 2) | ((with_reducible refine gate_callee (f := 14) rfl ?_); refine goesL_ (some 11) rfl rfl Try.func14 (by kernel_rfl) rfl #[.agg #[.int .i64 a0_0, .slice A0_1 l0_1.length c0_1, .slice A0_2 l0_2.length c0_2], .int .i64 0, .string a1] rfl (by (try simp only [List.map_toArray, List.map_cons, List.map_nil]); first | done | rfl | (simp only [List.length_drop, List.length_take]; rfl)) ?_; (with_reducible refine (eggboxref08_Run.calls k a0_0 _ _ l0_1 _ _ l0_2 0 a1 t146 t147 _ ?side1 ?side2 ?side3 ?side4 A3.out).mono ?_); (case side1 => repeat (first | exact (Kd.C_below HR0_1.out HB.out) | (with_reducible refine Kd.C_alloc ?_ _) | (with_reducible refine Kd.C_drewN ?_ _) | (with_reducible refine Kd.C_drew ?_))); (case side2 => exact HC0_1.out); (case side3 => repeat (first | exact (Kd.C_below HR0_2.out HB.out) | (with_reducible refine Kd.C_alloc ?_ _) | (with_reducible refine Kd.C_drewN ?_ _) | (with_reducible refine Kd.C_drew ?_))); (case side4 => exact HC0_2.out); rintro e w9 ⟨rfl, hb⟩; refine ⟨_, rfl, ?_⟩; have n0_ := Aside0.mk (blk_below (g := gb145) (o := .cells #[.int .i64 a0_0, .slice A0_1 l0_1.length c0_1, .slice A0_2 l0_2.length c0_2] 25 (0, 0)) (by (with_reducible repeat (first | refine blk_drewN ?_ _ | refine blk_drew ?_ | refine blk_alloc ?_ _)); exact BK145.out) hb); have n1_ := Aside0.mk (below_step (by repeat (first | (with_reducible first | exact HB.out | apply below_alloc | apply pw_below_drewN | apply below_drew1 | refine below_set ?_ GE145.out) | exact HB.out)) hb); clear BK145; clear HB; have BK145 := n0_; have HB := n1_; clear n0_ n1_; (try clear hb); (try clear hb2); (try clear hk); (try clear hi); have hcz10_0 : w9.cell? ⟨gb145, 0, none⟩ = some (.int .i64 a0_0) := (blk_cell BK145.out 0).trans rfl; have hcz10_1 : w9.cell? ⟨gb145, 1, none⟩ = some (.slice A0_1 l0_1.length c0_1) := (blk_cell BK145.out 1).trans rfl; have hcz10_2 : w9.cell? ⟨gb145, 2, none⟩ = some (.slice A0_2 l0_2.length c0_2) := (blk_cell BK145.out 2).trans rfl; have hfz10_0 := blk_frozen BK145.out 0; have hfz10_1 := blk_frozen BK145.out 1; have hfz10_2 := blk_frozen BK145.out 2; have p148 : 0 ≤ (t146 : Int) := of_decide_eq_true (by first | (with_reducible assumption) | assumption); have q148 : t146 < (l0_2.length : Int) := of_decide_eq_true (by first | (with_reducible assumption) | assumption); obtain ⟨ad148, e148, hx148_0⟩ := Kd.at_bool HR0_2.out t146 p148 q148; cases e148; replace hx148_0 := (HB.out.cell (World.block_lt_of_cell? w _ hx148_0)).trans hx148_0; replace p148 := eq_true p148; replace q148 := eq_true q148))
        go_ret2
        exact ⟨by first | rfl | (simp [errW_none, errW_some] <;> rfl) | (simp [*, errW_none, errW_some] <;> rfl), by repeat (first | (with_reducible first | exact HB.out | apply below_alloc | apply pw_below_drewN | apply below_drew1 | refine below_set ?_ GE145.out) | exact HB.out)⟩
      · rw [if_neg c6] at H
        exact absurd H (by simp)
    · rw [if_neg c5] at H
      exact absurd H (by simp)
  · rw [if_neg c4] at H
    have c4b0 : (t147 == 0) = false := beq_eq_false_iff_ne.mpr c4
    have c4b1 : (t147 != 0) = true := bne_iff_ne.mpr c4
    simp only [Option.some.injEq, Prod.mk.injEq] at H
    obtain ⟨rfl, rfl⟩ := H
    go_enter Try.func16, Try.ntmps16
    go_wp2_with (first | ((with_reducible refine gate_dst (N := 2) rfl ?_); refine box_event ?hg (N := 2) ?hd (cs := #[.int .i64 a0_0, .slice A0_1 l0_1.length c0_1, .slice A0_2 l0_2.length c0_2]) (t := 25) ?hr ?_; (case hd => rfl); (case hg => rfl); (case hr => first | (go_simp; done) | (go_simp; rfl)); intro gb145 hg w11 hbox hb; have n0_ := Aside0.mk (below_step (by repeat (first | (with_reducible first | exact HB.out | apply below_alloc | apply pw_below_drewN | apply below_drew1) | exact HB.out)) hb); have n1_ := Aside0.mk (hbox); have n2_ := Aside0.mk ((by rw [hg]; exact (below_size (by repeat (first | (with_reducible first | exact HB.out | apply below_alloc | apply pw_below_drewN | apply below_drew1) | exact HB.out))) : w.heap.size ≤ gb145)); have n3_ := Aside0.mk ((by rw [hg]; exact (below_size (by repeat (first | (with_reducible first | exact HB.out | apply below_alloc | apply pw_below_drewN | apply below_drew1) | exact HB.out))) : w.heap.size ≤ gb145)); clear HB; have HB := n0_; have BK145 := n1_; have GW145 := n2_; have GE145 := n3_; clear n0_ n1_ n2_ n3_; clear hb hbox hg; have hcz12_0 : w11.cell? ⟨gb145, 0, none⟩ = some (.int .i64 a0_0) := (blk_cell BK145.out 0).trans rfl; have hcz12_1 : w11.cell? ⟨gb145, 1, none⟩ = some (.slice A0_1 l0_1.length c0_1) := (blk_cell BK145.out 1).trans rfl; have hcz12_2 : w11.cell? ⟨gb145, 2, none⟩ = some (.slice A0_2 l0_2.length c0_2) := (blk_cell BK145.out 2).trans rfl; have hfz12_0 := blk_frozen BK145.out 0; have hfz12_1 := blk_frozen BK145.out 1; have hfz12_2 := blk_frozen BK145.out 2) | ((with_reducible refine gate_callee (f := 14) rfl ?_); refine goesL_ (some 11) rfl rfl Try.func14 (by kernel_rfl) rfl #[.agg #[.int .i64 a0_0, .slice A0_1 l0_1.length c0_1, .slice A0_2 l0_2.length c0_2], .int .i64 0, .string a1] rfl (by (try simp only [List.map_toArray, List.map_cons, List.map_nil]); first | done | rfl | (simp only [List.length_drop, List.length_take]; rfl)) ?_; (with_reducible refine (eggboxref08_Run.calls k a0_0 _ _ l0_1 _ _ l0_2 0 a1 t146 t147 _ ?side1 ?side2 ?side3 ?side4 A3.out).mono ?_); (case side1 => repeat (first | exact (Kd.C_below HR0_1.out HB.out) | (with_reducible refine Kd.C_alloc ?_ _) | (with_reducible refine Kd.C_drewN ?_ _) | (with_reducible refine Kd.C_drew ?_))); (case side2 => exact HC0_1.out); (case side3 => repeat (first | exact (Kd.C_below HR0_2.out HB.out) | (with_reducible refine Kd.C_alloc ?_ _) | (with_reducible refine Kd.C_drewN ?_ _) | (with_reducible refine Kd.C_drew ?_))); (case side4 => exact HC0_2.out); rintro e w13 ⟨rfl, hb⟩; refine ⟨_, rfl, ?_⟩; have n0_ := Aside0.mk (blk_below (g := gb145) (o := .cells #[.int .i64 a0_0, .slice A0_1 l0_1.length c0_1, .slice A0_2 l0_2.length c0_2] 25 (0, 0)) (by (with_reducible repeat (first | refine blk_drewN ?_ _ | refine blk_drew ?_ | refine blk_alloc ?_ _)); exact BK145.out) hb); have n1_ := Aside0.mk (below_step (by repeat (first | (with_reducible first | exact HB.out | apply below_alloc | apply pw_below_drewN | apply below_drew1 | refine below_set ?_ GE145.out) | exact HB.out)) hb); clear BK145; clear HB; have BK145 := n0_; have HB := n1_; clear n0_ n1_; (try clear hb); (try clear hb2); (try clear hk); (try clear hi)))
    go_ret2
    exact ⟨by first | rfl | (simp [errW_none, errW_some] <;> rfl) | (simp [*, errW_none, errW_some] <;> rfl), by repeat (first | (with_reducible first | exact HB.out | apply below_alloc | apply pw_below_drewN | apply below_drew1 | refine below_set ?_ GE145.out) | exact HB.out)⟩

/-! ### eggboxlaw08_num: function 17 -/
def eggboxlaw08_num.f (a0 : Int) : Option (Int) := some a0
set_option maxHeartbeats 8000000 in
set_option maxRecDepth 100000 in
theorem eggboxlaw08_num.calls (a0 : Int) (r : Int) (w : World) (h : eggboxlaw08_num.f a0 = some r) :
    Calls Try.prog 17 #[.int .i64 a0] w fun e w' => e = .returned (.int .i64 r) ∧ Drawn0 w w' := by
  have H : (some a0) = some r := h
  clear h
  obtain rfl := Option.some.inj H
  go_enter Try.func17, Try.ntmps17
  go_wp2
  go_ret
  exact ⟨by first | rfl | (simp; done) | (simp [*]; done), by repeat (first | exact Drawn0.refl _ | apply Drawn0.step)⟩

/-! ### eggboxlaw08_bools: function 55 -/
def eggboxlaw08_bools.l0 : Nat → List Bool → List Bool → Int → Option (Bool)
  | 0, _, _, _ => none
  | k + 1, x0, x1, x5 => if x5 < (x0.length : Int) then (if 0 ≤ x5 then (if x5 < (x1.length : Int) then (if ((rdOf false x0 x5) != (rdOf false x1 x5)) = true then (some false) else (eggboxlaw08_bools.l0 k x0 x1 (wrap64 (x5 + 1)))) else (none)) else (none)) else (some true)
def eggboxlaw08_bools.f (k : Nat) (l0 : List Bool) (l1 : List Bool) : Option (Bool) := if (l0.length : Int) = (l1.length : Int) then (eggboxlaw08_bools.l0 k l0 l1 0) else (some false)
theorem eggboxlaw08_bools.mono_l : ∀ k, (∀ y0 y1 y2, LeO (eggboxlaw08_bools.l0 k y0 y1 y2) (eggboxlaw08_bools.l0 (k + 1) y0 y1 y2))
  | 0 => fun _ _ _ r h => by simp [eggboxlaw08_bools.l0] at h
  | k + 1 => by
    have ih0 := eggboxlaw08_bools.mono_l k
    · intro y0 y1 y2
      unfold eggboxlaw08_bools.l0
      repeat' first
      | (with_reducible exact ih0 _ _ _)
      | (with_reducible exact LeO.refl _)
      | (with_reducible exact LeO.none _)
      | (with_reducible refine LeO.ite ?_ ?_)
      | (with_reducible refine LeO.bind ?_ (fun _ => ?_))
      | exact ih0 _ _ _
      | exact LeO.none _
      | refine LeO.ite ?_ ?_
      | refine LeO.bind ?_ (fun _ => ?_)
theorem eggboxlaw08_bools.mono : ∀ a0 a1 k, LeO (eggboxlaw08_bools.f k a0 a1) (eggboxlaw08_bools.f (k + 1) a0 a1) := by
  intro a0 a1 k
  have ih0 := eggboxlaw08_bools.mono_l k
  unfold eggboxlaw08_bools.f
  repeat' first
      | (with_reducible exact ih0 _ _ _)
      | (with_reducible exact LeO.refl _)
      | (with_reducible exact LeO.none _)
      | (with_reducible refine LeO.ite ?_ ?_)
      | (with_reducible refine LeO.bind ?_ (fun _ => ?_))
      | exact ih0 _ _ _
      | exact LeO.none _
      | refine LeO.ite ?_ ?_
      | refine LeO.bind ?_ (fun _ => ?_)
set_option maxHeartbeats 8000000 in
set_option maxRecDepth 100000 in
theorem eggboxlaw08_bools.calls (k : Nat) (A0 : Option Addr) (c0 : Nat) (l0 : List Bool) (A1 : Option Addr) (c1 : Nat) (l1 : List Bool) (r : Bool) (w : World) (hr0 : Kd.C Kd.bool w A0 l0.length l0) (hc0 : l0.length ≤ c0) (hr1 : Kd.C Kd.bool w A1 l1.length l1) (hc1 : l1.length ≤ c1) (h : eggboxlaw08_bools.f k l0 l1 = some r) :
    Calls Try.prog 55 #[.slice A0 l0.length c0, .slice A1 l1.length c1] w fun e w' => e = .returned (.bool r) ∧ Drawn0 w w' := by
  have HR0 := Aside0.mk hr0
  have HC0 := Aside0.mk hc0
  clear hr0 hc0
  have HR1 := Aside0.mk hr1
  have HC1 := Aside0.mk hc1
  clear hr1 hc1
  have H : (if (l0.length : Int) = (l1.length : Int) then (eggboxlaw08_bools.l0 k l0 l1 0) else (some false)) = some r := h
  clear h
  by_cases c3 : (l0.length : Int) = (l1.length : Int)
  · rw [if_pos c3] at H
    have c3b0 : ((l0.length : Int) == (l1.length : Int)) = true := beq_iff_eq.mpr c3
    have c3b1 : ((l0.length : Int) != (l1.length : Int)) = false := bne_eq_false_iff_eq.mpr c3
    have c3b2 : (l0.length == l1.length) = true := by first | simpa using c3 | (simp at c3 ⊢; omega)
    clear c3
    have H' := Aside0.mk H
    clear H
    go_enter Try.func55, Try.ntmps55
    go_wp2
    repeat (go_quiet (fail); try go_wp2)
    go_loopg [5] k (fun kq v5 w' => ∃ (x5_1 : Int), v5 = .int .i64 x5_1 ∧ Aside0 (eggboxlaw08_bools.l0 kq l0 l1 x5_1 = some r) ∧ Aside0 (kq ≤ k) ∧ Drawn0 w w')
    case atStart => exact ⟨(0), (by first | rfl | (simp; done) | (simp [*]; done)), H', ⟨Nat.le_refl _⟩, by repeat (first | exact Drawn0.refl _ | apply Drawn0.step)⟩
    case round =>
      clear H'
      try clear c1
      try clear p2
      try clear c3
      try clear c3b0
      try clear c3b1
      try clear c3b2
      obtain ⟨x5_1, rfl, HA, HK1, ⟨m1, rfl⟩⟩ := hrel
      cases gk with
      | zero => exact absurd HA.out (by simp [eggboxlaw08_bools.l0])
      | succ k1 =>
        have H := HA.out
        clear HA
        simp only [eggboxlaw08_bools.l0] at H
        by_cases c4 : x5_1 < (l0.length : Int)
        · rw [if_pos c4] at H
          have c4b0 : decide (x5_1 < (l0.length : Int)) = true := decide_eq_true c4
          clear c4
          by_cases c5 : 0 ≤ x5_1
          · rw [if_pos c5] at H
            have c5b0 : decide (0 ≤ x5_1) = true := decide_eq_true c5
            clear c5
            by_cases c6 : x5_1 < (l1.length : Int)
            · rw [if_pos c6] at H
              have c6b0 : decide (x5_1 < (l1.length : Int)) = true := decide_eq_true c6
              clear c6
              by_cases c7 : ((rdOf false l0 x5_1) != (rdOf false l1 x5_1)) = true
              · rw [if_pos c7] at H
                have c7b0 : ((rdOf false l0 x5_1) != (rdOf false l1 x5_1)) = true := c7
                (try (have c7b1 : decide ((rdOf false l0 x5_1) = (rdOf false l1 x5_1)) = false := by simpa using c7))
                (try (have c7b2 : ((rdOf false l0 x5_1) == (rdOf false l1 x5_1)) = false := by simpa using c7))
                (try (have c7b3 : ¬ ((rdOf false l0 x5_1) = (rdOf false l1 x5_1)) := by simpa using c7))
                clear c7
                obtain rfl := Option.some.inj H
                have p156 : 0 ≤ (x5_1 : Int) := of_decide_eq_true (by first | (with_reducible assumption) | assumption)
                have q156 : x5_1 < (l0.length : Int) := of_decide_eq_true (by first | (with_reducible assumption) | assumption)
                obtain ⟨ad156, e156, hx156_0⟩ := Kd.at_bool HR0.out x5_1 p156 q156
                cases e156
                replace p156 := eq_true p156
                replace q156 := eq_true q156
                have p157 : 0 ≤ (x5_1 : Int) := of_decide_eq_true (by first | (with_reducible assumption) | assumption)
                have q157 : x5_1 < (l1.length : Int) := of_decide_eq_true (by first | (with_reducible assumption) | assumption)
                obtain ⟨ad157, e157, hx157_0⟩ := Kd.at_bool HR1.out x5_1 p157 q157
                cases e157
                replace p157 := eq_true p157
                replace q157 := eq_true q157
                go_wp2
                repeat (go_quiet (fail); try go_wp2)
                go_ret
                exact ⟨by first | rfl | (simp; done) | (simp [*]; done), by repeat (first | exact Drawn0.refl _ | apply Drawn0.step)⟩
              · rw [if_neg c7] at H
                have c7b0 : ((rdOf false l0 x5_1) != (rdOf false l1 x5_1)) = false := by simpa using c7
                (try (have c7b1 : decide ((rdOf false l0 x5_1) = (rdOf false l1 x5_1)) = true := by simpa using c7))
                (try (have c7b2 : ((rdOf false l0 x5_1) == (rdOf false l1 x5_1)) = true := by simpa using c7))
                clear c7
                have H' := Aside0.mk H
                clear H
                have p156 : 0 ≤ (x5_1 : Int) := of_decide_eq_true (by first | (with_reducible assumption) | assumption)
                have q156 : x5_1 < (l0.length : Int) := of_decide_eq_true (by first | (with_reducible assumption) | assumption)
                obtain ⟨ad156, e156, hx156_0⟩ := Kd.at_bool HR0.out x5_1 p156 q156
                cases e156
                replace p156 := eq_true p156
                replace q156 := eq_true q156
                have p157 : 0 ≤ (x5_1 : Int) := of_decide_eq_true (by first | (with_reducible assumption) | assumption)
                have q157 : x5_1 < (l1.length : Int) := of_decide_eq_true (by first | (with_reducible assumption) | assumption)
                obtain ⟨ad157, e157, hx157_0⟩ := Kd.at_bool HR1.out x5_1 p157 q157
                cases e157
                replace p157 := eq_true p157
                replace q157 := eq_true q157
                go_wp2
                repeat (go_quiet (fail); try go_wp2)
                go_roundg k1
                case measure => have := HK1.out; omega
                case rel => exact ⟨(wrap64 (x5_1 + 1)), (by first | rfl | (simp; done) | (simp [*]; done)), H', ⟨by have := HK1.out; omega⟩, by repeat (first | exact Drawn0.refl _ | apply Drawn0.step)⟩
            · rw [if_neg c6] at H
              exact absurd H (by simp)
          · rw [if_neg c5] at H
            exact absurd H (by simp)
        · rw [if_neg c4] at H
          have c4b0 : decide (x5_1 < (l0.length : Int)) = false := decide_eq_false c4
          clear c4
          obtain rfl := Option.some.inj H
          go_wp2
          repeat (go_quiet (fail); try go_wp2)
          go_ret
          exact ⟨by first | rfl | (simp; done) | (simp [*]; done), by repeat (first | exact Drawn0.refl _ | apply Drawn0.step)⟩
  · rw [if_neg c3] at H
    have c3b0 : ((l0.length : Int) == (l1.length : Int)) = false := beq_eq_false_iff_ne.mpr c3
    have c3b1 : ((l0.length : Int) != (l1.length : Int)) = true := bne_iff_ne.mpr c3
    have c3b2 : (l0.length == l1.length) = false := by first | simpa using c3 | (simp at c3 ⊢; omega)
    obtain rfl := Option.some.inj H
    go_enter Try.func55, Try.ntmps55
    go_wp2
    repeat (go_quiet (fail); try go_wp2)
    go_ret
    exact ⟨by first | rfl | (simp; done) | (simp [*]; done), by repeat (first | exact Drawn0.refl _ | apply Drawn0.step)⟩

end Go.Proofs.Ytjckidjljkjhfaa.PAutoRuns

namespace Go.Proofs.Ytjckidjljkjhfaa
open Go.RowKit Go.Proofs.YtjckidjljkjhfaaW.PrintWords Go.Proofs.Ytjckidjljkjhfaa.PAutoRuns
set_option linter.unusedSimpArgs false
set_option linter.unusedVariables false
theorem bools_l {l : List Bool} (hl : l.length ≤ 140737488351232) : ∀ (k i : Nat), i ≤ l.length → l.length - i < k → eggboxlaw08_bools.l0 k l l (i : Int) = some true
  | 0, i, _, h => absurd h (by omega)
  | k + 1, i, hi, h => by
    unfold eggboxlaw08_bools.l0
    by_cases hil : i < l.length
    · rw [if_pos (by omega), if_pos (by omega), if_pos (by omega), if_neg (by simp), show wrap64 ((i : Int) + 1) = ((i + 1 : Nat) : Int) from by unfold wrap64; omega]
      exact bools_l hl k (i + 1) (by omega) (by omega)
    · rw [if_neg (by omega)]
theorem bools_f {l : List Bool} (hl : l.length ≤ 140737488351232) : eggboxlaw08_bools.f (l.length + 1) l l = some true := by
  unfold eggboxlaw08_bools.f
  rw [if_pos rfl]
  exact bools_l hl _ 0 (Nat.zero_le _) (by omega)
set_option maxRecDepth 100000 in
set_option maxHeartbeats 400000 in
theorem stay8_any (x : AutV) (X : Option Addr) (xc : Nat) (Y : Option Addr) (yc : Nat) (A : Option Addr) (c : Nat) (B : Option Addr) (d : Nat) (hsz : AutSz x c d) (w : World)
    (hX : Kd.C (Kd.int .i64) w X (x.next ++ [(-77), (-78)]).length (x.next ++ [(-77), (-78)])) (hxc : x.next.length + 2 ≤ xc) (hY : Kd.C Kd.bool w Y x.acc.length x.acc) (hyc : x.acc.length ≤ yc) (hr : ARd w x A B) :
    Calls Try.prog 20 #[.agg (ac x X xc Y yc), .agg (ac x A c B d)] w fun e w' => e = .returned (.bool true) ∧ Below w.heap.size w w' := by
  obtain ⟨hz1, hz2, hz3, hz4⟩ := hsz
  have H0 := Lib.hid (((Hp.start w).alloc (AB x X xc Y yc)).alloc (AB x A c B d))
  have SI := Aside0.mk (fun (W : World) (h : Below w.heap.size w W) => stay_any X xc x.next A c W (by omega) (Kd.C_below hX h) hxc (hr.below h).next)
  have BO := Aside0.mk (fun (W : World) (h : Below w.heap.size w W) => eggboxlaw08_bools.calls (x.acc.length + 1) Y yc x.acc B d x.acc true W (Kd.C_below hY h) hyc (hr.below h).acc hz2 (bools_f hz4))
  have d0 : ((w.alloc (AB x X xc Y yc)).alloc (AB x A c B d)).cell? ⟨w.heap.size, 0, none⟩ = some (.int .i64 x.k) := by rw [cell_of_row _ _ _ _ _ _ (H0.out.at 1 rfl)]; rfl
  have d1 : ((w.alloc (AB x X xc Y yc)).alloc (AB x A c B d)).cell? ⟨w.heap.size, 1, none⟩ = some (.slice X x.next.length xc) := by rw [cell_of_row _ _ _ _ _ _ (H0.out.at 1 rfl)]; rfl
  have e0 : ((w.alloc (AB x X xc Y yc)).alloc (AB x A c B d)).cell? ⟨w.heap.size + 1, 0, none⟩ = some (.int .i64 x.k) := by rw [cell_of_row _ _ _ _ _ _ (H0.out.at 0 (by rw [World.size_alloc]; rfl))]; rfl
  have e1 : ((w.alloc (AB x X xc Y yc)).alloc (AB x A c B d)).cell? ⟨w.heap.size + 1, 1, none⟩ = some (.slice A x.next.length c) := by rw [cell_of_row _ _ _ _ _ _ (H0.out.at 0 (by rw [World.size_alloc]; rfl))]; rfl
  have hkk : (x.k == x.k) = true := by simp
  clear hX hY hr hxc hyc hz1 hz2 hz3 hz4
  go_enter Try.func20, Try.ntmps20
  go_wp2_with fail
  refine (SI.out _ H0.out.2).mono ?_
  rintro e w1 ⟨rfl, hb⟩
  have H1 := Lib.hid (H0.out.keep hb)
  have d2 : w1.cell? ⟨w.heap.size, 2, none⟩ = some (.slice Y x.acc.length yc) := by rw [cell_of_row _ _ _ _ _ _ (H1.out.at 1 rfl)]; rfl
  have e2 : w1.cell? ⟨w.heap.size + 1, 2, none⟩ = some (.slice B x.acc.length d) := by rw [cell_of_row _ _ _ _ _ _ (H1.out.at 0 (by rw [World.size_alloc]; rfl))]; rfl
  clear hb d0 d1 e0 e1 H0 SI
  go_wp2_with fail
  refine (BO.out _ H1.out.2).mono ?_
  rintro e w2 ⟨rfl, hb⟩
  have H2 := Lib.hid (bl_then H1.out.2 (hb.below))
  clear hb BO
  go_wp2
  go_ret
  exact ⟨rfl, H2.out⟩
end Go.Proofs.Ytjckidjljkjhfaa

namespace Go.Proofs.Ytjckidjljkjhfaa.PAutoRuns
open Go.RowKit Go.Proofs.Ytjckidjljkjhfaa Go.Proofs.YtjckidjljkjhfaaW.PrintWords
set_option linter.unusedVariables false
set_option linter.unusedSimpArgs false
theorem w64_in {i : Int} (h : -9223372036854775808 ≤ i ∧ i ≤ 9223372036854775807) : wrap64 i = i := by unfold wrap64; omega
open Classical in
theorem rchk_l {n : Int} {a : Int} {next : List Int} {acc : List Bool} (hl : next.length ≤ 17592186043904) : ∀ (k i : Nat), i ≤ next.length → next.length - i < k →
    eggboxref08_Check.l0 k n (i : Int) a next acc = some (if (∀ j : Nat, i ≤ j → j < next.length → 0 ≤ rd next j ∧ rd next j < n) then 0 else 80)
  | 0, i, _, h => absurd h (by omega)
  | k + 1, i, hi, h => by
    unfold eggboxref08_Check.l0
    by_cases hil : i < next.length
    · rw [if_pos (by omega), if_pos (by omega)]
      by_cases h1 : rd next i < 0
      · rw [if_pos h1, if_neg]
        intro hh; have := hh i (Nat.le_refl _) hil; omega
      · rw [if_neg h1]
        by_cases h2 : rd next i ≥ n
        · rw [if_pos h2, if_neg]
          intro hh; have := hh i (Nat.le_refl _) hil; omega
        · rw [if_neg h2, show wrap64 ((i : Int) + 1) = ((i + 1 : Nat) : Int) from by rw [w64_in (by omega)]; omega, rchk_l hl k (i + 1) (by omega) (by omega)]
          by_cases hh : ∀ j : Nat, i + 1 ≤ j → j < next.length → 0 ≤ rd next j ∧ rd next j < n
          · rw [if_pos hh, if_pos]
            intro j hj hjl
            by_cases e : j = i
            · subst e; omega
            · exact hh j (by omega) hjl
          · rw [if_neg hh, if_neg]
            intro h3; exact hh (fun j hj hjl => h3 j (by omega) hjl)
    · rw [if_neg (by omega), if_pos]
      intro j h1 h2; omega
theorem chk_j0 (k : Nat) (n : Int) (y : Bool) (a : Int) (next : List Int) (acc : List Bool) : eggboxref08_Check.j0 (k + 1) n y a next acc = if y = true then some 80 else eggboxref08_Check.l0 k n 0 a next acc := rfl
theorem run_j0 (k : Nat) (s : Int) (v : ByteArray) (e : Int) (y : Bool) (a : Int) (next : List Int) (acc : List Bool) : eggboxref08_Run.j0 (k + 1) s v e y a next acc = if y = true then eggboxref08_Run.j1 k s v 11 a next acc else eggboxref08_Run.j1 k s v e a next acc := rfl
theorem run_j1 (k : Nat) (s : Int) (v : ByteArray) (e : Int) (a : Int) (next : List Int) (acc : List Bool) : eggboxref08_Run.j1 (k + 1) s v e a next acc = if e = 0 then ((eggboxref01_Check.f k a v).bind fun t142 => (if t142 = 0 then ((eggboxref08_Go.f k a next acc s v).bind fun t143 => (some (t143, 0))) else (some (0, t142)))) else (some (0, e)) := rfl
theorem fol_cons (x : AutV) (s : Nat) (b : UInt8) (l : List UInt8) : fol x s (b :: l) = fol x (stp x s (b.toNat - 97)) l := rfl
theorem rchk_f (x : AutV) (hl : x.next.length ≤ 17592186043904) {k : Nat} (hk : x.next.length + 1 < k) : eggboxref08_Check.f k x.k x.next x.acc = some (autE x) := by
  obtain ⟨k, rfl⟩ : ∃ m, k = m + 1 := ⟨k - 1, by omega⟩
  have no : ∀ {y}, y = true → ¬ AutOk x → eggboxref08_Check.j0 (k + 1) (x.acc.length : Int) y x.k x.next x.acc = some (autE x) := fun e hn => by
    subst e; rw [chk_j0, if_pos rfl, autE_no hn]
  unfold eggboxref08_Check.f
  by_cases h1 : x.k < 1
  · rw [if_pos h1]; exact no rfl (fun h => by have := h.1; omega)
  rw [if_neg h1]
  by_cases h2 : x.k > 8
  · rw [if_pos h2]; exact no rfl (fun h => by have := h.2.1; omega)
  rw [if_neg h2]
  by_cases h3 : (x.acc.length : Int) < 1
  · rw [if_pos h3]; exact no rfl (fun h => by have := h.2.2.1; omega)
  rw [if_neg h3]
  by_cases h4 : (x.acc.length : Int) > 4096
  · rw [if_pos h4]; exact no rfl (fun h => by have := h.2.2.2.1; omega)
  rw [if_neg h4]
  have hm := aut_mul (m := x.acc.length) (show 1 ≤ x.k by omega) (show x.k ≤ 8 by omega) (by omega)
  rw [w64_in (i := (x.acc.length : Int) * x.k) (by omega)]
  by_cases h5 : (x.next.length : Int) = (x.acc.length : Int) * x.k
  · rw [show ((x.next.length : Int) != (x.acc.length : Int) * x.k) = false from by rw [bne_eq_false_iff_eq]; exact h5]
    rw [chk_j0, if_neg (by decide)]
    have := rchk_l (n := (x.acc.length : Int)) (a := x.k) (acc := x.acc) hl k 0 (by omega) (by omega)
    rw [show (((0 : Nat) : Int)) = 0 from rfl] at this
    rw [this]
    by_cases hh : ∀ j : Nat, 0 ≤ j → j < x.next.length → 0 ≤ rd x.next j ∧ rd x.next j < (x.acc.length : Int)
    · rw [if_pos hh, autE_ok ⟨by omega, by omega, by omega, by omega, h5, fun j hj => hh j (Nat.zero_le _) hj⟩]
    · rw [if_neg hh, autE_no (fun h => hh (fun j _ hj => h.2.2.2.2.2 j hj))]
  · rw [show ((x.next.length : Int) != (x.acc.length : Int) * x.k) = true from by rw [bne_iff_ne]; exact h5]
    exact no rfl (fun h => h5 h.2.2.2.2.1)
theorem bt_eq {s : ByteArray} {i : Nat} (h : i < s.size) : bt s (i : Int) = ((s[i]'h).toNat : Int) := by
  have := bt_at s (i : Int) (by rw [Int.toNat_natCast]; exact h)
  simp only [Int.toNat_natCast] at this
  exact this.symm
theorem rwrd_l {a : Int} (h1 : 1 ≤ a) (h8 : a ≤ 8) {s : ByteArray} (hs : s.size ≤ 140737488351232) : ∀ (k i : Nat), i ≤ s.size → s.size - i < k → (∀ j (hj : j < s.size), j < i → 97 ≤ (s[j]'hj).toNat ∧ ((s[j]'hj).toNat : Int) < 97 + a) →
    eggboxref01_Check.l0 k a s (i : Int) = some (if letB a s then 0 else 21)
  | 0, i, _, h, _ => absurd h (by omega)
  | k + 1, i, hi, h, hb => by
    unfold eggboxref01_Check.l0
    by_cases hil : i < s.size
    · rw [if_pos (by omega), if_pos (by omega), bt_eq hil]
      have hr : (s[i]'hil).toNat < 256 := (s[i]'hil).toNat_lt
      by_cases c1 : ((s[i]'hil).toNat : Int) < 97
      · rw [if_pos c1, letB_no hil (by omega)]; rfl
      · rw [if_neg c1]
        by_cases c2 : (((s[i]'hil).toNat : Int) - 97) % 256 ≥ a
        · rw [if_pos c2, letB_no hil (by omega)]; rfl
        · rw [if_neg c2, show wrap64 ((i : Int) + 1) = ((i + 1 : Nat) : Int) from by rw [w64_in (by omega)]; omega]
          exact rwrd_l h1 h8 hs k (i + 1) (by omega) (by omega) (fun j hj hji => by
            by_cases e : j = i
            · subst e; omega
            · exact hb j hj (by omega))
    · rw [if_neg (by omega), letB_of (fun j hj => hb j hj (by omega))]; rfl
theorem rwrd_f (a : Int) {s : ByteArray} (hs : s.size ≤ 140737488351232) {k : Nat} (hk : s.size < k) : eggboxref01_Check.f k a s = some (wrdE a s) := by
  unfold eggboxref01_Check.f eggboxref01_Letters.f wrdE
  by_cases h1 : a < 1
  · rw [if_pos h1, if_pos (.inl h1)]; rfl
  · by_cases h2 : a > 8
    · rw [if_neg h1, if_pos h2, if_pos (.inr h2)]; rfl
    · rw [if_neg h1, if_neg h2, if_neg (by omega)]
      have := rwrd_l (a := a) (by omega) (by omega) hs k 0 (by omega) (by omega) (fun j hj h => absurd h (by omega))
      exact this
theorem rgo_s {x : AutV} (hx : AutOk x) {s c : Nat} (hsn : s < x.acc.length) (hck : (c : Int) < x.k) : wrap64 (wrap64 ((s : Int) * x.k) + (c : Int)) = ((s * x.k.toNat + c : Nat) : Int) := by
  have hk1 := hx.1; have hk2 := hx.2.1; have hn2 := hx.2.2.2.1
  have hmul : (s : Int) * x.k = ((s * x.k.toNat : Nat) : Int) := by
    obtain ⟨kk, hkk⟩ := Int.eq_ofNat_of_zero_le (show 0 ≤ x.k by omega)
    rw [hkk, Int.toNat_natCast]; push_cast; rfl
  have hP : s * x.k.toNat ≤ 40960 := by
    have : s * x.k.toNat ≤ 4096 * 10 := Nat.mul_le_mul (by omega) (by omega)
    omega
  rw [hmul]
  generalize s * x.k.toNat = p at *
  rw [w64_in (i := (p : Int)) (by omega), w64_in (by omega)]; omega
theorem rgo_l {x : AutV} (hx : AutOk x) {v : ByteArray} (hs : v.size ≤ 140737488351232) (hv : letB x.k v = true) (k : Nat) : ∀ (i s : Nat), i ≤ v.size → v.size - i < k → s < x.acc.length →
    eggboxref08_Go.l0 k (s : Int) v (i : Int) x.k x.next x.acc = some ((fol x s (v.data.toList.drop i) : Nat) : Int) := by
  induction k with
  | zero => intro i s _ h _; omega
  | succ k ih =>
    intro i s hi h hsn
    unfold eggboxref08_Go.l0
    by_cases hil : i < v.size
    · have hb12 := letB_at hv i hil
      have hr : (v[i]'hil).toNat < 256 := (v[i]'hil).toNat_lt
      have e3 : v.data.toList.drop i = v[i] :: v.data.toList.drop (i + 1) := List.drop_eq_getElem_cons (by simpa using hil)
      have hbt := bt_eq hil
      rw [e3, fol_cons, hbt]
      generalize (v[i]'hil).toNat = bb at *
      clear e3 hbt
      obtain ⟨c, hc⟩ : ∃ c : Nat, c = bb - 97 := ⟨_, rfl⟩
      rw [← hc]
      have hck : (c : Int) < x.k := by omega
      have e1 : ((bb : Int) - 97) % 256 = (c : Int) := by omega
      have f1 : (i : Int) < (v.size : Int) := by omega
      have f2 : (0 : Int) ≤ (i : Int) := by omega
      have hi2 : i + 1 ≤ v.size := hil
      have hk2 : v.size - (i + 1) < k := by omega
      have hix := stp_idx hx hsn hck
      have f3 : (0 : Int) ≤ ((s * x.k.toNat + c : Nat) : Int) := Int.natCast_nonneg _
      have f4 : ((s * x.k.toNat + c : Nat) : Int) < (x.next.length : Int) := Int.ofNat_lt.2 hix
      have e4 : wrap64 ((i : Int) + 1) = ((i + 1 : Nat) : Int) := by rw [w64_in (by omega)]; omega
      have e2 := rgo_s hx hsn hck
      obtain ⟨q1, q2⟩ := stp_lt hx hsn hck
      rw [if_pos f1, if_pos f2, e1, e2, if_pos f3, if_pos f4, q2, e4]
      exact ih (i + 1) (stp x s c) hi2 hk2 q1
    · have f1 : ¬ (i : Int) < (v.size : Int) := by omega
      have e : v.data.toList.drop i = [] := List.drop_eq_nil_of_le (by have : v.data.toList.length = v.size := by simp
                                                                       omega)
      rw [if_neg f1, e]; rfl
theorem rrun_f (x : AutV) (hl : x.next.length ≤ 17592186043904) (s : Int) {v : ByteArray} (hs : v.size ≤ 140737488351232) {k : Nat} (hk : x.next.length + v.size + 10 < k) :
    eggboxref08_Run.f k x.k x.next x.acc s v = some ((runV x s v : Int), runE x s v) := by
  obtain ⟨k, rfl⟩ : ∃ m, k = m + 2 := ⟨k - 2, by omega⟩
  unfold eggboxref08_Run.f
  rw [rchk_f x hl (by omega)]
  show (if autE x = 0 then _ else _) = _
  by_cases h0 : autE x = 0
  · have hx := autE_is h0
    rw [if_pos h0]
    by_cases h1 : s < 0
    · rw [if_pos h1]
      rw [run_j0, if_pos rfl, run_j1]
      unfold runV runE
      rw [if_neg (by decide), if_neg (by omega), if_pos h0, if_neg (by omega)]; rfl
    · rw [if_neg h1]
      rw [run_j0]
      by_cases h2 : s ≥ (x.acc.length : Int)
      · rw [if_pos (decide_eq_true h2)]
        rw [run_j1]
        unfold runV runE
        rw [if_neg (by decide), if_neg (by omega), if_pos h0, if_neg (by omega)]; rfl
      · rw [if_neg (by rw [decide_eq_true_eq]; exact h2)]
        rw [run_j1]
        rw [if_pos h0, rwrd_f x.k hs (by omega)]
        show (if wrdE x.k v = 0 then _ else _) = _
        have r1 : runE x s v = wrdE x.k v := by unfold runE; rw [if_pos h0, if_pos ⟨by omega, by omega⟩]
        rw [r1]
        by_cases h3 : wrdE x.k v = 0
        · obtain ⟨n, rfl⟩ : ∃ n : Nat, s = (n : Int) := Int.eq_ofNat_of_zero_le (by omega)
          have r2 : runV x (n : Int) v = fol x n v.data.toList := by unfold runV; rw [if_pos ⟨h0, by omega, by omega, h3⟩, Int.toNat_natCast]
          rw [if_pos h3, h3, r2]
          unfold eggboxref08_Go.f
          have := rgo_l hx hs (wrdE_ok h3) k 0 n (by omega) (by omega) (by omega)
          rw [show (((0 : Nat) : Int)) = 0 from rfl, List.drop_zero] at this
          rw [this]; rfl
        · have r2 : runV x s v = 0 := by unfold runV; rw [if_neg (fun h => h3 h.2.2.2)]
          rw [if_neg h3, r2]; rfl
  · rw [if_neg h0]
    rw [run_j0, if_neg (by decide), run_j1]
    unfold runV runE
    rw [if_neg h0, if_neg (by omega), if_neg h0]
    rw [autE_no (fun h => h0 (autE_ok h))]; rfl
theorem racs_f (x : AutV) (hl : x.next.length ≤ 17592186043904) {v : ByteArray} (hs : v.size ≤ 140737488351232) {k : Nat} (hk : x.next.length + v.size + 10 < k) :
    eggboxref08_Accepts.f k x.k x.next x.acc v = some (acsV x v, runE x 0 v) := by
  unfold eggboxref08_Accepts.f acsV
  rw [rrun_f x hl 0 hs hk]
  show (if runE x 0 v = 0 then _ else _) = _
  by_cases h : runE x 0 v = 0
  · obtain ⟨_, _, _, h4⟩ := run_lt h
    rw [if_pos h, if_pos h, if_pos (by show (0 : Int) ≤ (runV x 0 v : Int); omega), if_pos (by show (runV x 0 v : Int) < _; omega), h]
  · rw [if_neg h, if_neg h]
end Go.Proofs.Ytjckidjljkjhfaa.PAutoRuns

namespace Go.Proofs.Ytjckidjljkjhfaa
open Go.RowKit Go.Proofs.YtjckidjljkjhfaaW.PrintWords Go.Proofs.Ytjckidjljkjhfaa.PAutoRuns
set_option linter.unusedSimpArgs false
set_option linter.unusedVariables false
theorem rcheck8_any (x : AutV) (A : Option Addr) (c : Nat) (B : Option Addr) (d : Nat) (hz : AutSz x c d) (w : World) (hr : ARd w x A B) :
    Calls Try.prog 19 #[.agg (ac x A c B d)] w fun e w' => e = .returned (.int .i64 (autE x)) ∧ Below w.heap.size w w' :=
  eggboxref08_Check.calls (x.next.length + 2) x.k A c x.next B d x.acc _ w hr.next hz.1 hr.acc hz.2.1 (rchk_f x (by have := hz.2.2.1; omega) (by omega))
theorem rrun8_any (x : AutV) (A : Option Addr) (c : Nat) (B : Option Addr) (d : Nat) (hz : AutSz x c d) (s : Int) (v : ByteArray) (hv : v.size ≤ 140737488351232) (w : World) (hr : ARd w x A B) :
    Calls Try.prog 14 #[.agg (ac x A c B d), .int .i64 s, .string v] w fun e w' => e = .returned (.tuple #[.int .i64 ((runV x s v : Nat) : Int), .int .i64 (runE x s v)]) ∧ Below w.heap.size w w' :=
  eggboxref08_Run.calls (x.next.length + v.size + 11) x.k A c x.next B d x.acc s v _ _ w hr.next hz.1 hr.acc hz.2.1 (rrun_f x (by have := hz.2.2.1; omega) s hv (by omega))
theorem raccepts8_any (x : AutV) (A : Option Addr) (c : Nat) (B : Option Addr) (d : Nat) (hz : AutSz x c d) (v : ByteArray) (hv : v.size ≤ 140737488351232) (w : World) (hr : ARd w x A B) :
    Calls Try.prog 16 #[.agg (ac x A c B d), .string v] w fun e w' => e = .returned (.tuple #[.bool (acsV x v), .int .i64 (runE x 0 v)]) ∧ Below w.heap.size w w' :=
  eggboxref08_Accepts.calls (x.next.length + v.size + 11) x.k A c x.next B d x.acc v _ _ w hr.next hz.1 hr.acc hz.2.1 (racs_f x (by have := hz.2.2.1; omega) hv (by omega))
theorem au_z (x : AutV) (A : Option Addr) (c : Nat) (B : Option Addr) (d : Nat) : (Try.prog.info? 25).map (·.size) = some (ac x A c B d).size := by show _ = some 3; kernel_rfl
/-- Where the law stands: what was handed in, what was lent. -/
structure LwS (x : AutV) (A : Option Addr) (c : Nat) (B : Option Addr) (d : Nat) (X : Option Addr) (xc : Nat) (Y : Option Addr) (yc : Nat) (w : World) (g : Nat) (w' : World) : Prop where
  arg : w'.heap[w.heap.size]? = some (AB x A c B d)
  lent : w'.heap[g]? = some (AB x X xc Y yc)
  rd : ARd w' x A B
  nx : Kd.C (Kd.int .i64) w' X (x.next ++ [(-77), (-78)]).length (x.next ++ [(-77), (-78)])
  ac : Kd.C Kd.bool w' Y x.acc.length x.acc
  xcl : x.next.length + 2 ≤ xc
  ycl : x.acc.length ≤ yc
  bel : Below w.heap.size w w'
section
variable {x : AutV} {A : Option Addr} {c : Nat} {B : Option Addr} {d : Nat} {X : Option Addr} {xc : Nat} {Y : Option Addr} {yc : Nat} {w : World} {g : Nat} {u v : World}
theorem LwS.keep (h : LwS x A c B d X xc Y yc w g u) (hb : Below u.heap.size u v) : LwS x A c B d X xc Y yc w g v :=
  ⟨hp_below' hb h.arg, hp_below' hb h.lent, h.rd.below hb, Kd.C_below h.nx hb, Kd.C_below h.ac hb, h.xcl, h.ycl, bl_then h.bel hb⟩
theorem LwS.ard (h : LwS x A c B d X xc Y yc w g u) : ARd u x X Y := ⟨by
  have := Kd.C_take (m := x.next.length) h.nx (by simp)
  simpa using this, h.ac⟩
theorem LwS.mk' {w1 : World} (hr : ARd w x A B) (hL : LentA x (w.alloc (AB x A c B d)) w1 X xc Y yc) : LwS x A c B d X xc Y yc w w1.heap.size (w1.alloc (AB x X xc Y yc)) := by
  obtain ⟨h1, h2, h3⟩ := hL
  obtain ⟨_, l1, c1⟩ := Kd.R_reads' h1
  obtain ⟨_, l2, c2⟩ := Kd.R_reads' h2
  have hb := bl_alloc (bl_then (bl_alloc (Below.refl w.heap.size w) (AB x A c B d)) h3) (AB x X xc Y yc)
  exact ⟨hp_old (hp_below' h3 (hp_new rfl)), hp_new rfl, hr.below hb, Kd.C_alloc c1 _, Kd.C_alloc c2 _, by simpa using l1, l2, hb⟩
end
end Go.Proofs.Ytjckidjljkjhfaa

