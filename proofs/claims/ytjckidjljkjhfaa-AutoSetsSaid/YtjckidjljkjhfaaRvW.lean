/- The walks of the closures of Reverse. -/
import Derived.Test.YtjckidjljkjhfaaStA
namespace Go.Proofs.Ytjckidjljkjhfaa
open Go.RowKit Go.Proofs.YtjckidjljkjhfaaW.PrintWords
set_option linter.unusedSimpArgs false
set_option linter.unusedVariables false
section
variable {P : Program} {ops : Array Oper} {rest : List Oper} {o : Oper} {a : Act} {w : World} {Q : Exit → Act → World → Prop}
theorem gate_alloc {t : TypeId} (_ho : o.op = .alloc t) (h : wpList P ops Q (o :: rest) a w) : wpList P ops Q (o :: rest) a w := h
theorem gate_build {t : TypeId} {parts : Array (Nat × Operand)} (_ho : o.op = .build t parts) (h : wpList P ops Q (o :: rest) a w) : wpList P ops Q (o :: rest) a w := h
end
theorem zero_run (w : World) : (zeroValue 88).run Try.prog w = .ok zeroS w := by
  unfold zeroS
  rw [ccS_zero]
  have h : (zeroValue 88).run Try.prog w = .ok (.agg ((Array.range 64).map (fun _ => Value.int .u64 0))) w := by kernel_rfl
  exact h
theorem alloc_run (w : World) : (Instr.alloc 88 true (.tuple #[])).run Try.prog w = .ok (.pointer (some ⟨w.heap.size, 0, none⟩)) (w.alloc (.cells (ccS noS) 88)) := by
  unfold Instr.alloc
  rw [Sem.run_bind, zero_run]
  rfl
section
variable {ops : Array Oper} {rest : List Oper} {o : Oper} {a : Act} {w : World} {Q : Exit → Act → World → Prop}
theorem wpl_allocS (hgd : o.guard = none) (ho : o.op = .alloc 88) (h : wpList Try.prog ops Q rest (a.put o.dst (.pointer (some ⟨w.heap.size, 0, none⟩))) (w.alloc (.cells (ccS noS) 88))) : wpList Try.prog ops Q (o :: rest) a w :=
  wpList_plain hgd fun K hK => by
    unfold Oper.wp execOp
    simp only [ho, Sem.run_bind, alloc_run, Result.andThen_ok, Sem.run_pure]
    exact hK _ _ h
end
/-- What the letter leads into a set from. -/
def rvS (x : AutV) (m : Sta) (l : Nat) : Nat → Sta
  | 0 => noS
  | n + 1 => if m.getLsbD (stp x n l) then adS (rvS x m l n) n else rvS x m l n
theorem rvS_bit (x : AutV) (m : Sta) (l i : Nat) : ∀ n, n ≤ 4096 → (rvS x m l n).getLsbD i = (decide (i < n) && m.getLsbD (stp x i l))
  | 0, _ => by rw [show rvS x m l 0 = noS from rfl, noS_bit]; simp
  | n + 1, h => by
    have ih := rvS_bit x m l i n (by omega)
    rw [rvS]
    by_cases e : i = n
    · subst e
      by_cases hm : m.getLsbD (stp x i l)
      · rw [if_pos hm, adS_bit, hm]; simp; omega
      · rw [if_neg hm, ih]; simp [hm]
    · have h1 : (decide (i < n + 1)) = decide (i < n) := by
        by_cases hl : i < n
        · simp [hl]; omega
        · simp [hl]; omega
      split
      · rw [adS_bit, ih, h1, decide_eq_false (fun h => e h.symm : ¬ n = i)]; simp
      · rw [ih, h1]
/-- Where Reverse's closure stands. -/
structure RvZ (m o : Sta) (w wr : World) : Prop where
  box : wr.heap[w.heap.size]? = some (.cells (ccS m) 88 (0, 0))
  res : wr.heap[w.heap.size + 1]? = some (.cells (ccS noS) 88 (0, 0))
  out : wr.heap[w.heap.size + 1 + 1]? = some (.cells (ccS o) 88 (0, 0))
  bel : Below w.heap.size w wr
theorem RvZ.keep {m o : Sta} {w wr w2 : World} (h : RvZ m o w wr) (hb : Below wr.heap.size wr w2) : RvZ m o w w2 := ⟨hp_below' hb h.box, hp_below' hb h.res, hp_below' hb h.out, bl_then h.bel hb⟩
theorem RvZ.wrote {m o o2 : Sta} {w wr w2 : World} (h : RvZ m o w wr) (hw : Wrote wr (w.heap.size + 1 + 1) (ccS o2) w2) : RvZ m o2 w w2 := ⟨(hw.no _ (by omega)).trans h.box, (hw.no _ (by omega)).trans h.res, hw.is, hw.bel w h.bel (by omega)⟩
set_option maxRecDepth 100000 in
set_option maxHeartbeats 800000 in
theorem revN_any (x : AutV) (A : Option Addr) (c : Nat) (B : Option Addr) (d : Nat) (gx : Nat) (hx : AutOk x) (m : Sta) (l : Nat) (hl : (l : Int) < x.k) (w : World) (hg : w.heap[gx]? = some (AB x A c B d)) (hr : ARd w x A B) :
    Calls Try.prog 82 #[.agg (ccS m), .int .i64 (l : Int), .pointer (some ⟨gx, 0, none⟩)] w fun e w' => e = .returned (.agg (ccS (rvS x m l x.acc.length))) ∧ Below w.heap.size w w' := by
  have HX := Lib.hid hx
  have HR := Aside0.mk hr
  have HG := Lib.hid hg
  have hn2 := hx.2.2.2.1
  have h0 : RvZ m noS w (((w.alloc (.cells (ccS m) 88)).alloc (.cells (ccS noS) 88)).alloc (.cells (ccS noS) 88)) := by
    have e := ((((Hp.start w).alloc (.cells (ccS m) 88)).alloc (.cells (ccS noS) 88)).alloc (.cells (ccS noS) 88))
    rw [World.size_alloc, World.size_alloc] at e
    exact ⟨e.at 2 rfl, e.at 1 rfl, e.at 0 rfl, e.2⟩
  have H0 := Lib.hid h0
  have c0 : (((w.alloc (.cells (ccS m) 88)).alloc (.cells (ccS noS) 88)).alloc (.cells (ccS noS) 88)).cell? ⟨gx, 2, none⟩ = some (.slice B x.acc.length d) := by
    rw [cell_of_row _ _ _ _ _ _ (hp_old (hp_old (hp_old hg)))]; rfl
  clear h0 hr hg hx
  go_enter Try.func82, Try.ntmps82
  go_wp2_with ((with_reducible refine gate_alloc (t := 88) rfl ?_); refine wpl_allocS rfl rfl ?_)
  clear c0
  go_loopw [11] (fun i wr => ∃ q : Nat, q ≤ x.acc.length ∧ i = .int .i64 q ∧ Hid (RvZ m (rvS x m l q) w wr)) (fun i _ => x.acc.length - (intOf i).toNat)
  case atStart => exact ⟨0, by omega, rfl, H0⟩
  case round =>
    obtain ⟨i, hi, rfl, H⟩ := hrel
    by_cases hil : i < x.acc.length
    · obtain ⟨ad, p, L1⟩ := lkT HX.out (HR.out.below H.out.bel) hil hl
      obtain ⟨z1l, _⟩ := stp_lt HX.out hil hl
      have hgx := hp_below' H.out.bel HG.out
      have c0 : wr.cell? ⟨gx, 0, none⟩ = some (.int .i64 x.k) := by rw [cell_of_row _ _ _ _ _ _ hgx]; rfl
      have c1 : wr.cell? ⟨gx, 1, none⟩ = some (.slice A x.next.length c) := by rw [cell_of_row _ _ _ _ _ _ hgx]; rfl
      have hA := L1.addr; have hcell := L1.cell; have hw5 := L1.mul; have hw11 := L1.add; have hw12 := L1.pos; have hw14 := L1.lt; have hw13 := L1.nat
      have HAS := Aside0.mk (has_any m (stp x i l) (by omega) w.heap.size wr H.out.box)
      have hnx : rvS x m l (i + 1) = if m.getLsbD (stp x i l) then adS (rvS x m l i) i else rvS x m l i := rfl
      generalize stp x i l = t at *
      subst hA
      clear L1 hgx
      go_wp2_with fail
      refine HAS.out.mono ?_
      rintro e w2 ⟨rfl, hb⟩
      have H2 := Lib.hid (H.out.keep hb)
      clear hb c0 c1 hcell hw5 hw11 hw12 hw14 hw13 H HAS
      cases hm : m.getLsbD t
      · rw [hm, if_neg (by decide)] at hnx
        rw [← hnx] at H2
        clear hm hnx
        go_wp2
        go_roundw
        case rel => exact ⟨i + 1, by omega, by go_num, H2⟩
        case measure => simp [intOf]; omega
      · rw [hm, if_pos rfl] at hnx
        have AD := Aside0.mk (add_any (rvS x m l i) i (by omega) (w.heap.size + 1 + 1) w2 H2.out.out)
        clear hm
        go_wp2_with fail
        refine AD.out.mono ?_
        rintro e w3 ⟨rfl, hw⟩
        have H3 := Lib.hid (H2.out.wrote hw)
        rw [← hnx] at H3
        clear hw AD H2 hnx
        go_wp2
        go_roundw
        case rel => exact ⟨i + 1, by omega, by go_num, H3⟩
        case measure => simp [intOf]; omega
    · have hie : i = x.acc.length := by omega
      rw [hie] at H
      clear hie
      go_wp2_with (first | ((with_reducible refine gate_ld (t := 88) rfl ?_); refine wpl_rowS (cs := ccS (rvS x m l x.acc.length)) rfl 88 _ rfl (w.heap.size + 1 + 1) rfl H.out.out rfl Try.underlying88 (by rw [ccS_size]; kernel_rfl) ?_) | ((with_reducible refine gate_st (t := 88) rfl ?_); refine wpList_store_row rfl 88 _ _ rfl (w.heap.size + 1) (ccS (rvS x m l x.acc.length)) rfl rfl 88 (ccS noS) H.out.res (by rw [ccS_size]; kernel_rfl) (by rw [ccS_size, ccS_size]) (ccS_all _) ?_))
      refine bodyPost_ret (v := .agg (ccS (rvS x m l x.acc.length))) ?_ rfl ⟨rfl, bl_row H.out.bel (by omega) _⟩
      exact results_cell_row rfl _ _ (w.heap.size + 1) 88 _ _ _ rfl (setRow_heap _ _ _ _ _ _ H.out.res) Try.underlying88 rfl (by rw [ccS_size]; kernel_rfl)
set_option maxRecDepth 100000 in
set_option maxHeartbeats 400000 in
theorem revG_any (m : Sta) (w : World) : Calls Try.prog 84 #[.agg (ccS m)] w fun e w' => e = .returned (.bool (m.getLsbD 0)) ∧ Below w.heap.size w w' := by
  have HB := Lib.hid (bl_alloc (Below.refl w.heap.size w) (.cells (ccS m) 88))
  have HAS := Aside0.mk (has_any m 0 (by decide) w.heap.size (w.alloc (.cells (ccS m) 88)) (hp_new rfl))
  go_enter Try.func84, Try.ntmps84
  go_wp2_with fail
  refine HAS.out.mono ?_
  rintro e w2 ⟨rfl, hb⟩
  have HF := Lib.hid (bl_then HB.out hb)
  clear hb HAS
  go_wp2
  go_ret
  exact ⟨rfl, HF.out⟩
end Go.Proofs.Ytjckidjljkjhfaa
