/- The walks of moved, meets and Star's closures. -/
import Derived.Test.YtjckidjljkjhfaaRvX
import Derived.ChangeKeysEq
import Derived.Laws.StructEq
namespace Go.Proofs.Ytjckidjljkjhfaa
open Go.RowKit Go.Proofs.YtjckidjljkjhfaaW.PrintWords
set_option linter.unusedSimpArgs false
set_option linter.unusedVariables false
theorem flat_inj {s t : Sta} : ∀ l : List Nat, ((l.map (fun i => [Lit.int .u64 (wdS s i : Int)])).flatten = (l.map (fun i => [Lit.int .u64 (wdS t i : Int)])).flatten) → ∀ i ∈ l, wdS s i = wdS t i
  | [], _, i, hi => by cases hi
  | a :: l, h, i, hi => by
    simp only [List.map_cons, List.flatten_cons, List.cons_append, List.nil_append] at h
    injection h with h1 h2
    rcases List.mem_cons.1 hi with rfl | hi
    · injection h1 with _ h1
      exact Int.ofNat.inj h1
    · exact flat_inj l h2 i hi
theorem words_inj {s t : Sta} (h : ∀ i, i < 64 → wdS s i = wdS t i) : s = t := by
  apply sta_ext
  intro i hi
  have h3 := wdS_bit s (i / 64) (i % 64)
  rw [h (i / 64) (by omega), wdS_bit, decide_eq_true (show i % 64 < 64 by omega), Bool.true_and, Bool.true_and, show 64 * (i / 64) + i % 64 = i by omega] at h3
  exact h3.symm
/-- Two sets compared. -/
theorem eqS_run (s t : Sta) (w : World) : (Op.equalIn 10000 88 (.agg (ccS s)) (.agg (ccS t))).run Try.prog w = .ok (decide (s = t)) w := by
  have h8 : Try.prog.cellsOf 86 = 1 := by kernel_rfl
  have hm : ∀ (m : Sta), (List.range 64).mapM (fun i => Try.prog.keyLits 1 86 (((ccS m).toList.drop (i * Try.prog.cellsOf 86)).take (Try.prog.cellsOf 86))) = some ((List.range 64).map (fun i => [Lit.int .u64 (wdS m i : Int)])) := fun m =>
    mapM_some _ (fun i hi => by
      rw [h8, ccS_cut m (List.mem_range.1 hi)]
      unfold Program.keyLits
      simp only [Try.underlying86]
      have hw : (Lit.int .u64 (wdS m i : Int)).wf = true := WalkArith.wf_u64 (by have := wdS_lt m i; omega)
      simp [hw])
  obtain ⟨r, h1, h2⟩ := run_eqItems_plain (P := Try.prog) (w := w) 9998 (e := 86) (by kernel_rfl) (ccS s) (ccS t) (List.range 64) _ _ (hm s) (hm t)
  obtain ⟨i, hi⟩ : ∃ i, Try.prog.info? 86 = some i := by
    cases h : Try.prog.info? 86 with
    | some i => exact ⟨i, rfl⟩
    | none =>
      have : (Try.prog.info? 86).isSome = true := by kernel_rfl
      rw [h] at this; cases this
  have h3 : r = true ↔ s = t := by
    rw [h2]
    constructor
    · intro e
      exact words_inj (fun i hi => flat_inj _ e i (List.mem_range.2 hi))
    · intro e; rw [e]
  have h4 : r = decide (s = t) := by
    cases r
    · have : ¬ s = t := fun e => by have := h3.2 e; cases this
      rw [decide_eq_false this]
    · rw [decide_eq_true (h3.1 rfl)]
  rw [h4] at h1
  exact (run_equalIn_array w 9999 (ccS s) (ccS t) Try.underlying88 hi).trans h1
section
variable {ops : Array Oper} {rest : List Oper} {o : Oper} {a : Act} {w : World} {Q : Exit → Act → World → Prop}
theorem gate_bin {op : BinOp} {t u : TypeId} {x y : Operand} (_ho : o.op = .binOp op t x y u) (h : wpList Try.prog ops Q (o :: rest) a w) : wpList Try.prog ops Q (o :: rest) a w := h
theorem wpl_eqS (hgd : o.guard = none) (x y : Operand) (ho : o.op = .binOp .eql 88 x y 88) (s t : Sta) (b : Bool) (hb : decide (s = t) = b) (hx : a.eval x = .agg (ccS s)) (hy : a.eval y = .agg (ccS t)) (h : wpList Try.prog ops Q rest (a.put o.dst (.bool b)) w) : wpList Try.prog ops Q (o :: rest) a w :=
  wpList_plain hgd fun K hK => by
    have h1 := run_eqGuard_agg (P := Try.prog) (w := w) .eql 88 x y (ccS s) (ccS t) (by kernel_rfl)
    have h2 := run_eql_struct (P := Try.prog) (w := w) 88 (ccS s) (ccS t)
    rw [eqS_run, hb] at h2
    unfold Oper.wp execOp
    simp only [ho, hx, hy, Sem.run_bind, h1, h2, Result.andThen_ok, Sem.run_pure]
    exact hK _ _ h
/-- A set is loaded, by a guarded load too. -/
theorem wpl_rowW {m : Sta} (x : Operand) (ho : o.op = .load 88 x) (g : Nat) (hx : a.eval x = .pointer (some ⟨g, 0, none⟩)) {t' : TypeId} {fr : Nat × Nat} (hg : w.heap[g]? = some (.cells (ccS m) t' fr)) (hw : Region.wanted o (yielded ops a.tmps) = true)
    (h : wpList Try.prog ops Q rest (a.put o.dst (.agg (ccS m))) w) : wpList Try.prog ops Q (o :: rest) a w :=
  wpList_step fun K hK => by
    rw [if_pos hw]
    exact wp_load_row 88 x ho g hx _ _ _ _ hg Try.underlying88 rfl (by rw [ccS_size]; kernel_rfl) (hK _ _ h)
theorem build_run (w : World) : (Instr.build 88 #[]).run Try.prog w = .ok (.agg (ccS noS)) w := by
  rw [ccS_zero]
  have h : (Instr.build 88 #[]).run Try.prog w = .ok (.agg ((Array.range 64).map (fun _ => Value.int .u64 0))) w := by kernel_rfl
  exact h
theorem wpl_buildS (hgd : o.guard = none) (ho : o.op = .build 88 #[]) (h : wpList Try.prog ops Q rest (a.put o.dst (.agg (ccS noS))) w) : wpList Try.prog ops Q (o :: rest) a w :=
  wpList_plain hgd fun K hK => by
    have h1 := build_run w
    unfold Oper.wp execOp
    simp only [ho, List.map_toArray, List.map_nil, Array.map_empty, Sem.run_bind, h1, Result.andThen_ok, Sem.run_pure]
    exact hK _ _ h
end
/-- Where a letter leads a set. -/
def fwS (x : AutV) (m : Sta) (l : Nat) : Nat → Sta
  | 0 => noS
  | n + 1 => if m.getLsbD n then adS (fwS x m l n) (stp x n l) else fwS x m l n
theorem fwS_bit (x : AutV) (m : Sta) (l i : Nat) (hst : ∀ j, j < x.acc.length → stp x j l < 4096) : ∀ n, n ≤ x.acc.length → ((fwS x m l n).getLsbD i = true ↔ ∃ j, j < n ∧ m.getLsbD j = true ∧ stp x j l = i)
  | 0, _ => by rw [show fwS x m l 0 = noS from rfl, noS_bit]; simp
  | n + 1, h => by
    have ih := fwS_bit x m l i hst n (by omega)
    rw [fwS]
    by_cases hm : m.getLsbD n = true
    · rw [if_pos hm, adS_bit]
      have h4 := hst n (by omega)
      constructor
      · intro e
        rcases Bool.or_eq_true _ _ ▸ e with e | e
        · obtain ⟨j, h1, h2, h3⟩ := ih.1 e
          exact ⟨j, by omega, h2, h3⟩
        · simp only [Bool.and_eq_true, decide_eq_true_eq] at e
          exact ⟨n, by omega, hm, e.2⟩
      · rintro ⟨j, h1, h2, h3⟩
        by_cases e : j = n
        · subst e
          have : decide (i < 4096) = true := decide_eq_true (by omega)
          rw [this, decide_eq_true h3]; simp
        · rw [ih.2 ⟨j, by omega, h2, h3⟩]; rfl
    · rw [if_neg hm, ih]
      constructor
      · rintro ⟨j, h1, h2, h3⟩; exact ⟨j, by omega, h2, h3⟩
      · rintro ⟨j, h1, h2, h3⟩
        by_cases e : j = n
        · subst e; exact absurd h2 hm
        · exact ⟨j, by omega, h2, h3⟩
/-- Is one of them accepted? -/
def meS (x : AutV) (m : Sta) : Bool := (List.range x.acc.length).any fun s => rdOf false x.acc (s : Int) && m.getLsbD s
/-- Where moved stands. -/
structure MvZ (x : AutV) (A : Option Addr) (c : Nat) (B : Option Addr) (d : Nat) (m o : Sta) (w wr : World) : Prop where
  box : wr.heap[w.heap.size]? = some (AB x A c B d)
  bm : wr.heap[w.heap.size + 1]? = some (.cells (ccS m) 88 (0, 0))
  res : wr.heap[w.heap.size + 1 + 1]? = some (.cells (ccS noS) 88 (0, 0))
  out : wr.heap[w.heap.size + 1 + 1 + 1]? = some (.cells (ccS o) 88 (0, 0))
  bel : Below w.heap.size w wr
section
variable {x : AutV} {A : Option Addr} {c : Nat} {B : Option Addr} {d : Nat} {m o o2 : Sta} {w wr w2 : World}
theorem MvZ.keep (h : MvZ x A c B d m o w wr) (hb : Below wr.heap.size wr w2) : MvZ x A c B d m o w w2 := ⟨hp_below' hb h.box, hp_below' hb h.bm, hp_below' hb h.res, hp_below' hb h.out, bl_then h.bel hb⟩
theorem MvZ.wrote (h : MvZ x A c B d m o w wr) (hw : Wrote wr (w.heap.size + 1 + 1 + 1) (ccS o2) w2) : MvZ x A c B d m o2 w w2 := ⟨(hw.no _ (by omega)).trans h.box, (hw.no _ (by omega)).trans h.bm, (hw.no _ (by omega)).trans h.res, hw.is, hw.bel w h.bel (by omega)⟩
end
set_option maxRecDepth 100000 in
set_option maxHeartbeats 800000 in
theorem movedS_any (x : AutV) (A : Option Addr) (c : Nat) (B : Option Addr) (d : Nat) (hx : AutOk x) (m : Sta) (l : Nat) (hl : (l : Int) < x.k) (w : World) (hr : ARd w x A B) :
    Calls Try.prog 78 #[.agg (ac x A c B d), .agg (ccS m), .int .i64 (l : Int)] w fun e w' => e = .returned (.agg (ccS (fwS x m l x.acc.length))) ∧ Below w.heap.size w w' := by
  have HX := Lib.hid hx
  have HR := Aside0.mk hr
  have hn2 := hx.2.2.2.1
  have h0 : MvZ x A c B d m noS w ((((w.alloc (AB x A c B d)).alloc (.cells (ccS m) 88)).alloc (.cells (ccS noS) 88)).alloc (.cells (ccS noS) 88)) := by
    have e := (((((Hp.start w).alloc (AB x A c B d)).alloc (.cells (ccS m) 88)).alloc (.cells (ccS noS) 88)).alloc (.cells (ccS noS) 88))
    rw [World.size_alloc, World.size_alloc, World.size_alloc] at e
    exact ⟨e.at 3 rfl, e.at 2 rfl, e.at 1 rfl, e.at 0 rfl, e.2⟩
  have H0 := Lib.hid h0
  have c0 : ((((w.alloc (AB x A c B d)).alloc (.cells (ccS m) 88)).alloc (.cells (ccS noS) 88)).alloc (.cells (ccS noS) 88)).cell? ⟨w.heap.size, 2, none⟩ = some (.slice B x.acc.length d) := by
    rw [cell_of_row _ _ _ _ _ _ h0.box]; rfl
  clear h0 hr hx
  go_enter Try.func78, Try.ntmps78
  go_wp2_with ((with_reducible refine gate_alloc (t := 88) rfl ?_); refine wpl_allocS rfl rfl ?_)
  clear c0
  go_loopw [12] (fun i wr => ∃ q : Nat, q ≤ x.acc.length ∧ i = .int .i64 q ∧ Hid (MvZ x A c B d m (fwS x m l q) w wr)) (fun i _ => x.acc.length - (intOf i).toNat)
  case atStart => exact ⟨0, by omega, rfl, H0⟩
  case round =>
    obtain ⟨i, hi, rfl, H⟩ := hrel
    by_cases hil : i < x.acc.length
    · have HAS := Aside0.mk (has_any m i (by omega) (w.heap.size + 1) wr H.out.bm)
      have hnx : fwS x m l (i + 1) = if m.getLsbD i then adS (fwS x m l i) (stp x i l) else fwS x m l i := rfl
      go_wp2_with fail
      refine HAS.out.mono ?_
      rintro e w2 ⟨rfl, hb⟩
      have H2 := Lib.hid (H.out.keep hb)
      clear hb H HAS
      cases hm : m.getLsbD i
      · rw [hm, if_neg (by decide)] at hnx
        rw [← hnx] at H2
        clear hm hnx
        go_wp2
        go_roundw
        case rel => exact ⟨i + 1, by omega, by go_num, H2⟩
        case measure => simp [intOf]; omega
      · rw [hm, if_pos rfl] at hnx
        obtain ⟨ad, p, L1⟩ := lkT HX.out (HR.out.below H2.out.bel) hil hl
        obtain ⟨z1l, _⟩ := stp_lt HX.out hil hl
        have c0 : w2.cell? ⟨w.heap.size, 0, none⟩ = some (.int .i64 x.k) := by rw [cell_of_row _ _ _ _ _ _ H2.out.box]; rfl
        have c1 : w2.cell? ⟨w.heap.size, 1, none⟩ = some (.slice A x.next.length c) := by rw [cell_of_row _ _ _ _ _ _ H2.out.box]; rfl
        have hA := L1.addr; have hcell := L1.cell; have hw5 := L1.mul; have hw11 := L1.add; have hw12 := L1.pos; have hw14 := L1.lt; have hw13 := L1.nat
        have AD := Aside0.mk (add_any (fwS x m l i) (stp x i l) (by omega) (w.heap.size + 1 + 1 + 1) w2 H2.out.out)
        have HNX := Lib.hid hnx
        clear L1 hm hnx
        generalize stp x i l = t at *
        subst hA
        go_wp2_with fail
        refine AD.out.mono ?_
        rintro e w3 ⟨rfl, hw⟩
        have H3 := Lib.hid (H2.out.wrote hw)
        rw [← HNX.out] at H3
        clear hw AD H2 HNX c0 c1 hcell
        go_wp2
        go_roundw
        case rel => exact ⟨i + 1, by omega, by go_num, H3⟩
        case measure => simp [intOf]; omega
    · have hie : i = x.acc.length := by omega
      rw [hie] at H
      clear hie
      go_wp2_with (first | ((with_reducible refine gate_ld (t := 88) rfl ?_); refine wpl_rowS (cs := ccS (fwS x m l x.acc.length)) rfl 88 _ rfl (w.heap.size + 1 + 1 + 1) rfl H.out.out rfl Try.underlying88 (by rw [ccS_size]; kernel_rfl) ?_) | ((with_reducible refine gate_st (t := 88) rfl ?_); refine wpList_store_row rfl 88 _ _ rfl (w.heap.size + 1 + 1) (ccS (fwS x m l x.acc.length)) rfl rfl 88 (ccS noS) H.out.res (by rw [ccS_size]; kernel_rfl) (by rw [ccS_size, ccS_size]) (ccS_all _) ?_))
      refine bodyPost_ret (v := .agg (ccS (fwS x m l x.acc.length))) ?_ rfl ⟨rfl, bl_row H.out.bel (by omega) _⟩
      exact results_cell_row rfl _ _ (w.heap.size + 1 + 1) 88 _ _ _ rfl (setRow_heap _ _ _ _ _ _ H.out.res) Try.underlying88 rfl (by rw [ccS_size]; kernel_rfl)
set_option maxRecDepth 100000 in
set_option maxHeartbeats 800000 in
theorem meetsS_any (x : AutV) (A : Option Addr) (c : Nat) (B : Option Addr) (d : Nat) (hn : x.acc.length ≤ 4096) (m : Sta) (w : World) (hr : ARd w x A B) :
    Calls Try.prog 80 #[.agg (ac x A c B d), .agg (ccS m)] w fun e w' => e = .returned (.bool (meS x m)) ∧ Below w.heap.size w w' := by
  have HR := Aside0.mk hr
  have h00 := ((Hp.start w).alloc (AB x A c B d)).alloc (.cells (ccS m) 88)
  rw [World.size_alloc] at h00
  have H0 := Lib.hid h00
  have c0 : ((w.alloc (AB x A c B d)).alloc (.cells (ccS m) 88)).cell? ⟨w.heap.size, 2, none⟩ = some (.slice B x.acc.length d) := by rw [cell_of_row _ _ _ _ _ _ (h00.at 1 rfl)]; rfl
  clear h00 hr
  go_enter Try.func80, Try.ntmps80
  go_wp2
  clear c0
  go_loopw [9] (fun i wr => ∃ q : Nat, q ≤ x.acc.length ∧ i = .int .i64 q ∧ Hid (∀ j, j < q → (rdOf false x.acc (j : Int) && m.getLsbD j) = false) ∧ Hid (Hp [(w.heap.size + 1, .cells (ccS m) 88), (w.heap.size, AB x A c B d)] w wr)) (fun i _ => x.acc.length - (intOf i).toNat)
  case atStart => exact ⟨0, by omega, rfl, Lib.hid (fun j hj => absurd hj (Nat.not_lt_zero j)), H0⟩
  case round =>
    obtain ⟨i, hi, rfl, HN, H⟩ := hrel
    clear H0
    by_cases hil : i < x.acc.length
    · obtain ⟨ad, hB, cA⟩ := Kd.at_bool (HR.out.below H.out.2).acc (i : Int) (by omega) (by omega)
      rw [Int.toNat_natCast] at cA
      have c2 : wr.cell? ⟨w.heap.size, 2, none⟩ = some (.slice B x.acc.length d) := by rw [cell_of_row _ _ _ _ _ _ (H.out.at 1 rfl)]; rfl
      obtain ⟨b, hb⟩ : ∃ b, b = rdOf false x.acc (i : Int) := ⟨_, rfl⟩
      rw [← hb] at cA
      have HBB := Lib.hid hb
      have HNX : Hid ((b && m.getLsbD i) = false → ∀ j, j < i + 1 → (rdOf false x.acc (j : Int) && m.getLsbD j) = false) := Lib.hid (fun h j hj => by
        by_cases e : j = i
        · subst e; rw [← HBB.out]; exact h
        · exact HN.out j (by omega))
      have HYS : Hid ((b && m.getLsbD i) = true → meS x m = true) := Lib.hid (fun h => by
        unfold meS
        rw [List.any_eq_true]
        exact ⟨i, List.mem_range.2 hil, by rw [← HBB.out]; exact h⟩)
      clear hb HBB
      subst hB
      cases b
      · go_wp2
        go_roundw
        case rel => exact ⟨i + 1, by omega, by go_num, Lib.hid (HNX.out rfl), H⟩
        case measure => simp [intOf]; omega
      · have HAS := Aside0.mk (has_any m i (by omega) (w.heap.size + 1) wr (H.out.at 0 rfl))
        go_wp2_with fail
        refine HAS.out.mono ?_
        rintro e w2 ⟨rfl, hb⟩
        have H2 := Lib.hid (H.out.keep hb)
        clear hb H HAS cA c2
        cases hm : m.getLsbD i
        · rw [hm] at HNX
          clear hm
          go_wp2
          go_roundw
          case rel => exact ⟨i + 1, by omega, by go_num, Lib.hid (HNX.out rfl), H2⟩
          case measure => simp [intOf]; omega
        · rw [hm] at HYS
          clear hm
          go_wp2
          go_ret
          exact ⟨by rw [HYS.out rfl]; rfl, H2.out.2⟩
    · have hie : i = x.acc.length := by omega
      have hno : meS x m = false := by
        unfold meS
        rw [List.any_eq_false]
        intro j hj
        have := HN.out j (by have := List.mem_range.1 hj; omega)
        rw [this]; decide
      have HNO := Lib.hid hno
      clear hno hie
      go_wp2
      go_ret
      exact ⟨by rw [HNO.out]; rfl, H.out.2⟩
end Go.Proofs.Ytjckidjljkjhfaa
