/- The reference's space 5: again and again. -/
import Derived.Test.YtjckidjljkjhfaaRtW
namespace Go.Proofs.Ytjckidjljkjhfaa
open Go.RowKit Go.Proofs.YtjckidjljkjhfaaW.PrintWords
set_option linter.unusedSimpArgs false
set_option linter.unusedVariables false
theorem hasc_sp {kd k2 : Int} {x : AutV} {A B : Option Addr} {c d : Nat} {s4 s5 : Value} {g : Nat} {W : World} {t : TypeId} {fr : Nat × Nat} (h : W.heap[g]? = some (.cells #[.int .i64 kd, .int .i64 x.k, .slice A x.next.length c, .slice B x.acc.length d, .int .i64 k2, s4, s5] t fr)) : HasC W g 1 (ac x A c B d) := fun j v hv => by
  have hj : j < 3 := by
    rcases Nat.lt_or_ge j 3 with h' | h'
    · exact h'
    · rw [Array.getElem?_eq_none (show (ac x A c B d).size ≤ j from h')] at hv; cases hv
  rw [cell_of_row _ _ _ _ _ _ h]
  have : j = 0 ∨ j = 1 ∨ j = 2 := by omega
  rcases this with rfl | rfl | rfl <;> exact hv
theorem wpl_hascW {ops : Array Oper} {rest : List Oper} {o : Oper} {a : Act} {w : World} {Q : Exit → Act → World → Prop} {lb : Nat} {cs : Array Value} (h : HasC w lb 1 cs) (x : Operand) (ho : o.op = .load 25 x) (hx : a.eval x = .pointer (some ⟨lb, 1, none⟩)) (hi : (Try.prog.info? 25).map (·.size) = some cs.size) (hw : Region.wanted o (yielded ops a.tmps) = true)
    (hk : wpList Try.prog ops Q rest (a.put o.dst (.agg cs)) w) : wpList Try.prog ops Q (o :: rest) a w :=
  wpList_step fun K hK => by
    rw [if_pos hw]
    have hrun := h.run (P := Try.prog) (ty := 25) (d := _) rfl Try.underlying25 hi
    unfold Oper.wp execOp
    simp only [ho, hx, Instr.loadAt, Instr.sureAddr, Sem.run_bind, Sem.run_pure, Result.andThen_ok, hrun]
    exact hK _ _ hk
theorem beq_bytes (a b : ByteArray) : (a == b) = decide (a = b) := by
  cases a with | mk x => cases b with | mk y =>
  show (x == y) = _
  by_cases h : x = y
  · subst h; simp
  · have h2 : ¬ (ByteArray.mk x = ByteArray.mk y) := fun e => h (by injection e)
    rw [decide_eq_false h2]; simpa using h
set_option maxRecDepth 100000 in
set_option maxHeartbeats 1600000 in
theorem rstep5_any (x : AutV) (A : Option Addr) (c : Nat) (B : Option Addr) (d : Nat) (hz : AutSz x c d) (hx : AutOk x) (m : Sta) (hm : ∀ j, m.getLsbD j = true → j < x.acc.length) (l : Nat) (hl : (l : Int) < x.k) (w : World) (hr : ARd w x A B) :
    Calls Try.prog 90 #[.agg (sp1 5 x A c B d), .string (enT x.acc.length m), .int .i64 (l : Int)] w fun e w' => e = .returned (.string (enT x.acc.length (stSt x m l))) ∧ Below w.heap.size w w' := by
  unfold sp1
  have hn1 := hx.2.2.1; have hn2 := hx.2.2.2.1
  have H0 := Lib.hid ((Hp.start w).alloc (.cells #[.int .i64 5, .int .i64 x.k, .slice A x.next.length c, .slice B x.acc.length d, .int .i64 0, .slice none 0 0, .slice none 0 0] 77))
  have STT := rstart5_any x A c B d hx (w.alloc (.cells #[.int .i64 5, .int .i64 x.k, .slice A x.next.length c, .slice B x.acc.length d, .int .i64 0, .slice none 0 0, .slice none 0 0] 77))
  unfold sp1 at STT
  have SX := Aside0.mk STT
  have SE := Aside0.mk (fun (W : World) => rset_any x.acc.length hn2 W)
  have MV := Aside0.mk (fun (n : Sta) (W : World) (h : Below w.heap.size w W) => rmoved_any x A c B d hz hx n l hl W (hr.below h))
  have SO := Aside0.mk (fun (n : Sta) (W : World) (h : Below w.heap.size w W) => rsome_any x A c B d hz hn2 n W (hr.below h))
  have cs0 : (w.alloc (.cells #[.int .i64 5, .int .i64 x.k, .slice A x.next.length c, .slice B x.acc.length d, .int .i64 0, .slice none 0 0, .slice none 0 0] 77)).cell? ⟨w.heap.size, 0, none⟩ = some (.int .i64 5) := by rw [cell_of_row _ _ _ _ _ _ (H0.out.at 0 rfl)]; rfl
  have c1 : (w.alloc (.cells #[.int .i64 5, .int .i64 x.k, .slice A x.next.length c, .slice B x.acc.length d, .int .i64 0, .slice none 0 0, .slice none 0 0] 77)).cell? ⟨w.heap.size, 1, none⟩ = some (.int .i64 x.k) := by rw [cell_of_row _ _ _ _ _ _ (H0.out.at 0 rfl)]; rfl
  have hTs := enT_size x.acc.length m
  have hst : stSt x m l = (if meS x (fwS x (actS m) l x.acc.length) then adS (fwS x (actS m) l x.acc.length) 0 else fwS x (actS m) l x.acc.length) := rfl
  rw [hst]
  by_cases he : m = noS
  · have hqq : (enT x.acc.length m == enT x.acc.length noS) = true := by rw [beq_bytes]; exact decide_eq_true (by rw [he])
    have hqt : ((enT x.acc.length m).toList == (enT x.acc.length noS).toList) = true := beq_iff_eq.mpr (by rw [he])
    have ha : actS m = adS noS 0 := by unfold actS; rw [if_pos he]; rfl
    rw [ha]
    generalize hzz : fwS x (adS noS 0) l x.acc.length = z
    have HZ := Lib.hid hzz
    generalize hrr : (if meS x z then adS z 0 else z) = r
    have HRR := Lib.hid hrr
    clear hzz hrr ha he hst hr hx hm STT
    generalize enT x.acc.length m = T at *
    generalize hT0 : enT x.acc.length noS = T0 at *
    have HT0 := Lib.hid hT0
    clear hT0
    go_enter Try.func90, Try.ntmps90
    go_wp2_with ((with_reducible refine gate_ld (t := 77) rfl ?_); refine ld_sp (kd := 5) (k := x.k) (k2 := 0) (s1 := .slice A x.next.length c) (s2 := .slice B x.acc.length d) (s4 := .slice none 0 0) (s5 := .slice none 0 0) _ rfl w.heap.size rfl (H0.out.at 0 rfl) rfl ?_)
    refine SX.out.mono ?_
    rintro e w1 ⟨rfl, hb⟩
    have H1 := Lib.hid (H0.out.keep hb)
    clear hb SX H0 cs0 c1
    go_wp2_with fail
    refine (SE.out w1).mono ?_
    rintro e w2 ⟨v, rfl, hv, hb⟩
    have hbs : w.heap.size ≤ w1.heap.size := H1.out.2.size
    have H2 := Lib.hid (show FlS #[.int .i64 5, .int .i64 x.k, .slice A x.next.length c, .slice B x.acc.length d, .int .i64 0, .slice none 0 0, .slice none 0 0] x.acc.length noS v w w2 from ⟨hp_below' hb (H1.out.at 0 rfl), Kd.R_lower hv hbs, bl_then H1.out.2 hb⟩)
    clear hb hv hbs SE H1
    obtain ⟨g, cc, rfl, hg1, hg2, hg3⟩ := own_form (0 : Int) H2.out.lst (by rw [flI_len]; omega)
    obtain ⟨p1, p2⟩ := hg3 0 (by rw [flI_len]; omega)
    rw [flI_len] at H2 ⊢
    have H3 := Lib.hid (H2.out.put (show 0 < x.acc.length by omega) hn2 hg1)
    have HC3 := Aside0.mk (Kd.R_reads' H3.out.lst).2.2
    rw [flI_len] at HC3
    clear hg1 hg2 hg3 H2
    go_wp2_with (first | ((with_reducible refine gate_conv (s := 73) (t := 9) rfl ?_); refine wpl_conv (n := x.acc.length) (m := (adS noS 0)) rfl _ rfl rfl (HC3.out) ?_) | ((with_reducible refine gate_ld (t := 25) rfl ?_); refine HasC.ld (lb := w.heap.size) (i := 1) (cs := ac x A c B d) (hasc_sp (H3.out.box)) rfl 25 _ rfl rfl rfl Try.underlying25 (by show _ = some 3; kernel_rfl) ?_))
    refine (MV.out (adS noS 0) _ (H3.out.bel)).mono ?_
    rintro e w3 ⟨v3, rfl, hv, hb⟩
    rw [HZ.out] at hv
    have hbs : w.heap.size ≤ (w2.setCell ⟨g, 0, none⟩ (.int .u8 1)).heap.size := (H3.out.bel).size
    have H4 := Lib.hid (show FlS #[.int .i64 5, .int .i64 x.k, .slice A x.next.length c, .slice B x.acc.length d, .int .i64 0, .slice none 0 0, .slice none 0 0] x.acc.length z v3 w w3 from ⟨hp_below' hb (H3.out.box), Kd.R_lower hv hbs, bl_then (H3.out.bel) hb⟩)
    obtain ⟨g3, c3, rfl, hh1, hh2, hh3⟩ := own_form (0 : Int) H4.out.lst (by rw [flI_len]; omega)
    rw [flI_len] at H4 ⊢
    have HG3 := Lib.hid hh1
    have HC4 := Aside0.mk (Kd.R_reads' H4.out.lst).2.2
    rw [flI_len] at HC4
    clear hh1 hh2 hh3 hv hb hbs MV H3 HC3 p1 p2
    go_wp2_with (first | ((with_reducible refine gate_ld (t := 25) rfl ?_); refine HasC.ld (lb := w.heap.size) (i := 1) (cs := ac x A c B d) (hasc_sp (H4.out.box)) rfl 25 _ rfl rfl rfl Try.underlying25 (by show _ = some 3; kernel_rfl) ?_) | ((with_reducible refine gate_conv (s := 73) (t := 9) rfl ?_); refine wpl_conv (n := x.acc.length) (m := z) rfl _ rfl rfl (HC4.out) ?_))
    refine (SO.out z w3 H4.out.bel).mono ?_
    rintro e w5 ⟨rfl, hb⟩
    have H5 := Lib.hid (H4.out.keep hb)
    clear hb H4 HC4 SO
    obtain ⟨g', cc', hge, hg1, hg2, hg3⟩ := own_form (0 : Int) H5.out.lst (by rw [flI_len]; omega)
    injection hge with hA1 hA3 hA2
    injection hA1 with hA1
    injection hA1 with hA1
    subst hA1
    obtain ⟨q1, q2⟩ := hg3 0 (by rw [flI_len]; omega)
    clear hg1 hg2 hg3 hA2 hA3
    cases hme : meS x z
    · have HE : Hid (r = z) := Lib.hid (by rw [← HRR.out, hme, if_neg (by decide)])
      have HC5 := Aside0.mk (Kd.R_reads' H5.out.lst).2.2
      rw [flI_len] at HC5
      clear hme q1 q2
      go_wp2_with ((with_reducible refine gate_conv (s := 73) (t := 9) rfl ?_); refine wpl_conv (n := x.acc.length) (m := z) rfl _ rfl rfl (HC5.out) ?_)
      go_ret
      exact ⟨by rw [HE.out]; rfl, H5.out.bel⟩
    · have HE : Hid (r = adS z 0) := Lib.hid (by rw [← HRR.out, hme, if_pos rfl])
      have H6 := Lib.hid (H5.out.put (show 0 < x.acc.length by omega) hn2 HG3.out)
      have HC6 := Aside0.mk (Kd.R_reads' H6.out.lst).2.2
      rw [flI_len] at HC6
      clear hme
      go_wp2_with ((with_reducible refine gate_conv (s := 73) (t := 9) rfl ?_); refine wpl_conv (n := x.acc.length) (m := (adS z 0)) rfl _ rfl rfl (HC6.out) ?_)
      go_ret
      exact ⟨by rw [HE.out]; rfl, H6.out.bel⟩
  · have hqq : (enT x.acc.length m == enT x.acc.length noS) = false := by
      rw [beq_bytes]
      exact decide_eq_false (fun h => he (enT_inj hm (fun j hj => by rw [noS_bit] at hj; cases hj) h))
    have hqt : ((enT x.acc.length m).toList == (enT x.acc.length noS).toList) = false := beq_eq_false_iff_ne.mpr (fun h => he (enT_inj hm (fun j hj => by rw [noS_bit] at hj; cases hj) (tl_inj h)))
    have ha : actS m = m := by unfold actS; rw [if_neg he]
    rw [ha]
    generalize hzz : fwS x m l x.acc.length = z
    have HZ := Lib.hid hzz
    generalize hrr : (if meS x z then adS z 0 else z) = r
    have HRR := Lib.hid hrr
    clear hzz hrr ha he hst hr hx hm STT SE
    generalize hT : enT x.acc.length m = T at *
    have HT := Lib.hid hT
    generalize hT0 : enT x.acc.length noS = T0 at *
    clear hT0 hT
    go_enter Try.func90, Try.ntmps90
    go_wp2_with ((with_reducible refine gate_ld (t := 77) rfl ?_); refine ld_sp (kd := 5) (k := x.k) (k2 := 0) (s1 := .slice A x.next.length c) (s2 := .slice B x.acc.length d) (s4 := .slice none 0 0) (s5 := .slice none 0 0) _ rfl w.heap.size rfl (H0.out.at 0 rfl) rfl ?_)
    refine SX.out.mono ?_
    rintro e w1 ⟨rfl, hb⟩
    have H1 := Lib.hid (H0.out.keep hb)
    clear hb SX H0 cs0 c1
    go_wp2_with ((with_reducible refine gate_ld (t := 25) rfl ?_); refine HasC.ld (lb := w.heap.size) (i := 1) (cs := ac x A c B d) (hasc_sp (H1.out.at 0 rfl)) rfl 25 _ rfl rfl rfl Try.underlying25 (by show _ = some 3; kernel_rfl) ?_)
    have MW := MV.out m w1 H1.out.2
    rw [HT.out] at MW
    replace MV := Aside0.mk (fun (n : Sta) (W : World) (h : n = m ∧ W = w1) => (by obtain ⟨rfl, rfl⟩ := h; exact MW : Calls Try.prog 99 #[.agg (ac x A c B d), .string T, .int .i64 (l : Int)] w1 fun e w' => ∃ v, e = .returned v ∧ Kd.R (Kd.int .u8) 5 w' w1.heap.size (fun _ => True) v (flI x.acc.length (fwS x m l x.acc.length)) ∧ Below w1.heap.size w1 w'))
    clear MW
    refine (MV.out m w1 ⟨rfl, rfl⟩).mono ?_
    rintro e w3 ⟨v3, rfl, hv, hb⟩
    rw [HZ.out] at hv
    have hbs : w.heap.size ≤ w1.heap.size := (H1.out.2).size
    have H4 := Lib.hid (show FlS #[.int .i64 5, .int .i64 x.k, .slice A x.next.length c, .slice B x.acc.length d, .int .i64 0, .slice none 0 0, .slice none 0 0] x.acc.length z v3 w w3 from ⟨hp_below' hb (H1.out.at 0 rfl), Kd.R_lower hv hbs, bl_then (H1.out.2) hb⟩)
    obtain ⟨g3, c3, rfl, hh1, hh2, hh3⟩ := own_form (0 : Int) H4.out.lst (by rw [flI_len]; omega)
    rw [flI_len] at H4 ⊢
    have HG3 := Lib.hid hh1
    have HC4 := Aside0.mk (Kd.R_reads' H4.out.lst).2.2
    rw [flI_len] at HC4
    clear hh1 hh2 hh3 hv hb hbs MV H1
    go_wp2_with (first | ((with_reducible refine gate_ld (t := 25) rfl ?_); refine HasC.ld (lb := w.heap.size) (i := 1) (cs := ac x A c B d) (hasc_sp (H4.out.box)) rfl 25 _ rfl rfl rfl Try.underlying25 (by show _ = some 3; kernel_rfl) ?_) | ((with_reducible refine gate_conv (s := 73) (t := 9) rfl ?_); refine wpl_conv (n := x.acc.length) (m := z) rfl _ rfl rfl (HC4.out) ?_))
    refine (SO.out z w3 H4.out.bel).mono ?_
    rintro e w5 ⟨rfl, hb⟩
    have H5 := Lib.hid (H4.out.keep hb)
    clear hb H4 HC4 SO
    obtain ⟨g', cc', hge, hg1, hg2, hg3⟩ := own_form (0 : Int) H5.out.lst (by rw [flI_len]; omega)
    injection hge with hA1 hA3 hA2
    injection hA1 with hA1
    injection hA1 with hA1
    subst hA1
    obtain ⟨q1, q2⟩ := hg3 0 (by rw [flI_len]; omega)
    clear hg1 hg2 hg3 hA2 hA3
    cases hme : meS x z
    · have HE : Hid (r = z) := Lib.hid (by rw [← HRR.out, hme, if_neg (by decide)])
      have HC5 := Aside0.mk (Kd.R_reads' H5.out.lst).2.2
      rw [flI_len] at HC5
      clear hme q1 q2
      go_wp2_with ((with_reducible refine gate_conv (s := 73) (t := 9) rfl ?_); refine wpl_conv (n := x.acc.length) (m := z) rfl _ rfl rfl (HC5.out) ?_)
      go_ret
      exact ⟨by rw [HE.out]; rfl, H5.out.bel⟩
    · have HE : Hid (r = adS z 0) := Lib.hid (by rw [← HRR.out, hme, if_pos rfl])
      have H6 := Lib.hid (H5.out.put (show 0 < x.acc.length by omega) hn2 HG3.out)
      have HC6 := Aside0.mk (Kd.R_reads' H6.out.lst).2.2
      rw [flI_len] at HC6
      clear hme
      go_wp2_with ((with_reducible refine gate_conv (s := 73) (t := 9) rfl ?_); refine wpl_conv (n := x.acc.length) (m := (adS z 0)) rfl _ rfl rfl (HC6.out) ?_)
      go_ret
      exact ⟨by rw [HE.out]; rfl, H6.out.bel⟩
set_option maxRecDepth 100000 in
set_option maxHeartbeats 800000 in
theorem rgood5_any (how : Int) (x : AutV) (A : Option Addr) (c : Nat) (B : Option Addr) (d : Nat) (hz : AutSz x c d) (hx : AutOk x) (m : Sta) (hm : ∀ j, m.getLsbD j = true → j < x.acc.length) (w : World) (hr : ARd w x A B) :
    Calls Try.prog 92 #[.agg (sp1 5 x A c B d), .string (enT x.acc.length m), .int .i64 how] w fun e w' => e = .returned (.bool (stG x m)) ∧ Below w.heap.size w w' := by
  unfold sp1
  have hn1 := hx.2.2.1; have hn2 := hx.2.2.2.1
  have H0 := Lib.hid ((Hp.start w).alloc (.cells #[.int .i64 5, .int .i64 x.k, .slice A x.next.length c, .slice B x.acc.length d, .int .i64 0, .slice none 0 0, .slice none 0 0] 77))
  have STT := rstart5_any x A c B d hx (w.alloc (.cells #[.int .i64 5, .int .i64 x.k, .slice A x.next.length c, .slice B x.acc.length d, .int .i64 0, .slice none 0 0, .slice none 0 0] 77))
  unfold sp1 at STT
  have SX := Aside0.mk STT
  have SO := Aside0.mk (fun (W : World) (h : Below w.heap.size w W) => rsome_any x A c B d hz hn2 m W (hr.below h))
  have cs0 : (w.alloc (.cells #[.int .i64 5, .int .i64 x.k, .slice A x.next.length c, .slice B x.acc.length d, .int .i64 0, .slice none 0 0, .slice none 0 0] 77)).cell? ⟨w.heap.size, 0, none⟩ = some (.int .i64 5) := by rw [cell_of_row _ _ _ _ _ _ (H0.out.at 0 rfl)]; rfl
  have hst : stG x m = (decide (m = noS) || meS x m) := rfl
  rw [hst]
  by_cases he : m = noS
  · have hqq : (enT x.acc.length m == enT x.acc.length noS) = true := by rw [beq_bytes]; exact decide_eq_true (by rw [he])
    have hqt : ((enT x.acc.length m).toList == (enT x.acc.length noS).toList) = true := beq_iff_eq.mpr (by rw [he])
    rw [decide_eq_true he]
    clear he hst hr hx hm STT SO
    generalize enT x.acc.length m = T at *
    generalize enT x.acc.length noS = T0 at *
    go_enter Try.func92, Try.ntmps92
    go_wp2_with ((with_reducible refine gate_ld (t := 77) rfl ?_); refine ld_sp (kd := 5) (k := x.k) (k2 := 0) (s1 := .slice A x.next.length c) (s2 := .slice B x.acc.length d) (s4 := .slice none 0 0) (s5 := .slice none 0 0) _ rfl w.heap.size rfl (H0.out.at 0 rfl) rfl ?_)
    refine SX.out.mono ?_
    rintro e w1 ⟨rfl, hb⟩
    have H1 := Lib.hid (H0.out.keep hb)
    clear hb SX H0 cs0
    go_wp2
    go_ret
    exact ⟨by simp, H1.out.2⟩
  · have hqq : (enT x.acc.length m == enT x.acc.length noS) = false := by
      rw [beq_bytes]
      exact decide_eq_false (fun h => he (enT_inj hm (fun j hj => by rw [noS_bit] at hj; cases hj) h))
    have hqt : ((enT x.acc.length m).toList == (enT x.acc.length noS).toList) = false := beq_eq_false_iff_ne.mpr (fun h => he (enT_inj hm (fun j hj => by rw [noS_bit] at hj; cases hj) (tl_inj h)))
    rw [decide_eq_false he]
    clear he hst hr hx hm STT
    generalize enT x.acc.length m = T at *
    generalize enT x.acc.length noS = T0 at *
    go_enter Try.func92, Try.ntmps92
    go_wp2_with ((with_reducible refine gate_ld (t := 77) rfl ?_); refine ld_sp (kd := 5) (k := x.k) (k2 := 0) (s1 := .slice A x.next.length c) (s2 := .slice B x.acc.length d) (s4 := .slice none 0 0) (s5 := .slice none 0 0) _ rfl w.heap.size rfl (H0.out.at 0 rfl) rfl ?_)
    refine SX.out.mono ?_
    rintro e w1 ⟨rfl, hb⟩
    have H1 := Lib.hid (H0.out.keep hb)
    clear hb SX H0 cs0
    go_wp2_with ((with_reducible refine gate_ld (t := 25) rfl ?_); refine wpl_hascW (lb := w.heap.size) (cs := ac x A c B d) (hasc_sp (H1.out.at 0 rfl)) _ rfl rfl (by show _ = some 3; kernel_rfl) rfl ?_)
    refine (SO.out w1 H1.out.2).mono ?_
    rintro e w2 ⟨rfl, hb⟩
    have H2 := Lib.hid (bl_then H1.out.2 hb)
    clear hb SO H1
    go_wp2
    go_ret
    exact ⟨by simp, H2.out⟩
end Go.Proofs.Ytjckidjljkjhfaa
