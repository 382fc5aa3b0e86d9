/- The walks of the reference's Ahead and Behind. -/
import Derived.Test.YtjckidjljkjhfaaQtP
namespace Go.Proofs.Ytjckidjljkjhfaa
open Go.RowKit Go.Proofs.YtjckidjljkjhfaaW.PrintWords Go.Proofs.Ytjckidjljkjhfaa.PAutoRuns
set_option linter.unusedSimpArgs false
set_option linter.unusedVariables false
set_option maxRecDepth 100000 in
set_option maxHeartbeats 400000 in
theorem turned_any (i s : Nat) (hs : s ≤ 1000000) (hi : i ≤ 1000000) (w : World) : Calls Try.prog 67 #[.int .i64 (i : Int), .int .i64 (s : Int)] w fun e w' => e = .returned (.int .i64 ((trn s i : Nat) : Int)) ∧ Below w.heap.size w w' := by
  unfold trn
  by_cases h0 : i = 0
  · rw [if_pos h0, h0]
    clear h0 hi
    go_enter Try.func67, Try.ntmps67
    go_wp2
    go_ret
    exact ⟨rfl, Below.refl _ _⟩
  · rw [if_neg h0]
    have hd1 : ((i : Int) == 0) = false := by rw [beq_eq_false_iff_ne]; omega
    have hd2 : (i == 0) = false := by rw [beq_eq_false_iff_ne]; exact h0
    by_cases h1 : i = s
    · rw [if_pos h1]
      have hd3 : ((i : Int) == (s : Int)) = true := by rw [beq_iff_eq]; omega
      have hd4 : (i == s) = true := by rw [beq_iff_eq]; exact h1
      clear h1 h0
      go_enter Try.func67, Try.ntmps67
      go_wp2
      go_ret
      exact ⟨rfl, Below.refl _ _⟩
    · rw [if_neg h1]
      have hd3 : ((i : Int) == (s : Int)) = false := by rw [beq_eq_false_iff_ne]; omega
      have hd4 : (i == s) = false := by rw [beq_eq_false_iff_ne]; exact h1
      clear h1 h0
      go_enter Try.func67, Try.ntmps67
      go_wp2
      go_ret
      exact ⟨rfl, Below.refl _ _⟩
theorem rgo_any (x : AutV) (A : Option Addr) (c : Nat) (B : Option Addr) (d : Nat) (hz : AutSz x c d) (hx : AutOk x) (s : Nat) (hs : s < x.acc.length) (v : ByteArray) (hv : v.size ≤ 140737488351232) (hw : wrdE x.k v = 0) (w : World) (hr : ARd w x A B) :
    Calls Try.prog 53 #[.agg (ac x A c B d), .int .i64 (s : Int), .string v] w fun e w' => e = .returned (.int .i64 ((fol x s v.data.toList : Nat) : Int)) ∧ Below w.heap.size w w' :=
  eggboxref08_Go.calls (v.size + 1) x.k A c x.next B d x.acc (s : Int) v _ w hr.next hz.1 hr.acc hz.2.1 (by
    have := rgo_l hx hv (wrdE_ok hw) (v.size + 1) 0 s (Nat.zero_le _) (by omega) hs
    rw [List.drop_zero] at this
    exact this)
/-- An automaton that is being laid out beside another one. -/
structure WQ (x : AutV) (A : Option Addr) (c : Nat) (B : Option Addr) (d : Nat) (w wr : World) (go : Nat) (vn va : Value) (N : List Int) (Ac : List Bool) : Prop where
  box : wr.heap[w.heap.size]? = some (AB x A c B d)
  res : wr.heap[w.heap.size + 1]? = some (.cells #[.int .i64 0, .slice none 0 0, .slice none 0 0] 25 (0, 0))
  out : wr.heap[go]? = some (.cells #[.int .i64 x.k, vn, va] 25 (0, 0))
  nxt : Own wr w.heap.size vn N
  acc : Kd.R Kd.bool 4 wr w.heap.size (fun _ => True) va Ac
  bel : Below w.heap.size w wr
  gob : w.heap.size + 1 < go
section
variable {x : AutV} {A : Option Addr} {c : Nat} {B : Option Addr} {d : Nat} {w W w1 : World} {go : Nat} {vn va v1 : Value} {N : List Int} {L : List Nat} {Ac : List Bool}
theorem WQ.acc_step (h : WQ x A c B d w W go vn va N Ac) {b : Bool} (ho : Kd.R Kd.bool 4 w1 w.heap.size (fun _ => True) v1 (Ac ++ [b])) (hb : Below w.heap.size w w1) (ha : App W w1 va v1) : WQ x A c B d w (w1.setCell ⟨go, 2, none⟩ v1) go vn v1 N (Ac ++ [b]) := by
  have ho1 := ha.cells h.out h.acc (by decide)
  have hg := h.gob
  refine ⟨hp_cell (by show w.heap.size ≠ go; omega) (ha.cells h.box h.acc (by decide)), hp_cell (by show w.heap.size + 1 ≠ go; omega) (ha.cells h.res h.acc (by decide)), ?_, ?_, ?_, bl_cell hb (by show w.heap.size ≤ go; omega) _, h.gob⟩
  · rw [heap_setCell_same _ _ _ _ _ _ ho1]; rfl
  · exact own_cellT ho1 (ha.own rfl h.nxt (sep_type h.nxt h.acc (by decide))).1 (by decide) rfl _ _
  · exact own_cellT ho1 ho (by decide) rfl _ _
theorem WQ.nxt_step (h : WQ x A c B d w W go vn va (zl L) Ac) {b : Nat} (ho : Own w1 w.heap.size v1 (zl L ++ [(b : Int)])) (hb : Below w.heap.size w w1) (ha : App W w1 vn v1) : WQ x A c B d w (w1.setCell ⟨go, 1, none⟩ v1) go v1 va (zl (L ++ [b])) Ac := by
  have ho1 := ha.cells h.out h.nxt (by decide)
  have hg := h.gob
  refine ⟨hp_cell (by show w.heap.size ≠ go; omega) (ha.cells h.box h.nxt (by decide)), hp_cell (by show w.heap.size + 1 ≠ go; omega) (ha.cells h.res h.nxt (by decide)), ?_, ?_, ?_, bl_cell hb (by show w.heap.size ≤ go; omega) _, h.gob⟩
  · rw [heap_setCell_same _ _ _ _ _ _ ho1]; rfl
  · rw [zl_snoc]
    exact own_cellT ho1 ho (by decide) rfl _ _
  · exact own_cellT ho1 (ha.own rfl h.acc (sep_type h.acc h.nxt (by decide))).1 (by decide) rfl _ _
theorem WQ.below (h : WQ x A c B d w W go vn va N Ac) (hb : Below W.heap.size W w1) : WQ x A c B d w w1 go vn va N Ac :=
  ⟨hp_below' hb h.box, hp_below' hb h.res, hp_below' hb h.out, Kd.R_below h.nxt hb, Kd.R_below h.acc hb, bl_then h.bel hb, h.gob⟩
theorem WQ.drew (h : WQ x A c B d w W go vn va N Ac) : WQ x A c B d w W.drew go vn va N Ac := ⟨h.box, h.res, h.out, Kd.R_drewN h.nxt 1, Kd.R_drewN h.acc 1, h.bel.drew, h.gob⟩
end
set_option maxRecDepth 100000 in
set_option maxHeartbeats 1600000 in
theorem rahead_any (x : AutV) (A : Option Addr) (c : Nat) (B : Option Addr) (d : Nat) (hz : AutSz x c d) (v : ByteArray) (hv : v.size ≤ 140737488351232) (w : World) (hr : ARd w x A B) :
    Calls Try.prog 33 #[.agg (ac x A c B d), .string v] w fun e w' => ∃ vn va, e = .returned (.tuple #[.agg #[.int .i64 (ahV x v).k, vn, va], .int .i64 (runE x 0 v)]) ∧
      Own w' w.heap.size vn (ahV x v).next ∧ Kd.R Kd.bool 4 w' w.heap.size (fun _ => True) va (ahV x v).acc ∧ Below w.heap.size w w' := by
  have HR := Aside0.mk hr
  have h00 := ((Hp.start w).alloc (AB x A c B d)).alloc (.cells #[.int .i64 0, .slice none 0 0, .slice none 0 0] 25)
  rw [World.size_alloc] at h00
  have H0 := Lib.hid h00
  clear h00
  have RN := Aside0.mk (rrun8_any x A c B d hz 0 v hv ((w.alloc (AB x A c B d)).alloc (.cells #[.int .i64 0, .slice none 0 0, .slice none 0 0] 25)) (hr.below H0.out.2))
  by_cases h0 : runE x 0 v = 0
  · obtain ⟨hx, wv, rv, lv⟩ := run_is h0
    have hx1 := hx.1; have hx2 := hx.2.1; have hx3 := hx.2.2.1; have hx4 := hx.2.2.2.1
    obtain ⟨k, hk⟩ : ∃ k : Nat, x.k = (k : Int) := Int.eq_ofNat_of_zero_le (by omega)
    have hkn : x.k.toNat = k := by omega
    have hk0 : 0 < k := by omega
    have hk88 : k ≤ 8 := by omega
    have hst : ∀ i l, i < x.acc.length → l < k → tst x (runV x 0 v) i l < x.acc.length := fun i l hi hl => trn_lt lv (stp_lt hx (trn_lt lv hi) (by omega)).1
    have RE := fun (An : Option Addr) (cn : Nat) (Aa : Option Addr) (ca : Nat) (hz : AutSz (fAut k x.acc.length (tst x (runV x 0 v)) (tgd x (runV x 0 v))) cn ca) (W : World) (hr : ARd W (fAut k x.acc.length (tst x (runV x 0 v)) (tgd x (runV x 0 v))) An Aa) => rreach_any (fAut k x.acc.length (tst x (runV x 0 v)) (tgd x (runV x 0 v))) An cn Aa ca hz W hr
    rw [from_f hk0 hk88 (by omega) hx4 hst, autE_ok (fAut_ok hk0 hk88 (by omega) hx4 hst), sr_trn hk0] at RE
    replace RE := Aside0.mk RE
    have HX := Lib.hid hx
    have HST := Lib.hid hst
    have HKN := Lib.hid hkn; have HK := Lib.hid hk
    rw [ah_of h0, hkn]
    rw [h0] at RN ⊢
    generalize srV k (stp x) (runV x 0 v) (gdA x) = V at *
    generalize runV x 0 v = q at *
    clear hx hr h0 wv rv hst hkn hz hx1 hx2 hk
    go_enter Try.func33, Try.ntmps33
    go_wp2_with (refine ld_au _ rfl w.heap.size rfl (H0.out.at 1 rfl) rfl ?_)
    refine RN.out.mono ?_
    rintro e w1 ⟨rfl, hb⟩
    have H1 := Lib.hid (H0.out.keep hb)
    have c0 : w1.cell? ⟨w.heap.size, 0, none⟩ = some (.int .i64 x.k) := by rw [cell_of_row _ _ _ _ _ _ (H1.out.at 1 rfl)]; rfl
    clear hb RN H0
    go_wp2_with ((with_reducible refine gate_st (t := 25) rfl ?_); refine st_auz (k := x.k) _ _ rfl rfl rfl rfl rfl ?_)
    have hgo := hp_lt (H1.out.at 0 rfl)
    have SI : Hid (WQ x A c B d w (w1.alloc (.cells #[.int .i64 x.k, .slice none 0 0, .slice none 0 0] 25)) w1.heap.size (.slice none 0 0) (.slice none 0 0) (zl (fnl k (tst x q) (0 * k))) (fal (tgd x q) 0)) := Lib.hid (by
      rw [Nat.zero_mul]
      exact ⟨hp_old (H1.out.at 1 rfl), hp_old (H1.out.at 0 rfl), hp_new rfl, Kd.R_nil _ _ _ _ _, Kd.R_nil _ _ _ _ _, bl_alloc H1.out.2 _, hgo⟩)
    clear H1 hgo c0
    obtain ⟨go, hgo⟩ : ∃ go, go = w1.heap.size := ⟨_, rfl⟩
    rw [← hgo] at SI ⊢
    clear hgo
    go_loopw [9] (fun i wr => ∃ (s : Nat) (vn va : Value), s ≤ x.acc.length ∧ i = .int .i64 s ∧ Hid (WQ x A c B d w wr go vn va (zl (fnl k (tst x q) (s * k))) (fal (tgd x q) s))) (fun i _ => x.acc.length - (intOf i).toNat)
    case atStart => exact ⟨0, _, _, by omega, rfl, SI⟩
    case round =>
      obtain ⟨s, vn, va, hs, rfl, G⟩ := hrel
      have c2 : wr.cell? ⟨w.heap.size, 2, none⟩ = some (.slice B x.acc.length d) := by rw [cell_of_row _ _ _ _ _ _ G.out.box]; rfl
      by_cases hsn : s < x.acc.length
      · obtain ⟨fr, hfr⟩ : ∃ fr, fr = trn q s := ⟨_, rfl⟩
        have hfl : fr < x.acc.length := by rw [hfr]; exact trn_lt lv hsn
        have HFR := Lib.hid hfr
        go_wp2_with fail
        refine (turned_any s q (by omega) (by omega) _).mono ?_
        rw [← hfr]
        rintro e w2 ⟨rfl, hb⟩
        have G2 := Lib.hid (G.out.below hb)
        clear hb G c2 hfr
        go_wp2
        go_loopw [11] (fun l wi => ∃ (c' : Nat) (vn : Value), c' ≤ k ∧ l = .int .i64 c' ∧ Hid (WQ x A c B d w wi go vn va (zl (fnl k (tst x q) (s * k + c'))) (fal (tgd x q) s))) (fun l _ => k - (intOf l).toNat)
        case atStart => exact ⟨0, _, by omega, rfl, G2⟩
        case round =>
          obtain ⟨c', vn2, hc, rfl, H⟩ := hrel
          have c0 : wr.cell? ⟨w.heap.size, 0, none⟩ = some (.int .i64 (k : Int)) := by rw [cell_of_row _ _ _ _ _ _ H.out.box, ← HK.out]; rfl
          by_cases hck : c' < k
          · have HNX := Lib.hid (fnl_next (st := tst x q) (s := s) hck)
            have hnl : Hid ((fnl k (tst x q) (s * k + c')).length ≤ 40960) := Lib.hid (by
              rw [fnl_len]
              have h1 : (s + 1) * k ≤ 4096 * 8 := Nat.mul_le_mul (by omega) hk88
              rw [Nat.succ_mul] at h1
              omega)
            have c1 : wr.cell? ⟨w.heap.size, 1, none⟩ = some (.slice A x.next.length c) := by rw [cell_of_row _ _ _ _ _ _ H.out.box]; rfl
            have hck3 : (c' : Int) < x.k := by have := HK.out; omega
            obtain ⟨z1, z2⟩ := stp_lt HX.out hfl hck3
            have hix := stp_idx HX.out hfl hck3
            have hxl : x.next.length ≤ 32768 := by
              have h1 := aut_mul HX.out.1 HX.out.2.1 HX.out.2.2.2.1
              have h2 := HX.out.2.2.2.2.1
              omega
            obtain ⟨ad2, hA, hcell⟩ := Kd.at_int (HR.out.below H.out.bel).next ((fr * x.k.toNat + c' : Nat) : Int) (by omega) (by omega)
            rw [Int.toNat_natCast, z2] at hcell
            rw [HKN.out] at hcell hix
            obtain ⟨t1, ht1⟩ : ∃ t1, t1 = stp x fr c' := ⟨_, rfl⟩
            rw [← ht1] at hcell z1
            obtain ⟨t2, ht2⟩ : ∃ t2, t2 = trn q t1 := ⟨_, rfl⟩
            have HTT : Hid (tst x q s c' = t2) := Lib.hid (by unfold tst; rw [← HFR.out, ← ht1, ← ht2])
            have TN := Aside0.mk (fun W => turned_any t1 q (by omega) (by omega) W)
            rw [← ht2] at TN
            have hmul : (fr : Int) * (k : Int) = ((fr * k : Nat) : Int) := by push_cast; rfl
            have hP : fr * k ≤ 40960 := by
              have : fr * k ≤ 4096 * 10 := Nat.mul_le_mul (by omega) (by omega)
              omega
            have HMUL := Lib.hid hmul
            clear hmul ht1 ht2 hck3 z2
            generalize fr * k = p at *
            generalize fnl k (tst x q) (s * k + c') = N1 at *
            have hAA := hA
            subst hA
            have hw5 : IntKind.i64.wrap ((fr : Int) * (k : Int)) = (p : Int) := by rw [HMUL.out]; exact IntWalk.i64_in _ ⟨by omega, by omega⟩
            have hw11 : IntKind.i64.wrap ((p : Int) + (c' : Int)) = (p : Int) + (c' : Int) := IntWalk.i64_in _ ⟨by omega, by omega⟩
            have hw12 : 0 ≤ (p : Int) + (c' : Int) := by omega
            have hw14 : (p : Int) + (c' : Int) < (x.next.length : Int) := by omega
            have hw13 : ((p : Int) + (c' : Int)).toNat = p + c' := by omega
            clear G2
            go_wp2_with fail
            refine (TN.out _).mono ?_
            rintro e w2 ⟨rfl, hb⟩
            have H3 := Lib.hid (H.out.below hb)
            have c4 : w2.cell? ⟨go, 1, none⟩ = some vn2 := by rw [cell_of_row _ _ _ _ _ _ H3.out.out]; rfl
            clear hb H TN c0 c1 hcell
            go_wp2_with ((with_reducible refine gate_builtin (b := .append) (xs := #[.tmp 55, .tmp 57]) rfl ?_); at_builtin; refine wpl_append (Kd.int .i64) (w0 := w) w.heap.size rfl (.tmp 55) (.tmp 57) 22 3 (.int .i64 0) 8 rfl Try.underlying22 info_int rfl (by decide) (by omega) vn2 (zl N1) (t2 : Int) [.int .i64 t2] rfl rfl rfl H3.out.nxt H3.out.bel H3.out.bel.size (by rw [zl_len]; have := hnl.out; omega) (fun v4 w9 ho hb ha => ?_); have d1 : w9.cell? ⟨go, 1, none⟩ = some vn2 := (by rw [cell_of_row _ _ _ _ _ _ (ha.cells H3.out.out H3.out.nxt (by decide))]; rfl); have f1 : w9.frozen? ⟨go, 1, none⟩ = false := frozen_of_row _ _ _ _ _ (ha.cells H3.out.out H3.out.nxt (by decide)); have hm3 := H3.out.nxt_step (b := t2) ho hb ha; obtain ⟨A4, c4', rfl⟩ := Kd.R_slice ho; rw [List.length_append, List.length_singleton] at hm3; have HM3 := Lib.hid hm3; clear ho hb ha hm3)
            go_roundw
            case rel => exact ⟨c' + 1, _, by omega, by go_num, by rw [HNX.out, HTT.out]; exact HM3⟩
            case measure => simp [intOf]; omega
          · have hce : c' = k := by omega
            have HEK : Hid ((s + 1) * k = s * k + c') := Lib.hid (by rw [Nat.succ_mul, hce])
            have HWN := Lib.hid (fal_next (tgd x q) s)
            have hal : Hid ((fal (tgd x q) s).length ≤ 4096) := Lib.hid (by rw [fal_len]; omega)
            obtain ⟨ad, hB, hcell⟩ := Kd.at_bool HR.out.acc (fr : Int) (by omega) (by omega)
            rw [Int.toNat_natCast] at hcell
            obtain ⟨b, hbb⟩ : ∃ b, b = tgd x q s := ⟨_, rfl⟩
            have HAC : Hid (w.cell? (ad.add fr) = some (.bool b)) := Lib.hid (by
              rw [hbb]; unfold tgd; rw [← HFR.out]; exact hcell)
            have HBB := Lib.hid hbb
            have hckd : decide ((c' : Int) < (k : Int)) = false := decide_eq_false (by omega)
            clear hce hbb hcell
            generalize fal (tgd x q) s = Ac at *
            have hBB := hB
            subst hB
            go_wp2
            refine wp_region_held_drew (S := fun w' => Below w.heap.size w w' ∧ w'.heap[w.heap.size]? = some (AB x A c (some ad) d)) (by kernel_rfl) ⟨H.out.bel.drew, H.out.box⟩ (fun hS => ?_)
            refine any_take (i := 0) (v := ?v3) rfl (by kernel_rfl) (by kernel_rfl) (by kernel_rfl) (fun _ _ _ h => h) hS (.inl ⟨by rfl, ?y3⟩) ?_
            case y3 => (intro w' h'; go_simp; with_reducible rfl)
            (try simp only [Act.put, List.setIfInBounds_toArray, List.set_cons_zero, List.set_cons_succ])
            refine any_take (i := 2) (v := ?v4) rfl (by kernel_rfl) (by kernel_rfl) (by kernel_rfl) (fun _ _ _ h => h) hS (.inl ⟨by rfl, ?y4⟩) ?_
            case y4 => (intro w' h'; go_simp; with_reducible rfl)
            (try simp only [Act.put, List.setIfInBounds_toArray, List.set_cons_zero, List.set_cons_succ])
            refine any_take (i := 3) (v := (.slice (some ad) x.acc.length d)) rfl (by kernel_rfl) (by kernel_rfl) (by kernel_rfl) (fun _ _ _ h => h) hS (yi_cell _ _ rfl (by rfl) ⟨w.heap.size, 2, none⟩ rfl _ Try.underlying23 rfl (fun w' h' => (by rw [cell_of_row _ _ _ _ _ _ h'.2]; rfl))) ?_
            (try simp only [Act.put, List.setIfInBounds_toArray, List.set_cons_zero, List.set_cons_succ])
            refine any_take (i := 4) (v := ?v7) rfl (by kernel_rfl) (by kernel_rfl) (by kernel_rfl) (fun _ _ _ h => h) hS (.inl ⟨by rfl, ?y7⟩) ?_
            case y7 => (intro w' h'; go_simp; with_reducible rfl)
            (try simp only [Act.put, List.setIfInBounds_toArray, List.set_cons_zero, List.set_cons_succ])
            refine any_take (i := 5) (v := ?v8) rfl (by kernel_rfl) (by kernel_rfl) (by kernel_rfl) (fun _ _ _ h => h) hS (.inl ⟨by rfl, ?y8⟩) ?_
            case y8 => (intro w' h'; go_simp; with_reducible rfl)
            (try simp only [Act.put, List.setIfInBounds_toArray, List.set_cons_zero, List.set_cons_succ])
            refine any_take (i := 6) (v := (.bool b)) rfl (by kernel_rfl) (by kernel_rfl) (by kernel_rfl) (fun _ _ _ h => h) hS (yi_cell _ _ rfl (by rfl) (ad.add fr) rfl _ Try.underlying4 rfl (fun w' h' => ((h'.1.cell (World.block_lt_of_cell? _ _ HAC.out)).trans HAC.out))) ?_
            (try simp only [Act.put, List.setIfInBounds_toArray, List.set_cons_zero, List.set_cons_succ])
            have HD := Lib.hid H.out.drew
            refine any_fapp Kd.bool (w0 := w) w.heap.size (i1 := 1) (i2 := 7) (i3 := 8) rfl rfl rfl (by kernel_rfl) (by kernel_rfl) (by kernel_rfl) (by kernel_rfl) rfl rfl rfl (by decide) 23 4 (.bool false) 1 rfl rfl rfl Try.underlying23 info_bool rfl (by decide) (by decide) go 2 va Ac b (.bool b) [.bool b] (run_box1 _ _ Try.underlying23 info_bool rfl rfl) rfl rfl rfl rfl rfl rfl rfl rfl HD.out.acc HD.out.bel HD.out.bel.size (by have := hal.out; omega) (by rw [cell_of_row _ _ _ _ _ _ HD.out.out]; rfl) hS ⟨bl_alloc hS.1 _, hp_old hS.2⟩ (fun v1 w2 ho hb2 ha => ?_)
            have hv1 := own_val ho
            have hout1 := ha.cells HD.out.out HD.out.acc (by decide)
            have hS2 : Below w.heap.size w w2 ∧ w2.heap[w.heap.size]? = some (AB x A c (some ad) d) := ⟨hb2, ha.cells HD.out.box HD.out.acc (by decide)⟩
            refine ⟨hS2, ?_⟩
            (try simp only [Act.put, List.setIfInBounds_toArray, List.set_cons_zero, List.set_cons_succ])
            refine any_take (i := 9) (v := ?v13) rfl (by kernel_rfl) (by kernel_rfl) (by kernel_rfl) (fun _ _ _ h => h) hS2 (.inl ⟨by rfl, ?y13⟩) ?_
            case y13 => (intro w' h'; go_simp; with_reducible rfl)
            (try simp only [Act.put, List.setIfInBounds_toArray, List.set_cons_zero, List.set_cons_succ])
            refine any_one (i := 10) rfl (by kernel_rfl) (by rfl) (wp_store1 23 _ _ rfl go 2 v1 va rfl rfl (by kernel_rfl) hv1.1 hv1.2 (by rw [cell_of_row _ _ _ _ _ _ hout1]; rfl) (frozen_of_row _ _ _ _ _ hout1) ⟨?_, ?_⟩)
            · exact ⟨bl_cell hb2 (by show w.heap.size ≤ go; have := HD.out.gob; omega) _, hp_cell (by show w.heap.size ≠ go; have := HD.out.gob; omega) hS2.2⟩
            (try simp only [Act.put, List.setIfInBounds_toArray, List.set_cons_zero, List.set_cons_succ])
            refine wpAnyH_done (by kernel_rfl) ?_ _
            have HM := Lib.hid (HD.out.acc_step ho hb2 ha)
            clear hv1 hout1 hS hS2 ho hb2 ha HD H
            go_wp2
            go_roundw
            case rel => exact ⟨s + 1, _, _, by omega, by go_num, by rw [HEK.out, HWN.out, ← HBB.out]; exact HM⟩
            case measure => simp [intOf]; omega
      · have hse : s = x.acc.length := by omega
        rw [hse] at G
        obtain ⟨An, cn, rfl⟩ := Kd.R_slice G.out.nxt
        obtain ⟨Aa, ca, rfl⟩ := Kd.R_slice G.out.acc
        have hr1 := Kd.R_reads' G.out.nxt
        have hr2 := Kd.R_reads' G.out.acc
        have hz : AutSz (fAut k x.acc.length (tst x q) (tgd x q)) cn ca := by
          refine ⟨hr1.2.1, hr2.2.1, ?_, ?_⟩
          · show (zl (fnl k (tst x q) (x.acc.length * k))).length * 8 ≤ _
            rw [zl_len, fnl_len]
            have h1 : x.acc.length * k ≤ 4096 * 8 := Nat.mul_le_mul (by omega) hk88
            omega
          · show (fal (tgd x q) x.acc.length).length ≤ _
            rw [fal_len]; omega
        have REX := Aside0.mk (RE.out An cn Aa ca hz wr ⟨hr1.2.2, hr2.2.2⟩)
        have HBX := Lib.hid (show wr.heap[go]? = some (AB (fAut k x.acc.length (tst x q) (tgd x q)) An cn Aa ca) from by rw [G.out.out, HK.out]; rfl)
        have HS0 := Lib.hid G.out.res
        have HBL := Lib.hid G.out.bel
        clear hr1 hr2 hz G RE SI
        go_wp2_with ((with_reducible refine gate_ld (t := 25) rfl ?_); refine ld_au (y := fAut k x.acc.length (tst x q) (tgd x q)) (A := An) (c := cn) (B := Aa) (d := ca) _ rfl go rfl HBX.out rfl ?_)
        refine REX.out.mono ?_
        rintro e w3 ⟨vn, va, rfl, hn, ha, hb⟩
        obtain ⟨Bn, bn, rfl⟩ := Kd.R_slice hn
        obtain ⟨Ba, ba, rfl⟩ := Kd.R_slice ha
        have HS := Lib.hid (hp_below' hb HS0.out)
        have HBL3 := Lib.hid (bl_then HBL.out hb)
        have HN := Aside0.mk (Kd.R_lower hn HBL.out.size)
        have HA := Aside0.mk (Kd.R_lower ha HBL.out.size)
        clear hn ha hb REX HBX HS0
        go_wp2_with ((with_reducible refine gate_st (t := 25) rfl ?_); refine wpList_store_row rfl 25 _ _ rfl (w.heap.size + 1) (ac V Bn bn Ba ba) rfl rfl 25 _ HS.out (by show _ = some 3; kernel_rfl) rfl (by simp [Value.oneCell']) ?_)
        refine bodyPost_ret (v := .tuple #[.agg (ac V Bn bn Ba ba), .int .i64 0]) ?_ rfl ⟨_, _, rfl, own_rowT HS.out HN.out (by decide) rfl _, own_rowT HS.out HA.out (by decide) rfl _, bl_row HBL3.out (by omega) _⟩
        refine (results_cell_tmp (p := 4) (t := 5) (by rfl) _ _ (w.heap.size + 1) 25 _ _ _ ?_ (setRow_heap _ _ _ _ _ _ HS.out) Try.underlying25 rfl (by show _ = some 3; kernel_rfl)).trans ?_ <;> rfl
  · have hV : ahV x v = noV := by unfold ahV; rw [if_neg h0]
    rw [hV]
    have hb1 : (runE x 0 v == 0) = false := by rw [beq_eq_false_iff_ne]; exact h0
    generalize runE x 0 v = r at *
    generalize runV x 0 v = rs at *
    clear hV hr h0 hz
    go_enter Try.func33, Try.ntmps33
    go_wp2_with (refine ld_au _ rfl w.heap.size rfl (H0.out.at 1 rfl) rfl ?_)
    refine RN.out.mono ?_
    rintro e w1 ⟨rfl, hb⟩
    have H1 := Lib.hid (H0.out.keep hb)
    have HS := Lib.hid (show w1.heap[w.heap.size + 1]? = some (.cells #[.int .i64 0, .slice none 0 0, .slice none 0 0] 25 (0, 0)) from H1.out.at 0 rfl)
    clear hb RN H0
    go_wp2_with ((with_reducible refine gate_st (t := 25) rfl ?_); refine wpList_store_row rfl 25 _ _ rfl (w.heap.size + 1) #[.int .i64 0, .slice none 0 0, .slice none 0 0] rfl rfl 25 _ HS.out (by show _ = some 3; kernel_rfl) rfl (by simp [Value.oneCell']) ?_)
    refine bodyPost_ret (v := .tuple #[.agg #[.int .i64 0, .slice none 0 0, .slice none 0 0], .int .i64 r]) ?_ rfl ⟨_, _, rfl, Kd.R_nil _ _ _ _ _, Kd.R_nil _ _ _ _ _, bl_row H1.out.2 (by omega) _⟩
    refine (results_cell_tmp (p := 4) (t := 5) (by rfl) _ _ (w.heap.size + 1) 25 _ _ _ ?_ (setRow_heap _ _ _ _ _ _ HS.out) Try.underlying25 rfl (by show _ = some 3; kernel_rfl)).trans ?_ <;> rfl
end Go.Proofs.Ytjckidjljkjhfaa
