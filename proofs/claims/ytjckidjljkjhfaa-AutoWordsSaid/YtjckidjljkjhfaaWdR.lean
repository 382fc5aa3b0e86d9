/- The walk of the reference's Word. -/
import Derived.Test.YtjckidjljkjhfaaWdP
namespace Go.Proofs.Ytjckidjljkjhfaa
open Go.RowKit Go.Proofs.YtjckidjljkjhfaaW.PrintWords Go.Proofs.Ytjckidjljkjhfaa.PAutoRuns
set_option linter.unusedSimpArgs false
set_option linter.unusedVariables false
theorem rwrd_any (k : Int) (v : ByteArray) (hv : v.size ≤ 140737488351232) (w : World) :
    Calls Try.prog 47 #[.int .i64 k, .string v] w fun e w' => e = .returned (.int .i64 (wrdE k v)) ∧ Below w.heap.size w w' :=
  (eggboxref01_Check.calls (v.size + 1) k v _ w (rwrd_f k hv (by omega))).mono fun e w' h => ⟨h.1, by obtain ⟨n, rfl⟩ := h.2; exact bl_drewN (Below.refl _ _) n⟩
/-- An automaton that is being laid out. -/
structure WSt (k : Int) (w wr : World) (go : Nat) (vn va : Value) (N : List Nat) (Ac : List Bool) : Prop where
  res : wr.heap[w.heap.size]? = some (.cells #[.int .i64 0, .slice none 0 0, .slice none 0 0] 25 (0, 0))
  out : wr.heap[go]? = some (.cells #[.int .i64 k, vn, va] 25 (0, 0))
  nxt : Own wr w.heap.size vn (zl N)
  acc : Kd.R Kd.bool 4 wr w.heap.size (fun _ => True) va Ac
  bel : Below w.heap.size w wr
  gob : w.heap.size < go
section
variable {k : Int} {w W w1 : World} {go : Nat} {vn va v1 : Value} {N : List Nat} {Ac : List Bool}
theorem WSt.acc_step (h : WSt k w W go vn va N Ac) {b : Bool} (ho : Kd.R Kd.bool 4 w1 w.heap.size (fun _ => True) v1 (Ac ++ [b])) (hb : Below w.heap.size w w1) (ha : App W w1 va v1) : WSt k w (w1.setCell ⟨go, 2, none⟩ v1) go vn v1 N (Ac ++ [b]) := by
  have ho1 := ha.cells h.out h.acc (by decide)
  have hg := h.gob
  refine ⟨hp_cell (by show w.heap.size ≠ go; omega) (ha.cells h.res h.acc (by decide)), ?_, ?_, ?_, bl_cell hb (by show w.heap.size ≤ go; omega) _, h.gob⟩
  · rw [heap_setCell_same _ _ _ _ _ _ ho1]; rfl
  · exact own_cellT ho1 (ha.own rfl h.nxt (sep_type h.nxt h.acc (by decide))).1 (by decide) rfl _ _
  · exact own_cellT ho1 ho (by decide) rfl _ _
theorem WSt.nxt_step (h : WSt k w W go vn va N Ac) {b : Nat} (ho : Own w1 w.heap.size v1 (zl N ++ [(b : Int)])) (hb : Below w.heap.size w w1) (ha : App W w1 vn v1) : WSt k w (w1.setCell ⟨go, 1, none⟩ v1) go v1 va (N ++ [b]) Ac := by
  have ho1 := ha.cells h.out h.nxt (by decide)
  have hg := h.gob
  refine ⟨hp_cell (by show w.heap.size ≠ go; omega) (ha.cells h.res h.nxt (by decide)), ?_, ?_, ?_, bl_cell hb (by show w.heap.size ≤ go; omega) _, h.gob⟩
  · rw [heap_setCell_same _ _ _ _ _ _ ho1]; rfl
  · rw [zl_snoc]
    exact own_cellT ho1 ho (by decide) rfl _ _
  · exact own_cellT ho1 (ha.own rfl h.acc (sep_type h.acc h.nxt (by decide))).1 (by decide) rfl _ _
end
set_option maxRecDepth 100000 in
set_option maxHeartbeats 1600000 in
theorem rword_any (k : Int) (v : ByteArray) (hv : v.size ≤ 140737488351232) (w : World) :
    Calls Try.prog 31 #[.int .i64 k, .string v] w fun e w' => ∃ vn va, e = .returned (.tuple #[.agg #[.int .i64 (wrV k v).k, vn, va], .int .i64 (wrE k v)]) ∧
      Own w' w.heap.size vn (wrV k v).next ∧ Kd.R Kd.bool 4 w' w.heap.size (fun _ => True) va (wrV k v).acc ∧ Below w.heap.size w w' := by
  have H0 := Lib.hid ((Hp.start w).alloc (.cells #[.int .i64 0, .slice none 0 0, .slice none 0 0] 25))
  have WC := Aside0.mk (rwrd_any k v hv (w.alloc (.cells #[.int .i64 0, .slice none 0 0, .slice none 0 0] 25)))
  rcases wrd_cases k v with ⟨h0, hk1, hk8, hlt⟩ | h0
  · rw [h0] at WC
    by_cases hbig : 4094 < v.size
    · have hE : wrE k v = 6 := by unfold wrE; rw [if_pos h0, if_pos hbig]
      have hV : wrV k v = noV := by unfold wrV; rw [hE, if_neg (by decide)]
      rw [hE, hV]
      clear h0 hE hV hlt
      go_enter Try.func31, Try.ntmps31
      go_wp2_with fail
      refine WC.out.mono ?_
      rintro e w1 ⟨rfl, hb⟩
      have H1 := Lib.hid (H0.out.keep hb)
      have HS := Lib.hid (H1.out.at 0 rfl)
      clear hb WC H0
      go_wp2_with ((with_reducible refine gate_st (t := 25) rfl ?_); refine wpList_store_row rfl 25 _ _ rfl w.heap.size #[.int .i64 0, .slice none 0 0, .slice none 0 0] rfl rfl 25 _ HS.out (by show _ = some 3; kernel_rfl) rfl (by simp [Value.oneCell']) ?_)
      refine bodyPost_ret (v := .tuple #[.agg #[.int .i64 0, .slice none 0 0, .slice none 0 0], .int .i64 6]) ?_ rfl ⟨_, _, rfl, Kd.R_nil _ _ _ _ _, Kd.R_nil _ _ _ _ _, bl_row H1.out.2 (by omega) _⟩
      refine (results_cell_tmp (p := 4) (t := 5) (by rfl) _ _ w.heap.size 25 _ _ _ ?_ (setRow_heap _ _ _ _ _ _ HS.out) Try.underlying25 rfl (by show _ = some 3; kernel_rfl)).trans ?_ <;> rfl
    · have hE : wrE k v = 0 := by unfold wrE; rw [if_pos h0, if_neg hbig]
      have hV : wrV k v = srV k.toNat (wst v) 0 (wgd v) := by unfold wrV; rw [if_pos hE]
      obtain ⟨kk, rfl⟩ := Int.eq_ofNat_of_zero_le (show 0 ≤ k by omega)
      rw [Int.toNat_natCast] at hV
      have hk0 : 0 < kk := by omega
      have hk88 : kk ≤ 8 := by omega
      have RE := fun (An : Option Addr) (cn : Nat) (Aa : Option Addr) (ca : Nat) (hz : AutSz (wAut kk v) cn ca) (W : World) (hr : ARd W (wAut kk v) An Aa) => rreach_any (wAut kk v) An cn Aa ca hz W hr
      rw [from_word hk0 hk88 (by omega), autE_ok (wAut_ok hk0 hk88 (by omega))] at RE
      replace RE := Aside0.mk RE
      have HLT := Lib.hid hlt
      rw [hE, hV]
      generalize srV kk (wst v) 0 (wgd v) = V at *
      clear h0 hE hV hlt
      have hn1 : IntKind.i64.wrap ((v.size : Int) + 2) = (v.size : Int) + 2 := IntWalk.i64_in _ ⟨by omega, by omega⟩
      have hn2 : IntKind.i64.wrap ((v.size : Int) + 2 - 1) = (v.size : Int) + 1 := by rw [show (v.size : Int) + 2 - 1 = (v.size : Int) + 1 by omega]; exact IntWalk.i64_in _ ⟨by omega, by omega⟩
      go_enter Try.func31, Try.ntmps31
      go_wp2_with fail
      refine WC.out.mono ?_
      rintro e w1 ⟨rfl, hb⟩
      have H1 := Lib.hid (H0.out.keep hb)
      clear hb WC H0
      go_wp2_with ((with_reducible refine gate_st (t := 25) rfl ?_); refine st_auz (k := (kk : Int)) _ _ rfl rfl rfl rfl rfl ?_)
      have hgo := hp_lt (H1.out.at 0 rfl)
      have SI : Hid (WSt (kk : Int) w (w1.alloc (.cells #[.int .i64 (kk : Int), .slice none 0 0, .slice none 0 0] 25)) w1.heap.size (.slice none 0 0) (.slice none 0 0) (wnl v kk (0 * kk)) (wal v 0)) := Lib.hid (by
        rw [Nat.zero_mul]
        exact ⟨hp_old (H1.out.at 0 rfl), hp_new rfl, Kd.R_nil _ _ _ _ _, Kd.R_nil _ _ _ _ _, bl_alloc H1.out.2 _, hgo⟩)
      clear H1 hgo
      obtain ⟨go, hgo⟩ : ∃ go, go = w1.heap.size := ⟨_, rfl⟩
      rw [← hgo] at SI ⊢
      clear hgo
      go_loopw [9] (fun i wr => ∃ (s : Nat) (vn va : Value), s ≤ v.size + 2 ∧ i = .int .i64 s ∧ Hid (WSt (kk : Int) w wr go vn va (wnl v kk (s * kk)) (wal v s))) (fun i _ => v.size + 2 - (intOf i).toNat)
      case atStart => exact ⟨0, _, _, by omega, rfl, SI⟩
      case round =>
        obtain ⟨s, vn, va, hs, rfl, G⟩ := hrel
        by_cases hsn : s < v.size + 2
        · have hsd : decide ((s : Int) < (v.size : Int) + 2) = true := decide_eq_true (by omega)
          go_wp2
          clear hsd
          go_loopw [10] (fun l wi => ∃ (c : Nat) (vn : Value), c ≤ kk ∧ l = .int .i64 c ∧ Hid (WSt (kk : Int) w wi go vn va (wnl v kk (s * kk + c)) (wal v s))) (fun l _ => kk - (intOf l).toNat)
          case atStart => exact ⟨0, _, by omega, rfl, G⟩
          case round =>
            obtain ⟨c, vn2, hc, rfl, H⟩ := hrel
            by_cases hck : c < kk
            · have HNX := Lib.hid (wnl_next (v := v) (s := s) hck)
              have hnl : Hid ((wnl v kk (s * kk + c)).length ≤ 40960) := Lib.hid (by
                rw [wnl_len]
                have h1 : (s + 1) * kk ≤ 4096 * 8 := Nat.mul_le_mul (by omega) hk88
                rw [Nat.succ_mul] at h1
                omega)
              have c4 : wr.cell? ⟨go, 1, none⟩ = some vn2 := by rw [cell_of_row _ _ _ _ _ _ H.out.out]; rfl
              generalize wnl v kk (s * kk + c) = N1 at *
              by_cases hss : s < v.size
              · obtain ⟨hb1, hb2⟩ := letB_at HLT.out s hss
                have hwl : wlt v s = (v[s]'hss).toNat - 97 := by
                  have := bt_at v (s : Int) (by rw [Int.toNat_natCast]; exact hss)
                  simp only [Int.toNat_natCast] at this
                  unfold wlt
                  rw [← this]
                  omega
                obtain ⟨q, hq⟩ : ∃ q, q = wlt v s := ⟨_, rfl⟩
                have hcl : ((v[s]'hss).toNat : Int) = (q : Int) + 97 := by omega
                have hst : wst v s c = if q = c then s + 1 else v.size + 1 := by unfold wst; rw [← hq]; by_cases e : q = c <;> simp [hss, e]
                have HCL := Lib.hid hcl
                have hq8 : q < 8 := by omega
                by_cases e : q = c
                · rw [if_pos e] at hst
                  have HST := Lib.hid hst
                  have hw9 : IntKind.u8.wrap (((v[s]'hss).toNat : Int) - 97) = (q : Int) := by rw [HCL.out, show (q : Int) + 97 - 97 = q by omega]; exact IntWalk.u8_in _ ⟨by omega, by omega⟩
                  have hw10 : IntKind.i64.wrap (q : Int) = (q : Int) := IntWalk.i64_in _ ⟨by omega, by omega⟩
                  have hd1 : ((q : Int) == (c : Int)) = true := by rw [beq_iff_eq]; omega
                  have hd2 : (q == c) = true := by rw [beq_iff_eq]; exact e
                  clear hcl hwl hq hst e hb1 hb2
                  go_wp2_with ((with_reducible refine gate_builtin (b := .append) (xs := #[.tmp 59, .tmp 61]) rfl ?_); at_builtin; refine wpl_append (Kd.int .i64) (w0 := w) w.heap.size rfl (.tmp 59) (.tmp 61) 22 3 (.int .i64 0) 8 rfl Try.underlying22 info_int rfl (by decide) (by omega) vn2 (zl N1) (((s : Int) + 1) : Int) [.int .i64 ((s : Int) + 1)] rfl rfl rfl H.out.nxt H.out.bel H.out.bel.size (by rw [zl_len]; have := hnl.out; omega) (fun v4 w9 ho hb ha => ?_); have d1 : w9.cell? ⟨go, 1, none⟩ = some vn2 := (by rw [cell_of_row _ _ _ _ _ _ (ha.cells H.out.out H.out.nxt (by decide))]; rfl); have f1 : w9.frozen? ⟨go, 1, none⟩ = false := frozen_of_row _ _ _ _ _ (ha.cells H.out.out H.out.nxt (by decide)); have hm3 := H.out.nxt_step (b := s + 1) ho hb ha; obtain ⟨A4, c4', rfl⟩ := Kd.R_slice ho; rw [List.length_append, List.length_singleton] at hm3; have HM3 := Lib.hid hm3; clear ho hb ha hm3)
                  go_roundw
                  case rel => exact ⟨c + 1, _, by omega, by go_num, by rw [HNX.out, HST.out]; exact HM3⟩
                  case measure => simp [intOf]; omega
                · rw [if_neg e] at hst
                  have HST := Lib.hid hst
                  have hw9 : IntKind.u8.wrap (((v[s]'hss).toNat : Int) - 97) = (q : Int) := by rw [HCL.out, show (q : Int) + 97 - 97 = q by omega]; exact IntWalk.u8_in _ ⟨by omega, by omega⟩
                  have hw10 : IntKind.i64.wrap (q : Int) = (q : Int) := IntWalk.i64_in _ ⟨by omega, by omega⟩
                  have hd1 : ((q : Int) == (c : Int)) = false := by rw [beq_eq_false_iff_ne]; omega
                  have hd2 : (q == c) = false := by rw [beq_eq_false_iff_ne]; exact e
                  clear hcl hwl hq hst e hb1 hb2
                  go_wp2_with ((with_reducible refine gate_builtin (b := .append) (xs := #[.tmp 59, .tmp 61]) rfl ?_); at_builtin; refine wpl_append (Kd.int .i64) (w0 := w) w.heap.size rfl (.tmp 59) (.tmp 61) 22 3 (.int .i64 0) 8 rfl Try.underlying22 info_int rfl (by decide) (by omega) vn2 (zl N1) (((v.size : Int) + 1) : Int) [.int .i64 ((v.size : Int) + 1)] rfl rfl rfl H.out.nxt H.out.bel H.out.bel.size (by rw [zl_len]; have := hnl.out; omega) (fun v4 w9 ho hb ha => ?_); have d1 : w9.cell? ⟨go, 1, none⟩ = some vn2 := (by rw [cell_of_row _ _ _ _ _ _ (ha.cells H.out.out H.out.nxt (by decide))]; rfl); have f1 : w9.frozen? ⟨go, 1, none⟩ = false := frozen_of_row _ _ _ _ _ (ha.cells H.out.out H.out.nxt (by decide)); have hm3 := H.out.nxt_step (b := v.size + 1) ho hb ha; obtain ⟨A4, c4', rfl⟩ := Kd.R_slice ho; rw [List.length_append, List.length_singleton] at hm3; have HM3 := Lib.hid hm3; clear ho hb ha hm3)
                  go_roundw
                  case rel => exact ⟨c + 1, _, by omega, by go_num, by rw [HNX.out, HST.out]; exact HM3⟩
                  case measure => simp [intOf]; omega
              · have hst : wst v s c = v.size + 1 := by unfold wst; rw [if_neg (fun h => hss h.1)]
                have HST := Lib.hid hst
                clear hst
                go_wp2_with ((with_reducible refine gate_builtin (b := .append) (xs := #[.tmp 59, .tmp 61]) rfl ?_); at_builtin; refine wpl_append (Kd.int .i64) (w0 := w) w.heap.size rfl (.tmp 59) (.tmp 61) 22 3 (.int .i64 0) 8 rfl Try.underlying22 info_int rfl (by decide) (by omega) vn2 (zl N1) (((v.size : Int) + 1) : Int) [.int .i64 ((v.size : Int) + 1)] rfl rfl rfl H.out.nxt H.out.bel H.out.bel.size (by rw [zl_len]; have := hnl.out; omega) (fun v4 w9 ho hb ha => ?_); have d1 : w9.cell? ⟨go, 1, none⟩ = some vn2 := (by rw [cell_of_row _ _ _ _ _ _ (ha.cells H.out.out H.out.nxt (by decide))]; rfl); have f1 : w9.frozen? ⟨go, 1, none⟩ = false := frozen_of_row _ _ _ _ _ (ha.cells H.out.out H.out.nxt (by decide)); have hm3 := H.out.nxt_step (b := v.size + 1) ho hb ha; obtain ⟨A4, c4', rfl⟩ := Kd.R_slice ho; rw [List.length_append, List.length_singleton] at hm3; have HM3 := Lib.hid hm3; clear ho hb ha hm3)
                go_roundw
                case rel => exact ⟨c + 1, _, by omega, by go_num, by rw [HNX.out, HST.out]; exact HM3⟩
                case measure => simp [intOf]; omega
            · have hce : c = kk := by omega
              have HEK : Hid ((s + 1) * kk = s * kk + c) := Lib.hid (by rw [Nat.succ_mul, hce])
              have HWN := Lib.hid (wal_next v s)
              have hal : Hid ((wal v s).length ≤ 4096) := Lib.hid (by rw [wal_len]; omega)
              have c5 : wr.cell? ⟨go, 2, none⟩ = some va := by rw [cell_of_row _ _ _ _ _ _ H.out.out]; rfl
              clear hce
              obtain ⟨b, hbb⟩ : ∃ b, b = wgd v s := ⟨_, rfl⟩
              have hd1 : ((s : Int) == (v.size : Int)) = b := by
                rw [hbb]; unfold wgd
                by_cases e : s = v.size
                · rw [decide_eq_true e, beq_iff_eq]; omega
                · rw [decide_eq_false e, beq_eq_false_iff_ne]; omega
              have hd2 : (s == v.size) = b := by
                rw [hbb]; unfold wgd
                by_cases e : s = v.size
                · rw [decide_eq_true e, beq_iff_eq]; omega
                · rw [decide_eq_false e, beq_eq_false_iff_ne]; omega
              have HBB := Lib.hid hbb
              clear hbb
              generalize wal v s = Ac at *
              go_wp2_with ((with_reducible refine gate_builtin (b := .append) (xs := #[.tmp 65, .tmp 70]) rfl ?_); at_builtin; refine wpl_append Kd.bool (w0 := w) w.heap.size rfl (.tmp 65) (.tmp 70) 23 4 (.bool false) 1 rfl Try.underlying23 info_bool rfl (by decide) (by omega) va Ac b [.bool b] rfl rfl rfl H.out.acc H.out.bel H.out.bel.size (by have := hal.out; omega) (fun v4 w9 ho hb ha => ?_); have d1 : w9.cell? ⟨go, 2, none⟩ = some va := (by rw [cell_of_row _ _ _ _ _ _ (ha.cells H.out.out H.out.acc (by decide))]; rfl); have f1 : w9.frozen? ⟨go, 2, none⟩ = false := frozen_of_row _ _ _ _ _ (ha.cells H.out.out H.out.acc (by decide)); have hm3 := H.out.acc_step ho hb ha; obtain ⟨A4, c4', rfl⟩ := Kd.R_slice ho; rw [List.length_append, List.length_singleton] at hm3; have HM3 := Lib.hid hm3; clear ho hb ha hm3)
              go_roundw
              case rel => exact ⟨s + 1, _, _, by omega, by go_num, by rw [HEK.out, HWN.out, ← HBB.out]; exact HM3⟩
              case measure => simp [intOf]; omega
        · have hse : s = v.size + 2 := by omega
          have hsd : decide ((s : Int) < (v.size : Int) + 2) = false := decide_eq_false (by omega)
          rw [hse] at G
          obtain ⟨An, cn, rfl⟩ := Kd.R_slice G.out.nxt
          obtain ⟨Aa, ca, rfl⟩ := Kd.R_slice G.out.acc
          have hr1 := Kd.R_reads' G.out.nxt
          have hr2 := Kd.R_reads' G.out.acc
          have hz : AutSz (wAut kk v) cn ca := by
            refine ⟨hr1.2.1, hr2.2.1, ?_, ?_⟩
            · show (zl (wnl v kk ((v.size + 2) * kk))).length * 8 ≤ _
              rw [zl_len, wnl_len]
              have h1 : (v.size + 2) * kk ≤ 4096 * 8 := Nat.mul_le_mul (by omega) hk88
              omega
            · show (wal v (v.size + 2)).length ≤ _
              rw [wal_len]; omega
          have REX := Aside0.mk (RE.out An cn Aa ca hz wr ⟨hr1.2.2, hr2.2.2⟩)
          have HBX := Lib.hid (show wr.heap[go]? = some (AB (wAut kk v) An cn Aa ca) from G.out.out)
          have HS0 := Lib.hid G.out.res
          have HBL := Lib.hid G.out.bel
          clear hr1 hr2 hz G RE SI
          go_wp2_with ((with_reducible refine gate_ld (t := 25) rfl ?_); refine ld_au (y := wAut kk v) (A := An) (c := cn) (B := Aa) (d := ca) _ rfl go rfl HBX.out rfl ?_)
          refine REX.out.mono ?_
          rintro e w3 ⟨vn, va, rfl, hn, ha, hb⟩
          obtain ⟨Bn, bn, rfl⟩ := Kd.R_slice hn
          obtain ⟨Ba, ba, rfl⟩ := Kd.R_slice ha
          have HS := Lib.hid (hp_below' hb HS0.out)
          have HBL3 := Lib.hid (bl_then HBL.out hb)
          have HN := Aside0.mk (Kd.R_lower hn HBL.out.size)
          have HA := Aside0.mk (Kd.R_lower ha HBL.out.size)
          clear hn ha hb REX HBX HS0
          go_wp2_with ((with_reducible refine gate_st (t := 25) rfl ?_); refine wpList_store_row rfl 25 _ _ rfl w.heap.size (ac V Bn bn Ba ba) rfl rfl 25 _ HS.out (by show _ = some 3; kernel_rfl) rfl (by simp [Value.oneCell']) ?_)
          refine bodyPost_ret (v := .tuple #[.agg (ac V Bn bn Ba ba), .int .i64 0]) ?_ rfl ⟨_, _, rfl, own_rowT HS.out HN.out (by decide) rfl _, own_rowT HS.out HA.out (by decide) rfl _, bl_row HBL3.out (by omega) _⟩
          refine (results_cell_tmp (p := 4) (t := 5) (by rfl) _ _ w.heap.size 25 _ _ _ ?_ (setRow_heap _ _ _ _ _ _ HS.out) Try.underlying25 rfl (by show _ = some 3; kernel_rfl)).trans ?_ <;> rfl
  · have hE : wrE k v = wrdE k v := by unfold wrE; rw [if_neg h0]
    have hV : wrV k v = noV := by unfold wrV; rw [hE, if_neg h0]
    rw [hE, hV]
    have hb1 : (wrdE k v == 0) = false := by rw [beq_eq_false_iff_ne]; exact h0
    generalize wrdE k v = r at *
    clear h0 hE hV
    go_enter Try.func31, Try.ntmps31
    go_wp2_with fail
    refine WC.out.mono ?_
    rintro e w1 ⟨rfl, hb⟩
    have H1 := Lib.hid (H0.out.keep hb)
    have HS := Lib.hid (H1.out.at 0 rfl)
    clear hb WC H0
    go_wp2_with ((with_reducible refine gate_st (t := 25) rfl ?_); refine wpList_store_row rfl 25 _ _ rfl w.heap.size #[.int .i64 0, .slice none 0 0, .slice none 0 0] rfl rfl 25 _ HS.out (by show _ = some 3; kernel_rfl) rfl (by simp [Value.oneCell']) ?_)
    refine bodyPost_ret (v := .tuple #[.agg #[.int .i64 0, .slice none 0 0, .slice none 0 0], .int .i64 r]) ?_ rfl ⟨_, _, rfl, Kd.R_nil _ _ _ _ _, Kd.R_nil _ _ _ _ _, bl_row H1.out.2 (by omega) _⟩
    refine (results_cell_tmp (p := 4) (t := 5) (by rfl) _ _ w.heap.size 25 _ _ _ ?_ (setRow_heap _ _ _ _ _ _ HS.out) Try.underlying25 rfl (by show _ = some 3; kernel_rfl)).trans ?_ <;> rfl
end Go.Proofs.Ytjckidjljkjhfaa
