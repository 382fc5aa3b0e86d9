/- The walk of the reference's Behind. -/
import Derived.Test.YtjckidjljkjhfaaQtR
import Derived.Test.YtjckidjljkjhfaaLaa
namespace Go.Proofs.Ytjckidjljkjhfaa
open Go.RowKit Go.Proofs.YtjckidjljkjhfaaW.PrintWords Go.Proofs.Ytjckidjljkjhfaa.PAutoRuns
set_option linter.unusedSimpArgs false
set_option linter.unusedVariables false
set_option maxRecDepth 100000 in
set_option maxHeartbeats 1600000 in
theorem rbehind_any (x : AutV) (A : Option Addr) (c : Nat) (B : Option Addr) (d : Nat) (hz : AutSz x c d) (v : ByteArray) (hv : v.size ≤ 140737488351232) (w : World) (hr : ARd w x A B) :
    Calls Try.prog 35 #[.agg (ac x A c B d), .string v] w fun e w' => ∃ vn va, e = .returned (.tuple #[.agg #[.int .i64 (bhV x v).k, vn, va], .int .i64 (runE x 0 v)]) ∧
      Own w' w.heap.size vn (bhV x v).next ∧ Kd.R Kd.bool 4 w' w.heap.size (fun _ => True) va (bhV x v).acc ∧ Below w.heap.size w w' := by
  have HR := Aside0.mk hr
  have h00 := ((Hp.start w).alloc (AB x A c B d)).alloc (.cells #[.int .i64 0, .slice none 0 0, .slice none 0 0] 25)
  rw [World.size_alloc] at h00
  have H0 := Lib.hid h00
  clear h00
  have RN := Aside0.mk (rrun8_any x A c B d hz 0 v hv ((w.alloc (AB x A c B d)).alloc (.cells #[.int .i64 0, .slice none 0 0, .slice none 0 0] 25)) (hr.below H0.out.2))
  by_cases h0 : runE x 0 v = 0
  · obtain ⟨hx, wv, rv, lv⟩ := run_is h0
    have hx3 := hx.2.2.1; have hx4 := hx.2.2.2.1
    obtain ⟨gg, hgg⟩ : ∃ gg : Nat → Bool, gg = fun s => gdA x (fol x s v.data.toList) := ⟨_, rfl⟩
    have RE := fun (An : Option Addr) (cn : Nat) (Aa : Option Addr) (ca : Nat) (hz : AutSz (bAut x gg) cn ca) (W : World) (hr : ARd W (bAut x gg) An Aa) => rreach_any (bAut x gg) An cn Aa ca hz W hr
    rw [from_b gg hx, autE_ok (bAut_ok gg hx)] at RE
    replace RE := Aside0.mk RE
    have GO := Aside0.mk (fun (s : Nat) (hs : s < x.acc.length) (W : World) (h : ARd W x A B) => rgo_any x A c B d hz hx s hs v hv wv W h)
    have HFL := Lib.hid (fun (s : Nat) (hs : s < x.acc.length) => (by
      have h1 := fol_lt hx hs (wrdE_ok wv) v.size (Nat.le_refl _)
      rw [List.take_of_length_le (by simp)] at h1
      exact h1 : fol x s v.data.toList < x.acc.length))
    have hxl : x.next.length ≤ 32768 := by
      have h1 := aut_mul hx.1 hx.2.1 hx.2.2.2.1
      have h2 := hx.2.2.2.2.1
      omega
    rw [bh_of h0, ← hgg]
    have HGG := Lib.hid hgg
    rw [h0] at RN ⊢
    generalize srV x.k.toNat (stp x) 0 gg = V at *
    generalize runV x 0 v = q at *
    clear hx hr h0 wv rv lv hz hgg
    go_enter Try.func35, Try.ntmps35
    go_wp2_with (refine ld_au _ rfl w.heap.size rfl (H0.out.at 1 rfl) rfl ?_)
    refine RN.out.mono ?_
    rintro e w1 ⟨rfl, hb⟩
    have H1 := Lib.hid (H0.out.keep hb)
    clear hb RN H0
    go_wp2
    have hS0 : Hp [(w.heap.size + 1, .cells #[.int .i64 0, .slice none 0 0, .slice none 0 0] 25), (w.heap.size, AB x A c B d)] w w1.drew := H1.out.drew
    refine wp_region_held_drew (S := fun w' => Hp [(w.heap.size + 1, .cells #[.int .i64 0, .slice none 0 0, .slice none 0 0] 25), (w.heap.size, AB x A c B d)] w w') (by kernel_rfl) hS0 (fun hS => ?_)
    refine any_take (i := 0) (v := ?v3) rfl (by kernel_rfl) (by kernel_rfl) (by kernel_rfl) (fun _ _ _ h => h) hS (.inl ⟨by rfl, ?y3⟩) ?_
    case y3 => (intro w' h'; go_simp; with_reducible rfl)
    (try simp only [Act.put, List.setIfInBounds_toArray, List.set_cons_zero, List.set_cons_succ])
    refine any_take (i := 1) (v := (.int .i64 x.k)) rfl (by kernel_rfl) (by kernel_rfl) (by kernel_rfl) (fun _ _ _ h => h) hS (yi_cell _ _ rfl (by rfl) ⟨w.heap.size, 0, none⟩ rfl _ Try.underlying3 rfl (fun w' h' => (by rw [cell_of_row _ _ _ _ _ _ (h'.at 1 rfl)]; rfl))) ?_
    (try simp only [Act.put, List.setIfInBounds_toArray, List.set_cons_zero, List.set_cons_succ])
    refine any_take (i := 3) (v := ?v6) rfl (by kernel_rfl) (by kernel_rfl) (by kernel_rfl) (fun _ _ _ h => h) hS (.inl ⟨by rfl, ?y6⟩) ?_
    case y6 => (intro w' h'; go_simp; with_reducible rfl)
    (try simp only [Act.put, List.setIfInBounds_toArray, List.set_cons_zero, List.set_cons_succ])
    refine any_take (i := 4) (v := (.slice A x.next.length c)) rfl (by kernel_rfl) (by kernel_rfl) (by kernel_rfl) (fun _ _ _ h => h) hS (yi_cell _ _ rfl (by rfl) ⟨w.heap.size, 1, none⟩ rfl _ Try.underlying22 rfl (fun w' h' => (by rw [cell_of_row _ _ _ _ _ _ (h'.at 1 rfl)]; rfl))) ?_
    (try simp only [Act.put, List.setIfInBounds_toArray, List.set_cons_zero, List.set_cons_succ])
    refine any_laa (Value.int .i64) (e1 := fun _ => rfl) (w0 := w) (i1 := 2) (i2 := 5) (i3 := 7) (i4 := 6) (n1 := 23) (n2 := 26) (n3 := 8) (n4 := 27) (x4 := .tmp 22) rfl rfl rfl rfl rfl rfl rfl rfl rfl rfl rfl rfl (by decide) (by decide) (by decide) (by decide) (by decide) (by decide) (by decide) (show 23 < 53 by decide) (show 26 < 53 by decide)
      (by kernel_rfl) (by kernel_rfl) (by kernel_rfl) (by kernel_rfl) (by kernel_rfl) (by kernel_rfl) (by kernel_rfl) (by kernel_rfl) (by kernel_rfl) (by kernel_rfl) (fun _ _ _ _ h => h) 22 3 25 (.int .i64 0) 8 rfl (by simp) (by simp) (by simp) (by simp) (by simp)
      Try.underlying22 info_int rfl (by decide) (fun a' w' => ?lit) (.cells #[.int .i64 0, .slice none 0 0, .slice none 0 0] 25) (fun a' w' => ?all) x.next (fun vv => .agg #[.int .i64 x.k, vv, .slice none 0 0]) (.int .i64 x.k) (fun a' A' c' w' h1 h2 => ?bld) A x.next.length c rfl rfl hS (fun w' h => h.2) (fun w' h => (HR.out.below h.2).next)
      (fun w' o h => ⟨fun p hp => hp_old (h.1 p hp), bl_alloc h.2 o⟩) (fun w' w2 vv zs h hR hg hbl => ⟨fun p hp => ?kp, hbl⟩) (by omega) (fun p1 v1 go w2 hS2 hR2 hgo hz2 => ?cont)
    case lit => first | (go_simp; done) | (go_simp; rfl)
    case all => first | (go_simp; done) | (go_simp; rfl)
    case bld =>
      unfold execOp
      simp only [List.map_toArray, List.map_cons, List.map_nil, h1, h2]
      first | rfl | (go_simp; done) | (trace_state; sorry)
    case kp => exact (hg.block _ (hp_lt (h.1 p hp)) (by
      simp only [List.mem_cons, List.not_mem_nil, or_false] at hp
      rcases hp with rfl | rfl
      · exact Kd.R_ne hR (h.at 0 rfl) (by decide)
      · exact Kd.R_ne hR (h.at 1 rfl) (by decide))).trans (h.1 p hp)
    case cont =>
      obtain ⟨Vn, cv, rfl⟩ := Kd.R_slice hR2
      have hg2 := hp_lt (H1.out.at 0 rfl)
      have hgo2 : w.heap.size + 1 < go := Nat.lt_of_lt_of_le hg2 hgo
      (try simp only [Act.put, List.setIfInBounds_toArray, List.set_cons_zero, List.set_cons_succ])
      have hS3 : Hp [(w.heap.size + 1, .cells #[.int .i64 0, .slice none 0 0, .slice none 0 0] 25), (w.heap.size, AB x A c B d)] w (w2.setRow go #[.int .i64 x.k, .slice Vn x.next.length cv, .slice none 0 0]) := ⟨fun p hp => hp_row (by
        simp only [List.mem_cons, List.not_mem_nil, or_false] at hp
        rcases hp with rfl | rfl
        · show w.heap.size + 1 ≠ go; omega
        · show w.heap.size ≠ go; omega) (hS2.1 p hp), bl_row hS2.2 (by omega) _⟩
      refine any_row (i := 8) rfl (by kernel_rfl) (by rfl) 25 _ _ rfl go #[.int .i64 x.k, .slice Vn x.next.length cv, .slice none 0 0] rfl rfl 25 _ hz2 (by show _ = some 3; kernel_rfl) rfl (by simp [Value.oneCell']) hS3 ?_
      (try simp only [Act.put, List.setIfInBounds_toArray, List.set_cons_zero, List.set_cons_succ])
      refine wpAnyH_done (by kernel_rfl) ?_ _
      have SI : Hid (WQ x A c B d w (w2.setRow go #[.int .i64 x.k, .slice Vn x.next.length cv, .slice none 0 0]) go (.slice Vn x.next.length cv) (.slice none 0 0) x.next (fal gg 0)) := Lib.hid
        ⟨hS3.at 1 rfl, hS3.at 0 rfl, setRow_heap _ _ _ _ _ _ hz2, own_rowT hz2 hR2 (by decide) rfl _, Kd.R_nil _ _ _ _ _, hS3.2, hgo2⟩
      generalize w2.setRow go #[.int .i64 x.k, .slice Vn x.next.length cv, .slice none 0 0] = w3 at *
      clear hS2 hS3 hS hS0 hR2 hgo hz2 hg2 hgo2 H1
      go_wp2
      go_loopw [9] (fun i wr => ∃ (s : Nat) (va : Value), s ≤ x.acc.length ∧ i = .int .i64 s ∧ Hid (WQ x A c B d w wr go (.slice Vn x.next.length cv) va x.next (fal gg s))) (fun i _ => x.acc.length - (intOf i).toNat)
      case atStart => exact ⟨0, _, by omega, rfl, SI⟩
      case round =>
        obtain ⟨s, va, hs, rfl, G⟩ := hrel
        have c2 : wr.cell? ⟨w.heap.size, 2, none⟩ = some (.slice B x.acc.length d) := by rw [cell_of_row _ _ _ _ _ _ G.out.box]; rfl
        by_cases hsn : s < x.acc.length
        · have hfl := HFL.out s hsn
          have GOS := Aside0.mk (GO.out s hsn)
          obtain ⟨fr, hfr⟩ : ∃ fr, fr = fol x s v.data.toList := ⟨_, rfl⟩
          rw [← hfr] at hfl GOS
          go_wp2_with (refine ld_au _ rfl w.heap.size rfl G.out.box rfl ?_)
          refine (GOS.out _ (HR.out.below G.out.bel)).mono ?_
          rintro e w4 ⟨rfl, hb⟩
          have H := Lib.hid (G.out.below hb)
          have HWN := Lib.hid (fal_next gg s)
          have hal : Hid ((fal gg s).length ≤ 4096) := Lib.hid (by rw [fal_len]; omega)
          obtain ⟨ad, hB, hcell⟩ := Kd.at_bool HR.out.acc (fr : Int) (by omega) (by omega)
          rw [Int.toNat_natCast] at hcell
          obtain ⟨b, hbb⟩ : ∃ b, b = gg s := ⟨_, rfl⟩
          have HAC : Hid (w.cell? (ad.add fr) = some (.bool b)) := Lib.hid (by
            rw [hbb, HGG.out]
            show w.cell? (ad.add fr) = some (.bool (gdA x (fol x s v.data.toList)))
            rw [← hfr]; exact hcell)
          have HBB := Lib.hid hbb
          clear hb G c2 hbb hcell GOS hfr
          generalize fal gg s = Ac at *
          have hBB := hB
          subst hB
          go_wp2
          refine wp_region_held_drew (S := fun w' => Below w.heap.size w w' ∧ w'.heap[w.heap.size]? = some (AB x A c (some ad) d)) (by kernel_rfl) ⟨H.out.bel.drew, H.out.box⟩ (fun hS => ?_)
          refine any_take (i := 0) (v := ?v13) rfl (by kernel_rfl) (by kernel_rfl) (by kernel_rfl) (fun _ _ _ h => h) hS (.inl ⟨by rfl, ?y13⟩) ?_
          case y13 => (intro w' h'; go_simp; with_reducible rfl)
          (try simp only [Act.put, List.setIfInBounds_toArray, List.set_cons_zero, List.set_cons_succ])
          refine any_take (i := 2) (v := ?v14) rfl (by kernel_rfl) (by kernel_rfl) (by kernel_rfl) (fun _ _ _ h => h) hS (.inl ⟨by rfl, ?y14⟩) ?_
          case y14 => (intro w' h'; go_simp; with_reducible rfl)
          (try simp only [Act.put, List.setIfInBounds_toArray, List.set_cons_zero, List.set_cons_succ])
          refine any_take (i := 3) (v := (.slice (some ad) x.acc.length d)) rfl (by kernel_rfl) (by kernel_rfl) (by kernel_rfl) (fun _ _ _ h => h) hS (yi_cell _ _ rfl (by rfl) ⟨w.heap.size, 2, none⟩ rfl _ Try.underlying23 rfl (fun w' h' => (by rw [cell_of_row _ _ _ _ _ _ h'.2]; rfl))) ?_
          (try simp only [Act.put, List.setIfInBounds_toArray, List.set_cons_zero, List.set_cons_succ])
          refine any_take (i := 4) (v := ?v17) rfl (by kernel_rfl) (by kernel_rfl) (by kernel_rfl) (fun _ _ _ h => h) hS (.inl ⟨by rfl, ?y17⟩) ?_
          case y17 => (intro w' h'; go_simp; with_reducible rfl)
          (try simp only [Act.put, List.setIfInBounds_toArray, List.set_cons_zero, List.set_cons_succ])
          refine any_take (i := 5) (v := ?v18) rfl (by kernel_rfl) (by kernel_rfl) (by kernel_rfl) (fun _ _ _ h => h) hS (.inl ⟨by rfl, ?y18⟩) ?_
          case y18 => (intro w' h'; go_simp; with_reducible rfl)
          (try simp only [Act.put, List.setIfInBounds_toArray, List.set_cons_zero, List.set_cons_succ])
          refine any_take (i := 6) (v := (.bool b)) rfl (by kernel_rfl) (by kernel_rfl) (by kernel_rfl) (fun _ _ _ h => h) hS (yi_cell _ _ rfl (by rfl) (ad.add fr) rfl _ Try.underlying4 rfl (fun w' h' => ((h'.1.cell (World.block_lt_of_cell? _ _ HAC.out)).trans HAC.out))) ?_
          (try simp only [Act.put, List.setIfInBounds_toArray, List.set_cons_zero, List.set_cons_succ])
          have HD := Lib.hid H.out.drew
          refine any_fapp Kd.bool (w0 := w) w.heap.size (i1 := 1) (i2 := 7) (i3 := 8) rfl rfl rfl (by kernel_rfl) (by kernel_rfl) (by kernel_rfl) (by kernel_rfl) rfl rfl rfl (by decide) 23 4 (.bool false) 1 rfl rfl rfl Try.underlying23 info_bool rfl (by decide) (by decide) go 2 va Ac b (.bool b) [.bool b] (run_box1 _ _ Try.underlying23 info_bool rfl rfl) rfl rfl rfl rfl rfl rfl rfl rfl HD.out.acc HD.out.bel HD.out.bel.size (by have := hal.out; omega) (by rw [cell_of_row _ _ _ _ _ _ HD.out.out]; rfl) hS ⟨bl_alloc hS.1 _, hp_old hS.2⟩ (fun v1 w2 ho hb2 ha => ?_)
          have hv1 := own_val ho
          have hout1 := ha.cells HD.out.out HD.out.acc (by decide)
          have hS2 : Below w.heap.size w w2 ∧ w2.heap[w.heap.size]? = some (AB x A c (some ad) d) := ⟨hb2, ha.cells HD.out.box HD.out.acc (by decide)⟩
          refine ⟨hS2, ?_⟩
          (try simp only [Act.put, List.setIfInBounds_toArray, List.set_cons_zero, List.set_cons_succ])
          refine any_take (i := 9) (v := ?v23) rfl (by kernel_rfl) (by kernel_rfl) (by kernel_rfl) (fun _ _ _ h => h) hS2 (.inl ⟨by rfl, ?y23⟩) ?_
          case y23 => (intro w' h'; go_simp; with_reducible rfl)
          (try simp only [Act.put, List.setIfInBounds_toArray, List.set_cons_zero, List.set_cons_succ])
          refine any_one (i := 10) rfl (by kernel_rfl) (by rfl) (wp_store1 23 _ _ rfl go 2 v1 va rfl rfl (by kernel_rfl) hv1.1 hv1.2 (by rw [cell_of_row _ _ _ _ _ _ hout1]; rfl) (frozen_of_row _ _ _ _ _ hout1) ⟨?_, ?_⟩)
          · exact ⟨bl_cell hb2 (by show w.heap.size ≤ go; have := HD.out.gob; omega) _, hp_cell (by show w.heap.size ≠ go; have := HD.out.gob; omega) hS2.2⟩
          (try simp only [Act.put, List.setIfInBounds_toArray, List.set_cons_zero, List.set_cons_succ])
          refine wpAnyH_done (by kernel_rfl) ?_ _
          have HM := Lib.hid (HD.out.acc_step ho hb2 ha)
          clear hv1 hout1 hS hS2 ho hb2 ha HD H
          go_wp2
          go_roundw
          case rel => exact ⟨s + 1, _, by omega, by go_num, by rw [HWN.out, ← HBB.out]; exact HM⟩
          case measure => simp [intOf]; omega
        · have hse : s = x.acc.length := by omega
          rw [hse] at G
          obtain ⟨Aa, ca, rfl⟩ := Kd.R_slice G.out.acc
          have hr1 := Kd.R_reads' G.out.nxt
          have hr2 := Kd.R_reads' G.out.acc
          have hz : AutSz (bAut x gg) cv ca := by
            refine ⟨hr1.2.1, hr2.2.1, ?_, ?_⟩
            · show x.next.length * 8 ≤ _
              omega
            · show (fal gg x.acc.length).length ≤ _
              rw [fal_len]; omega
          have REX := Aside0.mk (RE.out Vn cv Aa ca hz wr ⟨hr1.2.2, hr2.2.2⟩)
          have HBX := Lib.hid (show wr.heap[go]? = some (AB (bAut x gg) Vn cv Aa ca) from G.out.out)
          have HS0 := Lib.hid G.out.res
          have HBL := Lib.hid G.out.bel
          clear hr1 hr2 hz G RE SI
          go_wp2_with ((with_reducible refine gate_ld (t := 25) rfl ?_); refine ld_au (y := bAut x gg) (A := Vn) (c := cv) (B := Aa) (d := ca) _ rfl go rfl HBX.out rfl ?_)
          refine REX.out.mono ?_
          rintro e w5 ⟨vn, va, rfl, hn, ha, hb⟩
          obtain ⟨Bn, bn, rfl⟩ := Kd.R_slice hn
          obtain ⟨Ba, ba, rfl⟩ := Kd.R_slice ha
          have HS := Lib.hid (hp_below' hb HS0.out)
          have HBL3 := Lib.hid (bl_then HBL.out hb)
          have HN := Aside0.mk (Kd.R_lower hn HBL.out.size)
          have HA := Aside0.mk (Kd.R_lower ha HBL.out.size)
          clear hn ha hb REX HBX HS0
          go_wp2_with ((with_reducible refine gate_st (t := 25) rfl ?_); refine wpList_store_row rfl 25 _ _ rfl (w.heap.size + 1) (ac V Bn bn Ba ba) rfl rfl 25 _ HS.out (by show _ = some 3; kernel_rfl) rfl (by simp [Value.oneCell']) ?_)
          refine bodyPost_ret (v := .tuple #[.agg (ac V Bn bn Ba ba), .int .i64 0]) ?_ rfl ⟨_, _, rfl, own_rowT HS.out HN.out (by decide) rfl _, own_rowT HS.out HA.out (by decide) rfl _, bl_row HBL3.out (by omega) _⟩
          refine (results_cell_tmp (p := 4) (t := 5) (by rfl) _ _ (w.heap.size + 1) 25 _ _ _ ?_ (setRow_heap _ _ _ _ _ _ HS.out) Try.underlying25 rfl (by show _ = some 3; kernel_rfl)).trans ?_ <;> rfl
  · have hV : bhV x v = noV := by unfold bhV; rw [if_neg h0]
    rw [hV]
    have hb1 : (runE x 0 v == 0) = false := by rw [beq_eq_false_iff_ne]; exact h0
    generalize runE x 0 v = r at *
    generalize runV x 0 v = rs at *
    clear hV hr h0 hz
    go_enter Try.func35, Try.ntmps35
    go_wp2_with (refine ld_au _ rfl w.heap.size rfl (H0.out.at 1 rfl) rfl ?_)
    refine RN.out.mono ?_
    rintro e w1 ⟨rfl, hb⟩
    have H1 := Lib.hid (H0.out.keep hb)
    have HS := Lib.hid (show w1.heap[w.heap.size + 1]? = some (.cells #[.int .i64 0, .slice none 0 0, .slice none 0 0] 25 (0, 0)) from H1.out.at 0 rfl)
    clear hb RN H0
    go_wp2_with ((with_reducible refine gate_st (t := 25) rfl ?_); refine wpList_store_row rfl 25 _ _ rfl (w.heap.size + 1) #[.int .i64 0, .slice none 0 0, .slice none 0 0] rfl rfl 25 _ HS.out (by show _ = some 3; kernel_rfl) rfl (by simp [Value.oneCell']) ?_)
    refine bodyPost_ret (v := .tuple #[.agg #[.int .i64 0, .slice none 0 0, .slice none 0 0], .int .i64 r]) ?_ rfl ⟨_, _, rfl, Kd.R_nil _ _ _ _ _, Kd.R_nil _ _ _ _ _, bl_row H1.out.2 (by omega) _⟩
    refine (results_cell_tmp (p := 4) (t := 5) (by rfl) _ _ (w.heap.size + 1) 25 _ _ _ ?_ (setRow_heap _ _ _ _ _ _ HS.out) Try.underlying25 rfl (by show _ = some 3; kernel_rfl)).trans ?_ <;> rfl
end Go.Proofs.Ytjckidjljkjhfaa
