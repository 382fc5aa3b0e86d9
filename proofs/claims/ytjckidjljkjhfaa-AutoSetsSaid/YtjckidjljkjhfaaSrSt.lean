/- The walk of eggbox/auto.search[eggbox/auto.states]: printed by tools/gen_search.py. -/
import Derived.Test.YtjckidjljkjhfaaStP
import Derived.BigQuiet
namespace Go.Proofs.Ytjckidjljkjhfaa
open Go.RowKit Go.Proofs.YtjckidjljkjhfaaW.PrintWords
set_option linter.unusedSimpArgs false
set_option linter.unusedVariables false
set_option maxRecDepth 100000 in
set_option maxHeartbeats 3200000 in
theorem searchS_any (k : Nat) (hk : 0 < k) (hk8 : k ≤ 8) (step : Sta → Nat → Sta) (first : Sta) (good : Sta → Bool) (fn fg : FuncId) (cn cg : Array Value) (w : World)
    (hkey : ∀ m, ∀ s ∈ bs k step first m, ∃ q, keyOf Try.prog 88 (enS s) = some q) (hen : ∀ args W, (callFunc fn args).run Try.prog W = .ok (.enter fn args) W) (heg : ∀ args W, (callFunc fg args).run Try.prog W = .ok (.enter fg args) W)
    (HN : ∀ (s : Sta) (m c : Nat), s ∈ bs k step first m → c < k → ∀ W : World, Below w.heap.size w W → Calls Try.prog fn (#[.agg (ccS s), .int .i64 (c : Int)] ++ cn) W fun e w' => e = .returned (.agg (ccS (step s c))) ∧ Below W.heap.size W w')
    (HG : ∀ (s : Sta) (m : Nat), s ∈ bs k step first m → ∀ W : World, Below w.heap.size w W → Calls Try.prog fg (#[.agg (ccS s)] ++ cg) W fun e w' => e = .returned (.bool (good s)) ∧ Below W.heap.size W w') :
    Calls Try.prog 81 #[.int .i64 (k : Int), .agg (ccS first), .func (.func fn) #[] cn, .func (.func fg) #[] cg] w fun e w' => ∃ vn va, e = .returned (.tuple #[.agg #[.int .i64 (srV k step first good).k, vn, va], .int .i64 (srE k step first)]) ∧
      Own w' w.heap.size vn (srV k step first good).next ∧ Kd.R Kd.bool 4 w' w.heap.size (fun _ => True) va (srV k step first good).acc ∧ Below w.heap.size w w' := by
  have HNX := Aside0.mk HN
  have HGD := Aside0.mk HG
  have HKY := Lib.hid hkey
  have hf := hkey 0 first (by simp [bs, bw, rn])
  have hmm := @run_makeMap Try.prog
  have h00 := ((Hp.start w).alloc (.cells (ccS first) 88)).alloc (.cells #[.int .i64 0, .slice none 0 0, .slice none 0 0] 25)
  rw [World.size_alloc] at h00
  have HB0 := Lib.hid h00
  clear h00
  have M0 : MapIs ((((w.alloc (.cells (ccS first) 88)).alloc (.cells #[.int .i64 0, .slice none 0 0, .slice none 0 0] 25)).alloc (.cells #[.int .i64 k, .slice none 0 0, .slice none 0 0] 25)).alloc (.map #[] 0)) ((((w.alloc (.cells (ccS first) 88)).alloc (.cells #[.int .i64 0, .slice none 0 0, .slice none 0 0] 25)).alloc (.cells #[.int .i64 k, .slice none 0 0, .slice none 0 0] 25))).heap.size (nents enS []) := MapIs.new _
  obtain ⟨w3, hrun, hM, hT⟩ := nents_put (s := first) M0 lawS enS_inj (fun s hs => by cases hs) hf Try.underlying115 (by simp)
  rw [World.size_alloc, World.size_alloc, World.size_alloc] at hrun hM hT
  have HRN := Aside0.mk hrun
  have hs3 : w3.heap.size = w.heap.size + 4 := by rw [hT.size, World.size_alloc, World.size_alloc, World.size_alloc, World.size_alloc]
  have bx : w3.heap[w.heap.size]? = some (.cells (ccS first) 88 (0, 0)) := (hT.block _ (by omega)).trans (hp_old (hp_old (hp_old (hp_new rfl))))
  have bx0 := hp_old (o := .map #[] 0) (hp_old (o := .cells #[.int .i64 k, .slice none 0 0, .slice none 0 0] 25) (HB0.out.at 1 rfl))
  have BX := Lib.hid bx; have BX0 := Lib.hid bx0
  clear hrun M0 HN HG hkey hf bx bx0
  go_enter Try.func81, Try.ntmps81
  go_wp2_with (first | ((with_reducible refine gate_st (t := 25) rfl ?_); refine st_auz (k := (k : Int)) _ _ rfl rfl rfl rfl rfl ?_) | ((with_reducible refine gate_ld (t := 88) rfl ?_); refine wpl_rowS (cs := ccS first) rfl 88 _ rfl (w.heap.size) rfl BX0.out rfl Try.underlying88 (by rw [ccS_size]; kernel_rfl) ?_) | ((with_reducible refine gate_ins (t := 115) rfl ?_); refine mp_ins _ _ _ _ rfl _ _ _ rfl rfl rfl rfl HRN.out ?_) | ((with_reducible refine gate_ld (t := 88) rfl ?_); refine wpl_rowS (cs := ccS first) rfl 88 _ rfl (w.heap.size) rfl BX.out rfl Try.underlying88 (by rw [ccS_size]; kernel_rfl) ?_) | ((with_reducible refine gate_lit (t := 116) rfl ?_); refine wpl_boxA rfl 116 88 _ rfl (ccS first) rfl Try.underlying116 infoS (by decide) (by decide) (ccS_size _) ?_))
  have SI : Hid (SS kdS 88 enS w (w3.alloc (.cells (ccS first) 88)) (w.heap.size + 1) (k : Int) (w.heap.size + 1 + 1) (w.heap.size + 1 + 1 + 1) (.slice (some ⟨w.heap.size + 4, 0, none⟩) 1 1) (.slice none 0 0) (.slice none 0 0) (bs k step first (0 * k)) (nx k step first (0 * k)) (sac k step first good 0 (0 * k))) := by
    have e0 : bs k step first (0 * k) = [first] := by rw [Nat.zero_mul]; rfl
    have e1 : nx k step first (0 * k) = [] := by rw [Nat.zero_mul]; rfl
    have e2 : sac k step first good 0 (0 * k) = [] := by unfold sac; rw [List.take_zero]; rfl
    rw [e0, e1, e2]
    have hbb : Below w.heap.size w w3 := hT.below (bl_alloc (bl_alloc (bl_alloc (bl_alloc (Below.refl _ w) _) _) _) _) (by omega)
    refine Lib.hid ⟨hp_old ((hT.block _ (by omega)).trans (hp_old (hp_old (hp_new (by simp))))), hp_old ((hT.block _ (by omega)).trans (hp_old (hp_new (by simp)))), hM.of (by exact (Below.heap_alloc _ _ _ (by omega))), ?_, Kd.R_nil _ _ _ _ _, Kd.R_nil _ _ _ _ _, sep_nil _, bl_alloc hbb _, by omega, by omega, by omega⟩
    exact R_oneG (by rw [← hs3]; exact hp_new rfl) rfl (by omega)
  clear hM hT HRN hmm hs3 BX BX0 HB0
  go_loopw [12, 13] (fun v i wr => ∃ (q : Nat) (vn va : Value), i = .int .i64 q ∧ Hid (q ≤ (bs k step first (q * k)).length ∧ (bs k step first (q * k)).length ≤ 4096) ∧ Hid (SS kdS 88 enS w wr (w.heap.size + 1) (k : Int) (w.heap.size + 1 + 1) (w.heap.size + 1 + 1 + 1) v vn va (bs k step first (q * k)) (nx k step first (q * k)) (sac k step first good q (q * k)))) (fun _ i _ => 4097 - (intOf i).toNat)
  case atStart => exact ⟨0, _, _, rfl, Lib.hid ⟨Nat.zero_le _, by rw [Nat.zero_mul]; simp [bs, bw]⟩, SI⟩
  case round =>
    obtain ⟨i, vn, va, rfl, HK, H⟩ := hrel
    obtain ⟨hK1, hK2⟩ := HK.out
    obtain ⟨lb, lc, rfl, hlb, hlbs, hlcell⟩ := own_formG H.out.lst (by exact List.length_pos_of_mem (List.mem_of_getElem? (bs_pos _)))
    by_cases hil : i < (bs k step first (i * k)).length
    · obtain ⟨s, hs⟩ : ∃ s, (bs k step first (i * k))[i]? = some s := ⟨_, List.getElem?_eq_getElem hil⟩
      have cl1 : HasC wr lb (i * 64) (ccS s) := hlcell i s hs
      have hnl : some lb ≠ va.ownBlock := fun e => sep_type H.out.lst H.out.acc (by decide) lb rfl e.symm
      have hlg : lb ≠ w.heap.size + 1 + 1 := fun e => Kd.R_ne H.out.lst H.out.out (by decide) (by rw [e]; rfl)
      have HSM := Lib.hid hs
      have GC := Aside0.mk (fun (W : World) (hb : Below w.heap.size w W) => HGD.out s (i * k) (List.mem_of_getElem? hs) W hb)
      have HD := Lib.hid H.out.drew
      have HCL := Lib.hid cl1
      clear hs hlcell SI
      go_wp2
      refine wp_region_held_drew (S := fun w' => HasC w' lb (i * 64) (ccS s)) (by kernel_rfl) (fun j u hu => cl1 j u hu) (fun hS => ?_)
      refine any_take (i := 0) (v := ?v3) rfl (by kernel_rfl) (by kernel_rfl) (by kernel_rfl) (fun _ _ _ h => h) hS (.inl ⟨by rfl, ?y3⟩) ?_
      case y3 => (intro w' h'; go_simp; with_reducible rfl)
      (try simp only [Act.put, List.setIfInBounds_toArray, List.set_cons_zero, List.set_cons_succ])
      refine any_take (i := 2) (v := ?v4) rfl (by kernel_rfl) (by kernel_rfl) (by kernel_rfl) (fun _ _ _ h => h) hS (.inl ⟨by rfl, ?y4⟩) ?_
      case y4 => (intro w' h'; go_simp; with_reducible rfl)
      (try simp only [Act.put, List.setIfInBounds_toArray, List.set_cons_zero, List.set_cons_succ])
      refine any_take (i := 3) (v := ?v5) rfl (by kernel_rfl) (by kernel_rfl) (by kernel_rfl) (fun _ _ _ h => h) hS (.inl ⟨by rfl, ?y5⟩) ?_
      case y5 => (intro w' h'; go_simp; with_reducible rfl)
      (try simp only [Act.put, List.setIfInBounds_toArray, List.set_cons_zero, List.set_cons_succ])
      refine any_take (i := 4) (v := ?v6) rfl (by kernel_rfl) (by kernel_rfl) (by kernel_rfl) (fun _ _ _ h => h) hS (.inl ⟨by rfl, ?y6⟩) ?_
      case y6 => (intro w' h'; go_simp; with_reducible rfl)
      (try simp only [Act.put, List.setIfInBounds_toArray, List.set_cons_zero, List.set_cons_succ])
      refine any_take (i := 5) (v := ?v7) rfl (by kernel_rfl) (by kernel_rfl) (by kernel_rfl) (fun _ _ _ h => h) hS (.inl ⟨by rfl, ?y7⟩) ?_
      case y7 => (intro w' h'; go_simp; with_reducible rfl)
      (try simp only [Act.put, List.setIfInBounds_toArray, List.set_cons_zero, List.set_cons_succ])
      refine any_take (i := 6) rfl (by kernel_rfl) (by kernel_rfl) (by kernel_rfl) (fun _ _ _ h => h) hS (HasC.yi (lb := lb) (i := i * 64) (cs := ccS s) _ rfl (by rfl) rfl rfl Try.underlying88 (by rw [ccS_size]; kernel_rfl) (fun w' h' => h')) ?_
      (try simp only [Act.put, List.setIfInBounds_toArray, List.set_cons_zero, List.set_cons_succ])
      have hcall := GC.out wr.drew HD.out.bel
      refine any_gapp (i1 := 1) (ic := 7) (i2 := 8) rfl rfl rfl (by kernel_rfl) (by kernel_rfl) (by kernel_rfl) (by kernel_rfl) (by kernel_rfl) rfl rfl rfl (by decide) (by decide) 23 4 rfl rfl Try.underlying23 (w.heap.size + 1 + 1) 2 va (.bool (good s)) [.bool (good s)] (run_box1 _ _ Try.underlying23 info_bool rfl rfl) fg _ _ hcall (fun e w' h => h) (by simp [go_sem, heg]) (by simp [go_sem, heg]) rfl rfl (fun _ => rfl) rfl rfl rfl (fun _ => rfl) (by rw [cell_of_row _ _ _ _ _ _ HD.out.out]; rfl) hS (fun w' hb => hS.keep hb) (fun w' hb => (hS.keep hb).keep (bl_alloc (Below.refl _ _) _)) (fun w1 hb => ?hh)
      case hh =>
        have HB := Lib.hid (HD.out.below hb)
        have hS1 := hS.keep hb
        (try simp only [Act.put, List.setIfInBounds_toArray, List.set_cons_zero, List.set_cons_succ])
        refine any_append Kd.bool (w0 := w) w.heap.size (i := 9) rfl (by kernel_rfl) (by rfl) _ _ 23 4 (.bool false) 1 rfl Try.underlying23 info_bool rfl (by decide) (by decide) va (sac k step first good i (i * k)) (good s) [.bool (good s)] rfl rfl rfl HB.out.acc HB.out.bel HB.out.bel.size ?f6 (fun v1 w2 ho hb2 ha => ?_)
        case f6 =>
          have : (sac k step first good i (i * k)).length ≤ 4096 := by unfold sac; rw [List.length_map, List.length_take]; omega
          omega
        have hv1 := own_val ho
        have hout1 := ha.cells HB.out.out HB.out.acc (by decide)
        have hlbs1 : lb < w1.heap.size := by
          have h1 := Kd.R_lt HB.out.lst lb rfl
          exact h1
        have hS2 : HasC w2 lb (i * 64) (ccS s) := hS1.kept (ha.gr.block lb hlbs1 hnl)
        refine ⟨hS2, ?_⟩
        (try simp only [Act.put, List.setIfInBounds_toArray, List.set_cons_zero, List.set_cons_succ])
        refine any_take (i := 10) (v := ?v13) rfl (by kernel_rfl) (by kernel_rfl) (by kernel_rfl) (fun _ _ _ h => h) hS2 (.inl ⟨by rfl, ?y13⟩) ?_
        case y13 => (intro w' h'; go_simp; with_reducible rfl)
        (try simp only [Act.put, List.setIfInBounds_toArray, List.set_cons_zero, List.set_cons_succ])
        refine any_one (i := 11) rfl (by kernel_rfl) (by rfl) (wp_store1 23 _ _ rfl (w.heap.size + 1 + 1) 2 v1 va rfl rfl (by kernel_rfl) hv1.1 hv1.2 (by rw [cell_of_row _ _ _ _ _ _ hout1]; rfl) (frozen_of_row _ _ _ _ _ hout1) ⟨?_, ?_⟩)
        · exact hS2.kept (heap_setCell_other _ _ _ _ (fun e => hlg e))
        (try simp only [Act.put, List.setIfInBounds_toArray, List.set_cons_zero, List.set_cons_succ])
        refine wpAnyH_done (by kernel_rfl) ?_ _
        have HM := Lib.hid (HB.out.acc_step rfl (by decide) (by decide) ho hb2 ha)
        clear hv1 hout1 hS1 hS2 ho hb2 ha HD HB H hS hb GC HCL cl1 hnl hlg hlbs1
        rw [← sac_next good HSM.out] at HM
        generalize w2.setCell ⟨w.heap.size + 1 + 1, 2, none⟩ v1 = w5 at *
        clear hcall
        go_wp2
        go_loopw [12, 43] (fun v l wi => ∃ (c : Nat) (vn : Value), c ≤ k ∧ l = .int .i64 c ∧ Hid ((bs k step first (i * k + c)).length ≤ 4096) ∧ Hid (SS kdS 88 enS w wi (w.heap.size + 1) (k : Int) (w.heap.size + 1 + 1) (w.heap.size + 1 + 1 + 1) v vn v1 (bs k step first (i * k + c)) (nx k step first (i * k + c)) (sac k step first good (i + 1) (i * k)))) (fun _ l _ => k - (intOf l).toNat)
        case atStart => exact ⟨0, _, by omega, rfl, Lib.hid hK2, HM⟩
        case round =>
          obtain ⟨c, vn2, hc, rfl, HL, G⟩ := hrel
          have hL := HL.out
          obtain ⟨lb2, lc2, rfl, hlb2, hlbs2, hlcell2⟩ := own_formG G.out.lst (by exact List.length_pos_of_mem (List.mem_of_getElem? (bs_pos _)))
          by_cases hck : c < k
          · have hsq : (bs k step first (i * k + c))[i]? = some s := bs_keep (Nat.le_add_right _ _) HSM.out
            obtain ⟨hk2, hk3⟩ := List.getElem?_eq_some_iff.1 hsq
            have cl1 : HasC wr lb2 (i * 64) (ccS s) := hlcell2 i s hsq
            have CL := Aside0.mk cl1
            have HSQ := Lib.hid hsq
            clear hsq hk3 hlcell2 cl1
            go_wp2_with ((with_reducible refine gate_ld (t := 88) rfl ?_); refine HasC.ld CL.out rfl 88 _ rfl rfl rfl Try.underlying88 (by rw [ccS_size]; kernel_rfl) ?_)
            have hcall2 := HNX.out s (i * k + c) c (List.mem_of_getElem? HSQ.out) hck wr G.out.bel
            refine hcall2.mono ?_
            rintro e w6 ⟨rfl, hb⟩
            clear hcall2
            obtain ⟨t, ht⟩ : ∃ t, t = step s c := ⟨_, rfl⟩
            have GD := Lib.hid ((G.out.below hb).below (bl_alloc (Below.refl _ _) (.cells (ccS t) 88)))
            have TB := Lib.hid (hp_new (w := w6) (o := .cells (ccS t) 88) rfl)
            have HTT := Lib.hid ht
            have hin : ∃ m, t ∈ bs k step first m := ⟨(i * k + c) + 1, by
              have h1 := bs_next (k := k) (step := step) (first := first) (m := i * k + c) (s := s) (by rw [show (i * k + c) / k = i by rw [Nat.add_comm, Nat.add_mul_div_right _ _ hk, Nat.div_eq_of_lt hck, Nat.zero_add]]; exact HSQ.out)
              rw [show (i * k + c) % k = c by rw [Nat.add_comm, Nat.add_mul_mod_self_right, Nat.mod_eq_of_lt hck], ← ht] at h1
              rw [h1]
              split
              · assumption
              · simp⟩
            have htk : ∃ q, keyOf Try.prog 88 (enS t) = some q := by obtain ⟨m, hm⟩ := hin; exact HKY.out m t hm
            have HTK := Aside0.mk htk
            have hcond : Hid (t ∈ bs k step first (i * k + c) → bs k step first (i * k + (c + 1)) = bs k step first (i * k + c) ∧ nx k step first (i * k + (c + 1)) = nx k step first (i * k + c) ++ [@List.idxOf _ instBEqOfDecidableEq t (bs k step first (i * k + c))]) := Lib.hid (fun hm => by rw [ht] at hm ⊢; exact bs_old hck HSQ.out hm)
            have hcond2 : Hid (t ∉ bs k step first (i * k + c) → bs k step first (i * k + (c + 1)) = bs k step first (i * k + c) ++ [t] ∧ nx k step first (i * k + (c + 1)) = nx k step first (i * k + c) ++ [(bs k step first (i * k + c)).length]) := Lib.hid (fun hm => by rw [ht] at hm ⊢; exact bs_new hck HSQ.out hm)
            have hnd : Hid ((bs k step first (i * k + c)).Nodup) := Lib.hid (bs_nodup _)
            have hky : Hid (∀ s ∈ bs k step first (i * k + c), ∃ q, keyOf Try.prog 88 (enS s) = some q) := Lib.hid (fun s hs => HKY.out _ s hs)
            have hnl : Hid ((nx k step first (i * k + c)).length ≤ 40960) := Lib.hid (by
              have h1 := nx_le' (k := k) (step := step) (first := first) (i * k + c)
              have h2 : i * k + c ≤ (i + 1) * k := by rw [Nat.succ_mul]; omega
              have h3 : (i + 1) * k ≤ 4096 * 8 := Nat.mul_le_mul (by omega) hk8
              omega)
            have hi4 : i < 4096 := by omega
            rw [← ht]
            clear hb G CL ht hin htk
            generalize hL1 : bs k step first (i * k + c) = L1 at *
            have HL1 := Lib.hid hL1
            clear hL1
            generalize nx k step first (i * k + c) = N1 at *
            have LK := nents_look (s := t) GD.out.mp lawS enS_inj hnd.out hky.out HTK.out Try.underlying115 (by kernel_rfl) true
            by_cases hm : t ∈ L1
            · rw [if_pos hm, if_pos rfl] at LK
              obtain ⟨e1, e2⟩ := hcond.out hm
              have HE1 := Lib.hid e1; have HE2 := Lib.hid e2
              have HLK := Aside0.mk LK
              have c4 : (w6.alloc (.cells (ccS t) 88)).cell? ⟨w.heap.size + 1 + 1, 1, none⟩ = some vn2 := by rw [cell_of_row _ _ _ _ _ _ GD.out.out]; rfl
              clear e1 e2 LK hcond hcond2 hm
              generalize @List.idxOf _ instBEqOfDecidableEq t L1 = y at *
              go_wp2_with (first | ((with_reducible refine gate_st (t := 88) rfl ?_); refine st_new (cs := ccS t) _ _ rfl rfl rfl rfl (by rw [ccS_size]; kernel_rfl) (by rw [ccS_size]; rfl) (ccS_all t) ?_) | ((with_reducible refine gate_ld (t := 88) rfl ?_); refine wpl_rowS (cs := ccS t) rfl 88 _ rfl w6.heap.size rfl TB.out rfl Try.underlying88 (by rw [ccS_size]; kernel_rfl) ?_) | ((with_reducible refine gate_look (c := true) rfl ?_); refine mp_look _ _ _ _ rfl _ _ _ rfl rfl rfl HLK.out ?_) | ((with_reducible refine gate_builtin (b := .append) (xs := #[.tmp 75, .tmp 77]) rfl ?_); at_builtin; refine wpl_append (Kd.int .i64) (w0 := w) w.heap.size rfl (.tmp 75) (.tmp 77) 22 3 (.int .i64 0) 8 rfl Try.underlying22 info_int rfl (by decide) (by omega) vn2 (zl N1) (y : Int) [.int .i64 y] rfl (by first | rfl | (rw [World.size_alloc]; rfl)) rfl GD.out.nxt GD.out.bel GD.out.bel.size (by rw [zl_len]; have := hnl.out; omega) (fun v4 w9 ho hb ha => ?_); have d1 : w9.cell? ⟨w.heap.size + 1 + 1, 1, none⟩ = some vn2 := (by rw [cell_of_row _ _ _ _ _ _ (ha.cells GD.out.out GD.out.nxt (by decide))]; rfl); have f1 : w9.frozen? ⟨w.heap.size + 1 + 1, 1, none⟩ = false := frozen_of_row _ _ _ _ _ (ha.cells GD.out.out GD.out.nxt (by decide)); have hm3 := GD.out.nxt_step (b := y) rfl (by decide) ho hb ha; obtain ⟨A4, c4', rfl⟩ := Kd.R_slice ho; rw [List.length_append, List.length_singleton] at hm3; have HM3 := Lib.hid hm3; clear ho hb ha hm3))
              go_roundw
              case rel => exact ⟨c + 1, _, by omega, by go_num, by rw [HE1.out]; exact HL, by rw [HE1.out, HE2.out]; exact HM3⟩
              case measure => simp [intOf]; omega
            · rw [if_neg hm, if_pos rfl] at LK
              obtain ⟨e1, e2⟩ := hcond2.out hm
              by_cases hfull : L1.length = 4096
              · have HER : Hid (srE k step first = 81) := Lib.hid (by
                  refine sr_many hk (m := i * k + (c + 1)) ?_ ?_
                  · have h3 : (i + 1) * k ≤ 4096 * k := Nat.mul_le_mul (by omega) (Nat.le_refl _)
                    rw [Nat.succ_mul] at h3
                    omega
                  · rw [e1, List.length_append, hfull]; simp)
                have HVN := Lib.hid (srV_no (k := k) (step := step) (first := first) good (by rw [HER.out]; decide))
                have HLK := Aside0.mk LK
                have hfb : ((L1.length : Int) == 4096) = true := by rw [beq_iff_eq]; omega
                have hfb2 : (L1.length == 4096) = true := by rw [beq_iff_eq]; omega
                clear e1 e2 LK hcond hcond2 hm hfull
                go_wp2_with (first | ((with_reducible refine gate_st (t := 88) rfl ?_); refine st_new (cs := ccS t) _ _ rfl rfl rfl rfl (by rw [ccS_size]; kernel_rfl) (by rw [ccS_size]; rfl) (ccS_all t) ?_) | ((with_reducible refine gate_ld (t := 88) rfl ?_); refine wpl_rowS (cs := ccS t) rfl 88 _ rfl w6.heap.size rfl TB.out rfl Try.underlying88 (by rw [ccS_size]; kernel_rfl) ?_) | ((with_reducible refine gate_look (c := true) rfl ?_); refine mp_look _ _ _ _ rfl _ _ _ rfl rfl rfl HLK.out ?_) | ((with_reducible refine gate_st (t := 25) rfl ?_); refine wpList_store_row rfl 25 _ _ rfl (w.heap.size + 1) #[.int .i64 0, .slice none 0 0, .slice none 0 0] rfl rfl 25 _ GD.out.res (by show _ = some 3; kernel_rfl) rfl (by simp [Value.oneCell']) ?_))
                refine bodyPost_ret (v := .tuple #[.agg #[.int .i64 0, .slice none 0 0, .slice none 0 0], .int .i64 81]) ?_ rfl ⟨_, _, by rw [HVN.out, HER.out], by rw [HVN.out]; exact Kd.R_nil _ _ _ _ _, by rw [HVN.out]; exact Kd.R_nil _ _ _ _ _, bl_row GD.out.bel (by omega) _⟩
                refine (results_cell_tmp (p := 8) (t := 9) (by rfl) _ _ (w.heap.size + 1) 25 _ _ _ ?_ (setRow_heap _ _ _ _ _ _ GD.out.res) Try.underlying25 rfl (by show _ = some 3; kernel_rfl)).trans ?_ <;> rfl
              · obtain ⟨w8, hrun, hM, hT⟩ := nents_put (s := t) GD.out.mp lawS enS_inj hky.out HTK.out Try.underlying115 hm
                have HE1 := Lib.hid e1; have HE2 := Lib.hid e2
                have hfb : ((L1.length : Int) == 4096) = false := by rw [beq_eq_false_iff_ne]; omega
                have hfb2 : (L1.length == 4096) = false := by rw [beq_eq_false_iff_ne]; omega
                have HLK := Aside0.mk LK; have HP := Aside0.mk hrun; have HMM := Aside0.mk hM; have HTN := Aside0.mk hT
                obtain ⟨t2, t3, t5, t6, t7, t8⟩ := GD.out.turn rfl hT
                have HT5 := Aside0.mk t5; have HT8 := Aside0.mk t8
                have TB2 := Lib.hid (show w8.heap[w6.heap.size]? = some (.cells (ccS t) 88 (0, 0)) from (hT.block _ (fun e => by
                  obtain ⟨es, cx, hm1, _⟩ := GD.out.mp
                  rw [← e, TB.out] at hm1
                  cases hm1)).trans TB.out)
                have HLL := Lib.hid (show (L1 ++ [t]).length ≤ 4096 by rw [List.length_append, List.length_singleton]; omega)
                clear e1 e2 LK hcond hcond2 hm hrun hM hT t2 t3 t5 t6 t7 t8 hfull
                go_wp2_with (first | ((with_reducible refine gate_st (t := 88) rfl ?_); refine st_new (cs := ccS t) _ _ rfl rfl rfl rfl (by rw [ccS_size]; kernel_rfl) (by rw [ccS_size]; rfl) (ccS_all t) ?_) | ((with_reducible refine gate_ld (t := 88) rfl ?_); refine wpl_rowS (cs := ccS t) rfl 88 _ rfl w6.heap.size rfl TB.out rfl Try.underlying88 (by rw [ccS_size]; kernel_rfl) ?_) | ((with_reducible refine gate_look (c := true) rfl ?_); refine mp_look _ _ _ _ rfl _ _ _ rfl rfl rfl HLK.out ?_) | ((with_reducible refine gate_ld (t := 88) rfl ?_); refine wpl_rowS (cs := ccS t) rfl 88 _ rfl w6.heap.size rfl TB2.out rfl Try.underlying88 (by rw [ccS_size]; kernel_rfl) ?_) | ((with_reducible refine gate_put rfl ?_); refine mp_put _ _ _ _ rfl _ _ _ rfl rfl rfl rfl HP.out ?_) | ((with_reducible refine gate_lit (t := 116) rfl ?_); refine wpl_boxA rfl 116 88 _ rfl (ccS t) rfl Try.underlying116 infoS (by decide) (by decide) (ccS_size _) ?_) | ((with_reducible refine gate_builtin (b := .append) (xs := #[.tmp 70, .tmp 72]) rfl ?_); at_builtin; refine wpl_append kdS (w0 := w) w.heap.size rfl (.tmp 70) (.tmp 72) 116 88 zeroS 512 rfl Try.underlying116 infoS zeroS_size (by decide) (by omega) _ L1 t (ccS t).toList rfl rfl rfl HT5.out HT8.out HT8.out.size (by omega) (fun v3 w7 ho hb ha => ?_); have hm2 := GD.out.lst_step rfl (by decide) (by decide) HTN.out HMM.out ho hb ha; obtain ⟨A3, c3, rfl⟩ := Kd.R_slice ho; rw [List.length_append, List.length_singleton] at hm2; have HM2 := Lib.hid hm2; clear ho hb ha hm2; have c4 : w7.cell? ⟨w.heap.size + 1 + 1, 1, none⟩ = some vn2 := (by rw [cell_of_row _ _ _ _ _ _ HM2.out.out]; rfl)) | ((with_reducible refine gate_builtin (b := .append) (xs := #[.tmp 75, .tmp 77]) rfl ?_); at_builtin; refine wpl_append (Kd.int .i64) (w0 := w) w.heap.size rfl (.tmp 75) (.tmp 77) 22 3 (.int .i64 0) 8 rfl Try.underlying22 info_int rfl (by decide) (by omega) vn2 (zl N1) (L1.length : Int) [.int .i64 L1.length] rfl (by first | rfl | (rw [World.size_alloc]; rfl)) rfl HM2.out.nxt HM2.out.bel HM2.out.bel.size (by rw [zl_len]; have := hnl.out; omega) (fun v4 w9 ho hb ha => ?_); have d1 : w9.cell? ⟨w.heap.size + 1 + 1, 1, none⟩ = some vn2 := (by rw [cell_of_row _ _ _ _ _ _ (ha.cells HM2.out.out HM2.out.nxt (by decide))]; rfl); have f1 : w9.frozen? ⟨w.heap.size + 1 + 1, 1, none⟩ = false := frozen_of_row _ _ _ _ _ (ha.cells HM2.out.out HM2.out.nxt (by decide)); have hm3 := HM2.out.nxt_step (b := L1.length) rfl (by decide) ho hb ha; obtain ⟨A4, c4', rfl⟩ := Kd.R_slice ho; rw [List.length_append, List.length_singleton] at hm3; have HM3 := Lib.hid hm3; clear ho hb ha hm3))
                go_roundw
                case rel => exact ⟨c + 1, _, by omega, by go_num, by rw [HE1.out]; exact HLL, by rw [HE1.out, HE2.out]; exact HM3⟩
                case measure => simp [intOf]; omega
          · have hce : c = k := by omega
            have HMM : Hid ((i + 1 ≤ (bs k step first ((i + 1) * k)).length ∧ (bs k step first ((i + 1) * k)).length ≤ 4096) ∧ SS kdS 88 enS w wr (w.heap.size + 1) (k : Int) (w.heap.size + 1 + 1) (w.heap.size + 1 + 1 + 1) (.slice (some ⟨lb2, 0, none⟩) (bs k step first (i * k + c)).length lc2) vn2 v1 (bs k step first ((i + 1) * k)) (nx k step first ((i + 1) * k)) (sac k step first good (i + 1) ((i + 1) * k))) := Lib.hid (by
              have e : (i + 1) * k = i * k + c := by rw [Nat.succ_mul, hce]
              have h1 : (bs k step first (i * k)).length ≤ (bs k step first ((i + 1) * k)).length := by
                rw [bs_len, bs_len]; exact bw_le (by omega)
              refine ⟨⟨by omega, by rw [e]; exact hL⟩, ?_⟩
              rw [sac_keep good (show i * k ≤ (i + 1) * k by omega) (by omega), e]
              exact G.out)
            go_wp2
            go_roundw
            case rel => exact ⟨i + 1, _, _, by go_num, Lib.hid HMM.out.1, Lib.hid HMM.out.2⟩
            case measure => simp [intOf]; omega
    · have hie : (bs k step first (i * k)).length = i := by omega
      have hcl : Closed k step first i := by unfold Closed; rw [← bs_len]; exact hie
      obtain ⟨e1, e2⟩ := sr_of_closed hk (by omega) hcl
      have HE0 : Hid (srE k step first = 0) := Lib.hid (by unfold srE; rw [if_pos (by omega)])
      have HV := Lib.hid (srV_ok good HE0.out)
      rw [e2] at HV
      have HAC : Hid ((srL k step first).map good = sac k step first good i (i * k)) := Lib.hid (by unfold sac; rw [e1, List.take_of_length_le (by omega)])
      obtain ⟨An, cn2, rfl⟩ := Kd.R_slice H.out.nxt
      obtain ⟨Aa, ca, rfl⟩ := Kd.R_slice H.out.acc
      clear e1 e2 hcl hlcell
      go_wp2_with (first | ((with_reducible refine gate_ld (t := 25) rfl ?_); refine ld_au (y := ⟨(k : Int), zl (nx k step first (i * k)), sac k step first good i (i * k)⟩) (A := An) (c := cn2) (B := Aa) (d := ca) _ rfl (w.heap.size + 1 + 1) rfl H.out.out rfl ?_) | ((with_reducible refine gate_st (t := 25) rfl ?_); refine wpList_store_row rfl 25 _ _ rfl (w.heap.size + 1) (ac ⟨(k : Int), zl (nx k step first (i * k)), sac k step first good i (i * k)⟩ An cn2 Aa ca) rfl rfl 25 _ H.out.res (by show _ = some 3; kernel_rfl) rfl (by simp [Value.oneCell']) ?_))
      refine bodyPost_ret (v := .tuple #[.agg (ac ⟨(k : Int), zl (nx k step first (i * k)), sac k step first good i (i * k)⟩ An cn2 Aa ca), .int .i64 0]) ?_ rfl ⟨_, _, by rw [HV.out, HE0.out], ?_, ?_, bl_row H.out.bel (by omega) _⟩
      · refine (results_cell_tmp (p := 8) (t := 9) (by rfl) _ _ (w.heap.size + 1) 25 _ _ _ ?_ (setRow_heap _ _ _ _ _ _ H.out.res) Try.underlying25 rfl (by show _ = some 3; kernel_rfl)).trans ?_ <;> rfl
      · rw [HV.out]; exact own_rowT H.out.res H.out.nxt (by decide) rfl _
      · rw [HV.out]; show Kd.R Kd.bool 4 _ _ _ _ ((srL k step first).map good); rw [HAC.out]; exact own_rowT H.out.res H.out.acc (by decide) rfl _
end Go.Proofs.Ytjckidjljkjhfaa
