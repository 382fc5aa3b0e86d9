/- The walk of minim.Is. -/
import Derived.Test.YtjedippbjjedlaaSam
namespace Go.Proofs.Ytjedippbjjedlaa
open Go.RowKit Go.Proofs.YtjedippbjjedlaaW.PrintWords
set_option linter.unusedSimpArgs false
set_option linter.unusedVariables false
/-- Is it the same value as its minimal automaton? -/
noncomputable def isV (x : AutV) : Bool := decide (autE x = 0) && sameV x (mAut x)
theorem mAut_next_len {x : AutV} (h : AutOk x) : ((mAut x).next.length : Int) = ((mAut x).acc.length : Int) * x.k := by
  obtain ⟨h1, h2⟩ := closed_at (mK_pos h) (mbs_le h)
  have hn := nx_len (k := mK x) (step := mst x) (first := mfi x) (n := (mL x).length) (m := (mL x).length * mK x) (Nat.le_of_eq (show (mL x).length = (bw (mK x) (mst x) (mfi x) ((mL x).length * mK x)).length from h1.symm)) (Nat.le_refl _)
  have e : (mnx x ((mL x).length * mK x)).length = (mL x).length * mK x := hn
  show ((zl (mnx x ((mL x).length * mK x))).length : Int) = (((mL x).map _).length : Int) * x.k
  rw [zl_len, e, List.length_map]
  unfold mK
  have := h.1
  obtain ⟨kk, hkk⟩ := Int.eq_ofNat_of_zero_le (show 0 ≤ x.k by omega)
  rw [hkk, Int.toNat_natCast]; push_cast; rfl
set_option maxRecDepth 100000 in
set_option maxHeartbeats 1600000 in
theorem is_any (x : AutV) (A : Option Addr) (c : Nat) (B : Option Addr) (d : Nat) (hx : AutOk x) (w : World) (hr : ARd w x A B) :
    Calls Try.prog 27 #[.agg (ac x A c B d)] w fun e w' => e = .returned (.tuple #[.bool (isV x), .int .i64 0]) ∧ Below w.heap.size w w' := by
  have HR := Aside0.mk hr
  have hm1 := Kd.C_max hr.acc
  have H0 := Lib.hid ((Hp.start w).alloc (AB x A c B d))
  have MN := Aside0.mk (minimal_any x A c B d hx (w.alloc (AB x A c B d)) (hr.below H0.out.2))
  have hml := mAut_next_len hx
  have hnl := hx.2.2.2.2.1
  have eis : isV x = sameV x (mAut x) := by unfold isV; rw [autE_ok hx]; rfl
  have h4 := hx.2.2.2.1
  rw [eis]
  clear hr hx eis
  have hmk : (mAut x).k = x.k := rfl
  obtain ⟨N, hN⟩ : ∃ N, N = (mAut x).next := ⟨_, rfl⟩
  obtain ⟨Ac, hAc⟩ : ∃ Ac, Ac = (mAut x).acc := ⟨_, rfl⟩
  have HV : Hid (sameV x (mAut x) = decide (x.next = N ∧ x.acc = Ac)) := Lib.hid (by unfold sameV; rw [hmk, hN, hAc]; simp)
  rw [HV.out]
  rw [← hN, ← hAc] at MN hml
  clear hN hAc hmk HV
  by_cases h1 : Ac.length = x.acc.length
  · have hlen : N.length = x.next.length := by
      have e1 : (N.length : Int) = (x.next.length : Int) := by rw [hml, hnl, h1]
      omega
    have hb1 : ((Ac.length : Int) != (x.acc.length : Int)) = false := by rw [bne_eq_false_iff_eq]; omega
    have hb2 : (Ac.length != x.acc.length) = false := by rw [bne_eq_false_iff_eq]; omega
    have HL := Lib.hid hlen; have H1L := Lib.hid h1
    have HYN : Hid ((x.next = N → (∀ k : Nat, k < x.acc.length → rdOf false x.acc k = rdOf false Ac k) → decide (x.next = N ∧ x.acc = Ac) = true) ∧ (N ≠ x.next → decide (x.next = N ∧ x.acc = Ac) = false) ∧ ∀ k : Nat, rdOf false x.acc k ≠ rdOf false Ac k → decide (x.next = N ∧ x.acc = Ac) = false) := Lib.hid
      ⟨fun e h => decide_eq_true ⟨e, blist_eq h1.symm h⟩, fun e => decide_eq_false (fun h => e h.1.symm), fun k h => decide_eq_false (fun hh => blist_ne h hh.2)⟩
    have HEQ := Lib.hid (Iff.rfl : (N = x.next ↔ N = x.next))
    generalize decide (x.next = N ∧ x.acc = Ac) = b at *
    clear hml hnl h1 hlen
    go_enter Try.func27, Try.ntmps27
    go_wp2_with (refine ld_au _ rfl w.heap.size rfl (H0.out.at 0 rfl) rfl ?_)
    refine MN.out.mono ?_
    rintro e w1 ⟨vn, va, vt, rfl, hn, ha, ht, hs, hb⟩
    have H1 := Lib.hid (H0.out.keep hb)
    obtain ⟨An, cn, rfl, lcn, hCn⟩ := Kd.R_reads hn
    obtain ⟨Aa, ca, rfl, lca, hCa⟩ := Kd.R_reads ha
    have HCN := Aside0.mk hCn; have HCA := Aside0.mk hCa
    clear hb hn ha ht hs hCn hCa MN H0
    have H2 := Lib.hid (H1.out.alloc (AB ⟨x.k, N, Ac⟩ An cn Aa ca))
    have c1 : (w1.alloc (AB ⟨x.k, N, Ac⟩ An cn Aa ca)).cell? ⟨w1.heap.size, 1, none⟩ = some (.slice An N.length cn) := by rw [cell_of_row _ _ _ _ _ _ (H2.out.at 0 rfl)]; rfl
    have c2 : (w1.alloc (AB ⟨x.k, N, Ac⟩ An cn Aa ca)).cell? ⟨w1.heap.size, 2, none⟩ = some (.slice Aa Ac.length ca) := by rw [cell_of_row _ _ _ _ _ _ (H2.out.at 0 rfl)]; rfl
    have c3 : (w1.alloc (AB ⟨x.k, N, Ac⟩ An cn Aa ca)).cell? ⟨w.heap.size, 1, none⟩ = some (.slice A x.next.length c) := by rw [cell_of_row _ _ _ _ _ _ (H2.out.at 1 rfl)]; rfl
    have c4 : (w1.alloc (AB ⟨x.k, N, Ac⟩ An cn Aa ca)).cell? ⟨w.heap.size, 2, none⟩ = some (.slice B x.acc.length d) := by rw [cell_of_row _ _ _ _ _ _ (H2.out.at 1 rfl)]; rfl
    have SM := same_mn An cn N A c x.next (w1.alloc (AB ⟨x.k, N, Ac⟩ An cn Aa ca)) (Kd.C_below HCN.out (bl_alloc (Below.refl _ _) _)) (HR.out.below H2.out.2).next HL.out
    have HSM := Aside0.mk SM
    clear SM
    go_wp2_with ((with_reducible refine gate_st (t := 25) rfl ?_); refine st_au_new (y := ⟨x.k, N, Ac⟩) (A := An) (c := cn) (B := Aa) (d := ca) _ _ rfl rfl rfl rfl rfl ?_)
    refine HSM.out.mono ?_
    rintro e w2 ⟨rfl, hb⟩
    have H3 := Lib.hid (H2.out.keep hb)
    have HA3 := Aside0.mk (Kd.C_below (Kd.C_below HCA.out (bl_alloc (Below.refl _ _) _)) hb)
    clear hb HSM c1 c2 c3 c4 HCN HCA H2 H1
    by_cases he : N = x.next
    · have HYE := Lib.hid (HYN.out.1 he.symm)
      have HNE := Lib.hid HYN.out.2.2
      rw [decide_eq_true he]
      have d2 : w2.cell? ⟨w1.heap.size, 2, none⟩ = some (.slice Aa Ac.length ca) := by rw [cell_of_row _ _ _ _ _ _ (H3.out.at 0 rfl)]; rfl
      have d4 : w2.cell? ⟨w.heap.size, 2, none⟩ = some (.slice B x.acc.length d) := by rw [cell_of_row _ _ _ _ _ _ (H3.out.at 1 rfl)]; rfl
      clear he HYN HEQ
      go_wp2
      clear d2 d4
      go_loopw [37] (fun i wr => ∃ k : Nat, k ≤ x.acc.length ∧ i = .int .i64 k ∧ Hid (∀ j : Nat, j < k → rdOf false x.acc j = rdOf false Ac j) ∧ Hid (Below w2.heap.size w2 wr)) (fun i _ => x.acc.length - (intOf i).toNat)
      case atStart => exact ⟨0, by omega, rfl, Lib.hid (fun j hj => absurd hj (by omega)), Lib.hid (Below.refl _ _)⟩
      case round =>
        obtain ⟨k, hk, rfl, HF, H⟩ := hrel
        have H4 := Lib.hid (H3.out.keep H.out)
        have d2 : wr.cell? ⟨w1.heap.size, 2, none⟩ = some (.slice Aa Ac.length ca) := by rw [cell_of_row _ _ _ _ _ _ (H4.out.at 0 rfl)]; rfl
        have d4 : wr.cell? ⟨w.heap.size, 2, none⟩ = some (.slice B x.acc.length d) := by rw [cell_of_row _ _ _ _ _ _ (H4.out.at 1 rfl)]; rfl
        by_cases hkl : k < x.acc.length
        · have hkm : k < Ac.length := by have := H1L.out; omega
          obtain ⟨a1, hA1, k1⟩ := Kd.at_bool (HR.out.below H4.out.2).acc (k : Int) (by omega) (by omega)
          obtain ⟨a2, hA2, k2⟩ := Kd.at_bool (Kd.C_below HA3.out H.out) (k : Int) (by omega) (by omega)
          rw [Int.toNat_natCast] at k1 k2
          by_cases he2 : rdOf false x.acc (k : Int) = rdOf false Ac (k : Int)
          · have HF2 : Hid (∀ j : Nat, j < k + 1 → rdOf false x.acc j = rdOf false Ac j) := Lib.hid (fun j hj => by
              by_cases hjk : j = k
              · subst hjk; exact he2
              · exact HF.out j (by omega))
            rw [← he2] at k2
            have hbb : (rdOf false x.acc (k : Int) != rdOf false x.acc (k : Int)) = false := by simp
            clear he2
            generalize rdOf false x.acc (k : Int) = p at *
            subst hA1; subst hA2
            go_wp2
            go_quiet (fail)
            go_wp2
            go_roundw
            case rel => exact ⟨k + 1, by omega, by go_num, HF2, Lib.hid (bl_drewN H.out _)⟩
            case measure => simp [intOf]; omega
          · have HE := Lib.hid (HNE.out k he2)
            have hbb : (rdOf false x.acc (k : Int) != rdOf false Ac (k : Int)) = true := by rw [bne_iff_ne]; exact he2
            have hb3 : (rdOf false x.acc (k : Int) == rdOf false Ac (k : Int)) = false := by rw [beq_eq_false_iff_ne]; exact he2
            clear he2
            generalize rdOf false x.acc (k : Int) = p at *
            generalize rdOf false Ac (k : Int) = q at *
            subst hA1; subst hA2
            go_wp2
            go_quiet (fail)
            go_wp2
            go_ret2
            exact ⟨by rw [HE.out]; rfl, bl_drewN H4.out.2 _⟩
        · have hk2 : k = x.acc.length := by omega
          subst hk2
          have HE := Lib.hid (HYE.out HF.out)
          go_wp2
          go_ret2
          exact ⟨by rw [HE.out]; rfl, H4.out.2⟩
    · have HE := Lib.hid (HYN.out.2.1 he)
      rw [decide_eq_false he]
      clear he
      go_wp2
      go_ret2
      exact ⟨by rw [HE.out]; rfl, H3.out.2⟩
  · have HE : Hid (decide (x.next = N ∧ x.acc = Ac) = false) := Lib.hid (decide_eq_false (fun hh => h1 (by rw [hh.2])))
    have hb1 : ((Ac.length : Int) != (x.acc.length : Int)) = true := by rw [bne_iff_ne]; omega
    have hb2 : (Ac.length != x.acc.length) = true := by rw [bne_iff_ne]; omega
    clear h1 hml hnl
    go_enter Try.func27, Try.ntmps27
    go_wp2_with (refine ld_au _ rfl w.heap.size rfl (H0.out.at 0 rfl) rfl ?_)
    refine MN.out.mono ?_
    rintro e w1 ⟨vn, va, vt, rfl, hn, ha, ht, hs, hb⟩
    have H1 := Lib.hid (H0.out.keep hb)
    obtain ⟨An, cn, rfl, lcn, hCn⟩ := Kd.R_reads hn
    obtain ⟨Aa, ca, rfl, lca, hCa⟩ := Kd.R_reads ha
    clear hb hn ha ht hs hCn hCa MN H0
    have H2 := Lib.hid (H1.out.alloc (AB ⟨x.k, N, Ac⟩ An cn Aa ca))
    have c2 : (w1.alloc (AB ⟨x.k, N, Ac⟩ An cn Aa ca)).cell? ⟨w1.heap.size, 2, none⟩ = some (.slice Aa Ac.length ca) := by rw [cell_of_row _ _ _ _ _ _ (H2.out.at 0 rfl)]; rfl
    have c4 : (w1.alloc (AB ⟨x.k, N, Ac⟩ An cn Aa ca)).cell? ⟨w.heap.size, 2, none⟩ = some (.slice B x.acc.length d) := by rw [cell_of_row _ _ _ _ _ _ (H2.out.at 1 rfl)]; rfl
    go_wp2_with ((with_reducible refine gate_st (t := 25) rfl ?_); refine st_au_new (y := ⟨x.k, N, Ac⟩) (A := An) (c := cn) (B := Aa) (d := ca) _ _ rfl rfl rfl rfl rfl ?_)
    go_ret2
    exact ⟨by rw [HE.out]; rfl, H2.out.2⟩
end Go.Proofs.Ytjedippbjjedlaa
