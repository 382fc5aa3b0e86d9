/- The walk of the statement MinimMoore. -/
import Derived.Test.YtjedippbjjedlaaA3
import Derived.Test.YtjedippbjjedlaaMoo
import Derived.BigQuiet
namespace Go.Proofs.Ytjedippbjjedlaa
open Go.RowKit Go.Proofs.YtjedippbjjedlaaW.PrintWords
set_option linter.unusedSimpArgs false
set_option linter.unusedVariables false
set_option maxRecDepth 100000 in
set_option maxHeartbeats 400000 in
theorem goodM_any (x : AutV) (A : Option Addr) (c : Nat) (B : Option Addr) (d : Nat) (w : World) (hr : ARd w x A B) :
    Calls Try.prog 41 #[.agg (ac x A c B d)] w fun e w' => e = .returned (.bool (autE x == 0)) ∧ Below w.heap.size w w' := by
  have HR := Aside0.mk hr
  have H0 := Lib.hid (hp_new (w := w) (o := AB x A c B d) rfl)
  have CK := Aside0.mk (racheck_any x A c B d (w.alloc (AB x A c B d)) (hr.below (bl_alloc (Below.refl _ _) _)))
  generalize autE x = eE at *
  clear hr
  go_enter Try.func41, Try.ntmps41
  go_wp2_with (refine ld_au _ rfl w.heap.size rfl H0.out rfl ?_)
  refine CK.out.mono ?_
  rintro e w1 ⟨rfl, hb⟩
  have HB1 := Lib.hid (bl_then (bl_alloc (Below.refl w.heap.size w) (AB x A c B d)) hb)
  clear hb CK
  go_wp2
  go_ret
  exact ⟨rfl, HB1.out⟩
/-- The levels, as the statement has them. -/
theorem moore_laws {x : AutV} (h : AutOk x) (n : Nat) : (mcl x = cls x (x.acc.length - 2)) ∧ (n ≤ x.acc.length - 2 → cls x n = cls x (n + 1) → cls x n = mcl x) ∧
    ∀ s, s < x.acc.length → (cls x n).getD s 0 ≤ s ∧ (cls x (n + 1)).getD s 0 ≤ s ∧ (cls x n).getD s 0 ≤ (cls x (n + 1)).getD s 0 ∧ (cls x n).getD ((cls x (n + 1)).getD s 0) 0 = (cls x n).getD s 0 := by
  have hst := cls_last x h.2.1 h.stpIn h.2.2.1
  refine ⟨cls_stop hst _ (by omega), fun hn he => ?_, fun s hs => ?_⟩
  · rw [cls_step] at he
    exact (cls_stop he.symm _ (by omega)).symm
  · have h1 := (cls_cls x n).le s hs
    have h2 := (cls_cls x (n + 1)).le s hs
    have e : (cls x n).getD ((cls x (n + 1)).getD s 0) 0 = (cls x n).getD s 0 := by
      rw [cls_step, rnd_getD _ _ _ (by rw [(cls_cls x n).len]; exact hs)]
      exact sgn_head (krf_spec (sgn x (cls x n)) s).2.1
    have h3 := (cls_cls x n).le ((cls x (n + 1)).getD s 0) (by omega)
    exact ⟨h1, h2, by omega, e⟩
theorem mod_at {n : Int} (hn : 0 ≤ n) {len last nn : Nat} (hl : last = len - 2) (h2 : 2 < len) (hnn : nn = n.toNat % (last + 1)) : n.tmod ((len : Int) - 2 + 1) = (nn : Int) := by
  have e1 : (len : Int) - 2 + 1 = ((last + 1 : Nat) : Int) := by omega
  rw [Int.tmod_eq_emod_of_nonneg hn, e1, hnn, Int.natCast_emod, Int.toNat_of_nonneg hn]
theorem moore_facts {x : AutV} (h : AutOk x) {n last : Nat} (hl : last = x.acc.length - 2) {P Q L : List Int} (hP : P = zl (cls x n)) (hQ : Q = zl (cls x (n + 1))) (hL : L = zl (cls x last)) (hn : n ≤ last) :
    P.length = x.acc.length ∧ Q.length = x.acc.length ∧ (∀ s, s < x.acc.length → 0 ≤ P.getD s 0 ∧ P.getD s 0 ≤ s ∧ 0 ≤ Q.getD s 0 ∧ Q.getD s 0 ≤ s ∧ P.getD s 0 ≤ Q.getD s 0 ∧ P.getD (Q.getD s 0).toNat 0 = P.getD s 0) ∧ (P = Q → P = L) := by
  subst hl hP hQ hL
  have M := moore_laws h n
  refine ⟨by rw [zl_len]; exact (cls_cls x n).len, by rw [zl_len]; exact (cls_cls x (n + 1)).len, fun s hs => ?_, fun he => ?_⟩
  · have ⟨m1, m2, m3, m4⟩ := M.2.2 s hs
    rw [zl_get, zl_get, Int.toNat_natCast, zl_get, m4]
    refine ⟨by omega, by omega, by omega, by omega, by omega, rfl⟩
  · rw [← M.1, M.2.1 hn (zl_inj.1 he)]
set_option maxRecDepth 100000 in
set_option maxHeartbeats 800000 in
theorem minimMoore_any (w : World) (x : AutV) (A : Option Addr) (c : Nat) (B : Option Addr) (d : Nat) (hr : ARd w x A B) (hsz : AutSz x c d) (n : Int) (hn : -9223372036854775808 ≤ n ∧ n ≤ 9223372036854775807) :
    Calls Try.prog 7 #[.agg (ac x A c B d), .int .i64 n] w fun e w' => e = .returned (.bool true) ∧ Below w.heap.size w w' := by
  have HR := Aside0.mk hr
  have H0 := Lib.hid (hp_new (w := w) (o := AB x A c B d) rfl)
  have GD := Aside0.mk (goodM_any x A c B d (w.alloc (AB x A c B d)) (hr.below (bl_alloc (Below.refl _ _) _)))
  have HB0 := Lib.hid (bl_alloc (Below.refl w.heap.size w) (AB x A c B d))
  clear hr
  by_cases h0 : autE x = 0
  · have hx := autE_is h0
    have HX := Lib.hid hx
    by_cases hneg : n < 0
    · rw [h0] at GD
      clear h0 hx
      go_enter Try.func7, Try.ntmps7
      go_wp2_with (refine ld_au _ rfl w.heap.size rfl H0.out rfl ?_)
      refine GD.out.mono ?_
      rintro e w1 ⟨rfl, hb⟩
      have HB1 := Lib.hid (bl_then HB0.out hb)
      clear hb GD
      go_wp2_with fail
      refine (liveM_any _).mono ?_
      rintro e w2 ⟨rfl, hb⟩
      have HB2 := Lib.hid (bl_then HB1.out hb)
      clear hb
      go_wp2
      go_ret
      exact ⟨rfl, HB2.out⟩
    · have hn1 := hx.2.2.1; have hn2 := hx.2.2.2.1
      obtain ⟨last, hlast⟩ : ∃ last : Nat, last = x.acc.length - 2 := ⟨_, rfl⟩
      obtain ⟨nn, hnn⟩ : ∃ nn : Nat, nn = n.toNat % (last + 1) := ⟨_, rfl⟩
      have hle : nn ≤ last := by rw [hnn]; have := Nat.mod_lt n.toNat (show 0 < last + 1 by omega); omega
      have LW := moore_laws hx nn
      rw [← hlast] at LW
      have LVL : Aside0 (∀ (mI : Int) (m : Nat), mI = (m : Int) → ∀ W : World, ARd W x A B → Calls Try.prog 39 #[.agg (ac x A c B d), .int .i64 mI] W fun e w' => ∃ v, e = .returned (.tuple #[v, .int .i64 0]) ∧ Own w' W.heap.size v (zl (cls x m)) ∧ Below W.heap.size W w') := ⟨fun mI m hm W h => by
        subst hm
        have h1 := level_any x A c B d (m : Int) W h
        have e0 : lvE x (m : Int) = 0 := by unfold lvE; rw [if_pos h0, if_neg (by omega)]
        have e1 : lvL x (m : Int) = cls x m := by unfold lvL; rw [if_pos e0, Int.toNat_natCast]
        rw [e0, e1] at h1
        exact h1⟩
      have CLS := Aside0.mk (fun (W : World) (h : ARd W x A B) => by
        have h1 := classes_any x A c B d W h
        have e1 : clL x = cls x last := by unfold clL; rw [if_pos h0]; exact (show mcl x = cls x last from LW.1)
        rw [e1, h0] at h1
        exact h1)
      by_cases hsm : x.acc.length ≤ 2
      · have hn0 : nn = 0 := by omega
        have hl0 : last = 0 := by omega
        have HLA := Lib.hid hlast; have HNN := Lib.hid hnn; have HLW := Aside0.mk LW
        rw [h0] at GD
        clear h0 hx hlast hnn LW
        go_enter Try.func7, Try.ntmps7
        go_wp2_with (refine ld_au _ rfl w.heap.size rfl H0.out rfl ?_)
        refine GD.out.mono ?_
        rintro e w1 ⟨rfl, hb⟩
        have H1 := Lib.hid (hp_below' hb H0.out)
        have HB1 := Lib.hid (bl_then HB0.out hb)
        have c2 : w1.cell? ⟨w.heap.size, 2, none⟩ = some (.slice B x.acc.length d) := by rw [cell_of_row _ _ _ _ _ _ H1.out]; rfl
        clear hb GD H0 HB0
        go_wp2_with (refine ld_au _ rfl w.heap.size rfl H1.out rfl ?_)
        clear c2
        refine (LVL.out _ nn ?h1 _ (HR.out.below HB1.out)).mono ?_
        case h1 => omega
        rintro e w2 ⟨vp, rfl, hp, hb⟩
        have H2 := Lib.hid (hp_below' hb H1.out); have HB2 := Lib.hid (bl_then HB1.out hb)
        have HP2 := Aside0.mk (Kd.R_lower hp HB1.out.size)
        clear hp hb H1 HB1
        go_wp2_with (refine ld_au _ rfl w.heap.size rfl H2.out rfl ?_)
        refine (LVL.out _ (nn + 1) ?h2 _ (HR.out.below HB2.out)).mono ?_
        case h2 => omega
        rintro e w3 ⟨vq, rfl, hq, hb⟩
        have H3 := Lib.hid (hp_below' hb H2.out); have HB3 := Lib.hid (bl_then HB2.out hb)
        have HP3 := Aside0.mk (Kd.R_below HP2.out hb); have HQ3 := Aside0.mk (Kd.R_lower hq HB2.out.size)
        clear hq hb H2 HB2 HP2
        go_wp2_with (refine ld_au _ rfl w.heap.size rfl H3.out rfl ?_)
        refine (CLS.out _ (HR.out.below HB3.out)).mono ?_
        rintro e w4 ⟨va, rfl, ha, hb⟩
        have H4 := Lib.hid (hp_below' hb H3.out); have HB4 := Lib.hid (bl_then HB3.out hb)
        have HP4 := Aside0.mk (Kd.R_below HP3.out hb); have HQ4 := Aside0.mk (Kd.R_below HQ3.out hb); have HA4 := Aside0.mk (Kd.R_lower ha HB3.out.size)
        clear ha hb H3 HB3 HP3 HQ3
        go_wp2_with (refine ld_au _ rfl w.heap.size rfl H4.out rfl ?_)
        refine (LVL.out _ last ?h3 _ (HR.out.below HB4.out)).mono ?_
        case h3 => omega
        rintro e w5 ⟨vr, rfl, hr, hb⟩
        have H5 := Lib.hid (hp_below' hb H4.out); have HB5 := Lib.hid (bl_then HB4.out hb)
        obtain ⟨P, hP⟩ : ∃ P, P = zl (cls x nn) := ⟨_, rfl⟩
        obtain ⟨Q, hQ⟩ : ∃ Q, Q = zl (cls x (nn + 1)) := ⟨_, rfl⟩
        obtain ⟨L, hL⟩ : ∃ L, L = zl (cls x last) := ⟨_, rfl⟩
        have HF := Aside0.mk (moore_facts HX.out HLA.out hP hQ hL hle)
        have hPl : P.length = x.acc.length := HF.out.1
        have hQl : Q.length = x.acc.length := HF.out.2.1
        have HP5 := Kd.R_below HP4.out hb; have HQ5 := Kd.R_below HQ4.out hb; have HA5 := Kd.R_below HA4.out hb
        rw [← hP] at HP5; rw [← hQ] at HQ5; rw [← hL] at HA5 hr
        clear HP4 HQ4 HA4 H4 HB4 hb LVL CLS hP hQ hL
        obtain ⟨gp, cp, rfl, lp, lpp, hcp⟩ := own_form (0 : Int) HP5 (by rw [hPl]; exact HX.out.2.2.1)
        obtain ⟨gq, cq, rfl, lq, lqq, hcq⟩ := own_form (0 : Int) HQ5 (by rw [hQl]; exact HX.out.2.2.1)
        have CP := (Kd.R_reads' HP5).2.2; have CQ := (Kd.R_reads' HQ5).2.2
        obtain ⟨Aa, ca, rfl, la, hCa⟩ := Kd.R_reads HA5
        obtain ⟨Ar, cr, rfl, lr, hCr⟩ := Kd.R_reads hr
        have SM1 := same_any Aa ca L Ar cr L w5 hCa hCr
        rw [decide_eq_true rfl] at SM1
        have HSM1 := Aside0.mk SM1
        have GP := Aside0.mk (fun (W : World) (h : Below w5.heap.size w5 W) => And.intro (Kd.C_below CP h) (And.intro (Kd.C_below CQ h) (Kd.C_below hCa h)))
        have GC := Aside0.mk (fun (W : World) (h : Below w5.heap.size w5 W) (i : Nat) (hi : i < x.acc.length) => And.intro ((h.cell (p := ⟨gp, i, none⟩) lpp).trans (hcp i (by rw [hPl]; exact hi)).1) ((h.cell (p := ⟨gq, i, none⟩) lqq).trans (hcq i (by rw [hQl]; exact hi)).1))
        rw [hPl, hQl]
        clear hr HP5 HQ5 HA5 hCa hCr hcp hcq CP CQ lp lq lpp lqq la lr SM1 hPl hQl HLA HNN HLW
        have d2 : w5.cell? ⟨w.heap.size, 2, none⟩ = some (.slice B x.acc.length d) := by rw [cell_of_row _ _ _ _ _ _ H5.out]; rfl
        clear hn0 hl0
        go_wp2_with fail
        refine (numM_any _ _).mono ?_
        rintro e w' ⟨rfl, rfl⟩
        go_wp2_with fail
        refine (numM_any _ _).mono ?_
        rintro e w' ⟨rfl, rfl⟩
        go_wp2_with fail
        refine (numM_any _ _).mono ?_
        rintro e w' ⟨rfl, rfl⟩
        go_wp2_with fail
        refine (numM_any _ _).mono ?_
        rintro e w' ⟨rfl, rfl⟩
        go_wp2_with fail
        refine HSM1.out.mono ?_
        rintro e w6 ⟨rfl, hb⟩
        have H6 := Lib.hid hb
        have HB6 := Lib.hid (bl_then HB5.out hb)
        clear hb HSM1 d2
        go_wp2_with fail
        go_loopw [14] (fun i wr => ∃ k : Nat, k ≤ x.acc.length ∧ i = .int .i64 k ∧ Hid (Below w5.heap.size w5 wr)) (fun i _ => x.acc.length - (intOf i).toNat)
        case atStart => exact ⟨0, by omega, rfl, Lib.hid H6.out⟩
        case round =>
          obtain ⟨k, hk, rfl, H⟩ := hrel
          by_cases hkl : k < x.acc.length
          · have ⟨f1, f2, f3, f4, f5, f6⟩ := HF.out.2.2.1 k hkl
            have g1 : wr.cell? ⟨gp, k, none⟩ = some (.int .i64 (P.getD k 0)) := (GC.out wr H.out k hkl).1
            have g2 : wr.cell? ⟨gq, k, none⟩ = some (.int .i64 (Q.getD k 0)) := (GC.out wr H.out k hkl).2
            have g3 : wr.cell? ⟨gp, (Q.getD k 0).toNat, none⟩ = some (.int .i64 (P.getD k 0)) := by
              have := (GC.out wr H.out (Q.getD k 0).toNat (by omega)).1
              rw [f6] at this; exact this
            clear f6
            generalize P.getD k 0 = p at *
            generalize Q.getD k 0 = q at *
            have b1 : decide (p < 0) = false := decide_eq_false (by omega)
            have b2 : decide ((k : Int) < p) = false := decide_eq_false (by omega)
            have b3 : decide (q < 0) = false := decide_eq_false (by omega)
            have b4 : decide ((k : Int) < q) = false := decide_eq_false (by omega)
            have b5 : decide (q < p) = false := decide_eq_false (by omega)
            have b6 : (p != p) = false := by simp
            have b7 : q < (x.acc.length : Int) := by omega
            clear f1 f2 f4 f5
            go_wp2
            go_quiet (fail)
            go_wp2
            go_roundw
            case rel => exact ⟨k + 1, by omega, by go_num, Lib.hid (bl_drewN H.out _)⟩
            case measure => simp [intOf]; omega
          · have hk2 : k = x.acc.length := by omega
            subst hk2
            have ⟨p1, p2, p3⟩ := GP.out wr H.out
            have SM2 := same_any (some ⟨gp, 0, none⟩) cp P (some ⟨gq, 0, none⟩) cq Q wr p1 p2
            by_cases hpq : P = Q
            · have hpL := HF.out.2.2.2 hpq
              rw [decide_eq_true hpq, HF.out.1, HF.out.2.1] at SM2
              have HSM2 := Aside0.mk SM2
              have HSM3 := Aside0.mk (fun (W : World) (hW : Below w5.heap.size w5 W) => by
                have SM3 := same_any (some ⟨gp, 0, none⟩) cp P Aa ca L W (GP.out W hW).1 (GP.out W hW).2.2
                rw [decide_eq_true hpL, HF.out.1] at SM3
                exact SM3)
              clear p1 p2 p3 SM2 hpL hpq
              go_wp2_with fail
              refine HSM2.out.mono ?_
              rintro e w7 ⟨rfl, hb⟩
              have H7 := Lib.hid (bl_then H.out hb)
              clear hb HSM2
              go_wp2_with fail
              refine (HSM3.out _ H7.out).mono ?_
              rintro e w8 ⟨rfl, hb⟩
              have H8 := Lib.hid (bl_then H7.out hb)
              clear hb HSM3
              go_wp2_with fail
              refine (liveM_any _).mono ?_
              rintro e w9 ⟨rfl, hb⟩
              have H9 := Lib.hid (bl_then HB5.out (bl_then H8.out hb))
              clear hb
              go_wp2
              go_ret
              exact ⟨rfl, H9.out⟩
            · rw [decide_eq_false hpq, HF.out.1, HF.out.2.1] at SM2
              have HSM2 := Aside0.mk SM2
              clear p1 p2 p3 SM2 hpq
              go_wp2_with fail
              refine HSM2.out.mono ?_
              rintro e w7 ⟨rfl, hb⟩
              have H7 := Lib.hid (bl_then H.out hb)
              clear hb HSM2
              go_wp2_with fail
              refine (liveM_any _).mono ?_
              rintro e w9 ⟨rfl, hb⟩
              have H9 := Lib.hid (bl_then HB5.out (bl_then H7.out hb))
              clear hb
              go_wp2
              go_ret
              exact ⟨rfl, H9.out⟩
      · have h2 : 2 < x.acc.length := by omega
        have HLA := Lib.hid hlast; have HNN := Lib.hid hnn; have HLW := Aside0.mk LW
        have hmod := mod_at (by omega) hlast h2 hnn
        have hnb : nn ≤ 4096 := by omega
        rw [h0] at GD
        clear h0 hx hlast hnn LW
        go_enter Try.func7, Try.ntmps7
        go_wp2_with (refine ld_au _ rfl w.heap.size rfl H0.out rfl ?_)
        refine GD.out.mono ?_
        rintro e w1 ⟨rfl, hb⟩
        have H1 := Lib.hid (hp_below' hb H0.out)
        have HB1 := Lib.hid (bl_then HB0.out hb)
        have c2 : w1.cell? ⟨w.heap.size, 2, none⟩ = some (.slice B x.acc.length d) := by rw [cell_of_row _ _ _ _ _ _ H1.out]; rfl
        clear hb GD H0 HB0
        go_wp2_with (refine ld_au _ rfl w.heap.size rfl H1.out rfl ?_)
        clear c2
        refine (LVL.out _ nn ?h1 _ (HR.out.below HB1.out)).mono ?_
        case h1 => omega
        rintro e w2 ⟨vp, rfl, hp, hb⟩
        have H2 := Lib.hid (hp_below' hb H1.out); have HB2 := Lib.hid (bl_then HB1.out hb)
        have HP2 := Aside0.mk (Kd.R_lower hp HB1.out.size)
        clear hp hb H1 HB1
        go_wp2_with (refine ld_au _ rfl w.heap.size rfl H2.out rfl ?_)
        refine (LVL.out _ (nn + 1) ?h2 _ (HR.out.below HB2.out)).mono ?_
        case h2 => omega
        rintro e w3 ⟨vq, rfl, hq, hb⟩
        have H3 := Lib.hid (hp_below' hb H2.out); have HB3 := Lib.hid (bl_then HB2.out hb)
        have HP3 := Aside0.mk (Kd.R_below HP2.out hb); have HQ3 := Aside0.mk (Kd.R_lower hq HB2.out.size)
        clear hq hb H2 HB2 HP2
        go_wp2_with (refine ld_au _ rfl w.heap.size rfl H3.out rfl ?_)
        refine (CLS.out _ (HR.out.below HB3.out)).mono ?_
        rintro e w4 ⟨va, rfl, ha, hb⟩
        have H4 := Lib.hid (hp_below' hb H3.out); have HB4 := Lib.hid (bl_then HB3.out hb)
        have HP4 := Aside0.mk (Kd.R_below HP3.out hb); have HQ4 := Aside0.mk (Kd.R_below HQ3.out hb); have HA4 := Aside0.mk (Kd.R_lower ha HB3.out.size)
        clear ha hb H3 HB3 HP3 HQ3
        go_wp2_with (refine ld_au _ rfl w.heap.size rfl H4.out rfl ?_)
        refine (LVL.out _ last ?h3 _ (HR.out.below HB4.out)).mono ?_
        case h3 => have := HLA.out; omega
        rintro e w5 ⟨vr, rfl, hr, hb⟩
        have H5 := Lib.hid (hp_below' hb H4.out); have HB5 := Lib.hid (bl_then HB4.out hb)
        obtain ⟨P, hP⟩ : ∃ P, P = zl (cls x nn) := ⟨_, rfl⟩
        obtain ⟨Q, hQ⟩ : ∃ Q, Q = zl (cls x (nn + 1)) := ⟨_, rfl⟩
        obtain ⟨L, hL⟩ : ∃ L, L = zl (cls x last) := ⟨_, rfl⟩
        have HF := Aside0.mk (moore_facts HX.out HLA.out hP hQ hL hle)
        have hPl : P.length = x.acc.length := HF.out.1
        have hQl : Q.length = x.acc.length := HF.out.2.1
        have HP5 := Kd.R_below HP4.out hb; have HQ5 := Kd.R_below HQ4.out hb; have HA5 := Kd.R_below HA4.out hb
        rw [← hP] at HP5; rw [← hQ] at HQ5; rw [← hL] at HA5 hr
        clear HP4 HQ4 HA4 H4 HB4 hb LVL CLS hP hQ hL
        obtain ⟨gp, cp, rfl, lp, lpp, hcp⟩ := own_form (0 : Int) HP5 (by rw [hPl]; exact HX.out.2.2.1)
        obtain ⟨gq, cq, rfl, lq, lqq, hcq⟩ := own_form (0 : Int) HQ5 (by rw [hQl]; exact HX.out.2.2.1)
        have CP := (Kd.R_reads' HP5).2.2; have CQ := (Kd.R_reads' HQ5).2.2
        obtain ⟨Aa, ca, rfl, la, hCa⟩ := Kd.R_reads HA5
        obtain ⟨Ar, cr, rfl, lr, hCr⟩ := Kd.R_reads hr
        have SM1 := same_any Aa ca L Ar cr L w5 hCa hCr
        rw [decide_eq_true rfl] at SM1
        have HSM1 := Aside0.mk SM1
        have GP := Aside0.mk (fun (W : World) (h : Below w5.heap.size w5 W) => And.intro (Kd.C_below CP h) (And.intro (Kd.C_below CQ h) (Kd.C_below hCa h)))
        have GC := Aside0.mk (fun (W : World) (h : Below w5.heap.size w5 W) (i : Nat) (hi : i < x.acc.length) => And.intro ((h.cell (p := ⟨gp, i, none⟩) lpp).trans (hcp i (by rw [hPl]; exact hi)).1) ((h.cell (p := ⟨gq, i, none⟩) lqq).trans (hcq i (by rw [hQl]; exact hi)).1))
        rw [hPl, hQl]
        clear hr HP5 HQ5 HA5 hCa hCr hcp hcq CP CQ lp lq lpp lqq la lr SM1 hPl hQl HLA HNN HLW
        have d2 : w5.cell? ⟨w.heap.size, 2, none⟩ = some (.slice B x.acc.length d) := by rw [cell_of_row _ _ _ _ _ _ H5.out]; rfl
        go_wp2_with fail
        refine (numM_any _ _).mono ?_
        rintro e w' ⟨rfl, rfl⟩
        go_wp2_with fail
        refine (numM_any _ _).mono ?_
        rintro e w' ⟨rfl, rfl⟩
        go_wp2_with fail
        refine (numM_any _ _).mono ?_
        rintro e w' ⟨rfl, rfl⟩
        go_wp2_with fail
        refine (numM_any _ _).mono ?_
        rintro e w' ⟨rfl, rfl⟩
        go_wp2_with fail
        refine HSM1.out.mono ?_
        rintro e w6 ⟨rfl, hb⟩
        have H6 := Lib.hid hb
        have HB6 := Lib.hid (bl_then HB5.out hb)
        clear hb HSM1 d2
        go_wp2_with fail
        go_loopw [14] (fun i wr => ∃ k : Nat, k ≤ x.acc.length ∧ i = .int .i64 k ∧ Hid (Below w5.heap.size w5 wr)) (fun i _ => x.acc.length - (intOf i).toNat)
        case atStart => exact ⟨0, by omega, rfl, Lib.hid H6.out⟩
        case round =>
          obtain ⟨k, hk, rfl, H⟩ := hrel
          by_cases hkl : k < x.acc.length
          · have ⟨f1, f2, f3, f4, f5, f6⟩ := HF.out.2.2.1 k hkl
            have g1 : wr.cell? ⟨gp, k, none⟩ = some (.int .i64 (P.getD k 0)) := (GC.out wr H.out k hkl).1
            have g2 : wr.cell? ⟨gq, k, none⟩ = some (.int .i64 (Q.getD k 0)) := (GC.out wr H.out k hkl).2
            have g3 : wr.cell? ⟨gp, (Q.getD k 0).toNat, none⟩ = some (.int .i64 (P.getD k 0)) := by
              have := (GC.out wr H.out (Q.getD k 0).toNat (by omega)).1
              rw [f6] at this; exact this
            clear f6
            generalize P.getD k 0 = p at *
            generalize Q.getD k 0 = q at *
            have b1 : decide (p < 0) = false := decide_eq_false (by omega)
            have b2 : decide ((k : Int) < p) = false := decide_eq_false (by omega)
            have b3 : decide (q < 0) = false := decide_eq_false (by omega)
            have b4 : decide ((k : Int) < q) = false := decide_eq_false (by omega)
            have b5 : decide (q < p) = false := decide_eq_false (by omega)
            have b6 : (p != p) = false := by simp
            have b7 : q < (x.acc.length : Int) := by omega
            clear f1 f2 f4 f5
            go_wp2
            go_quiet (fail)
            go_wp2
            go_roundw
            case rel => exact ⟨k + 1, by omega, by go_num, Lib.hid (bl_drewN H.out _)⟩
            case measure => simp [intOf]; omega
          · have hk2 : k = x.acc.length := by omega
            subst hk2
            have ⟨p1, p2, p3⟩ := GP.out wr H.out
            have SM2 := same_any (some ⟨gp, 0, none⟩) cp P (some ⟨gq, 0, none⟩) cq Q wr p1 p2
            by_cases hpq : P = Q
            · have hpL := HF.out.2.2.2 hpq
              rw [decide_eq_true hpq, HF.out.1, HF.out.2.1] at SM2
              have HSM2 := Aside0.mk SM2
              have HSM3 := Aside0.mk (fun (W : World) (hW : Below w5.heap.size w5 W) => by
                have SM3 := same_any (some ⟨gp, 0, none⟩) cp P Aa ca L W (GP.out W hW).1 (GP.out W hW).2.2
                rw [decide_eq_true hpL, HF.out.1] at SM3
                exact SM3)
              clear p1 p2 p3 SM2 hpL hpq
              go_wp2_with fail
              refine HSM2.out.mono ?_
              rintro e w7 ⟨rfl, hb⟩
              have H7 := Lib.hid (bl_then H.out hb)
              clear hb HSM2
              go_wp2_with fail
              refine (HSM3.out _ H7.out).mono ?_
              rintro e w8 ⟨rfl, hb⟩
              have H8 := Lib.hid (bl_then H7.out hb)
              clear hb HSM3
              go_wp2_with fail
              refine (liveM_any _).mono ?_
              rintro e w9 ⟨rfl, hb⟩
              have H9 := Lib.hid (bl_then HB5.out (bl_then H8.out hb))
              clear hb
              go_wp2
              go_ret
              exact ⟨rfl, H9.out⟩
            · rw [decide_eq_false hpq, HF.out.1, HF.out.2.1] at SM2
              have HSM2 := Aside0.mk SM2
              clear p1 p2 p3 SM2 hpq
              go_wp2_with fail
              refine HSM2.out.mono ?_
              rintro e w7 ⟨rfl, hb⟩
              have H7 := Lib.hid (bl_then H.out hb)
              clear hb HSM2
              go_wp2_with fail
              refine (liveM_any _).mono ?_
              rintro e w9 ⟨rfl, hb⟩
              have H9 := Lib.hid (bl_then HB5.out (bl_then H7.out hb))
              clear hb
              go_wp2
              go_ret
              exact ⟨rfl, H9.out⟩
  · have h80 : autE x = 80 := autE_no (fun h => h0 (autE_ok h))
    rw [h80] at GD
    clear h0 h80
    go_enter Try.func7, Try.ntmps7
    go_wp2_with (refine ld_au _ rfl w.heap.size rfl H0.out rfl ?_)
    refine GD.out.mono ?_
    rintro e w1 ⟨rfl, hb⟩
    have HB1 := Lib.hid (bl_then HB0.out hb)
    clear hb GD
    go_wp2_with fail
    refine (liveM_any _).mono ?_
    rintro e w2 ⟨rfl, hb⟩
    have HB2 := Lib.hid (bl_then HB1.out hb)
    clear hb
    go_wp2
    go_ret
    exact ⟨rfl, HB2.out⟩
end Go.Proofs.Ytjedippbjjedlaa
