/- The walk of the statement MinimMakes. -/
import Derived.Test.YtjedippbjjedlaaIsE
import Derived.Test.YtjedippbjjedlaaRfT
namespace Go.Proofs.Ytjedippbjjedlaa
open Go.RowKit Go.Proofs.YtjedippbjjedlaaW.PrintWords Go.Proofs.Ytjedippbjjedlaa.PMinimMakes
set_option linter.unusedSimpArgs false
set_option linter.unusedVariables false
theorem rminimal_any (x : AutV) (A : Option Addr) (c : Nat) (B : Option Addr) (d : Nat) (hz : AutSz x c d) (w : World) (hr : ARd w x A B) :
    Calls Try.prog 26 #[.agg (ac x A c B d)] w fun e w' => ∃ vn va vt, e = .returned (.tuple #[.agg #[.int .i64 (minV x).k, vn, va], vt, .int .i64 (autE x)]) ∧ Own w' w.heap.size vn (minV x).next ∧ Kd.R Kd.bool 4 w' w.heap.size (fun _ => True) va (minV x).acc ∧ Own w' w.heap.size vt (minT x) ∧ Below w.heap.size w w' :=
  (eggboxref10_Minimal.calls (rK x + x.acc.length + 4 + (mR x 0 + 1)) x.k A c x.next B d x.acc _ _ _ _ _ w hr.next hz.1 hr.acc hz.2.1 (rmin_f x hz.2.2.2 (by omega) (by omega))).mono fun e w' ⟨v1, v2, v3, he, h1, h2, h3, hb⟩ =>
    ⟨v1, v2, v3, he, Kd.R_mono h1 (fun _ _ => trivial), h2, Kd.R_mono h3 (fun _ _ => trivial), hb⟩
theorem ris_any (x : AutV) (A : Option Addr) (c : Nat) (B : Option Addr) (d : Nat) (hz : AutSz x c d) (w : World) (hr : ARd w x A B) :
    Calls Try.prog 28 #[.agg (ac x A c B d)] w fun e w' => e = .returned (.tuple #[.bool (isV x), .int .i64 (autE x)]) ∧ Below w.heap.size w w' :=
  eggboxref10_Is.calls (rK x + x.acc.length + 4 + (mR x 0 + 1) + 40961) x.k A c x.next B d x.acc _ _ w hr.next hz.1 hr.acc hz.2.1 (ris_f x hz.2.2.2 (by omega) (by omega) (by omega))
theorem minV_small (x : AutV) : (minV x).next.length ≤ 40960 ∧ (minV x).acc.length ≤ 4096 ∧ (minT x).length ≤ 4096 := by
  by_cases h0 : autE x = 0
  · have h := autE_is h0
    rw [show minV x = mAut x by unfold minV; rw [if_pos h0], show minT x = mTo x by unfold minT; rw [if_pos h0]]
    have hle := mbs_le h (x.acc.length * mK x)
    have hla : (mAut x).acc.length ≤ 4096 := by
      show ((mL x).map _).length ≤ 4096
      rw [List.length_map]
      exact Nat.le_trans hle h.2.2.2.1
    have hln := mAut_next_len h
    have h1 := aut_mul (m := (mAut x).acc.length) h.1 h.2.1 hla
    refine ⟨by omega, hla, ?_⟩
    unfold mTo
    rw [List.length_map, mcl_len]
    exact h.2.2.2.1
  · rw [show minV x = ⟨0, [], []⟩ by unfold minV; rw [if_neg h0], show minT x = [] by unfold minT; rw [if_neg h0]]
    simp
set_option maxRecDepth 100000 in
set_option maxHeartbeats 1600000 in
theorem minimMakes_any (w : World) (x : AutV) (A : Option Addr) (c : Nat) (B : Option Addr) (d : Nat) (hr : ARd w x A B) (hsz : AutSz x c d) :
    Calls Try.prog 4 #[.agg (ac x A c B d)] w fun e w' => e = .returned (.bool true) ∧ Below w.heap.size w w' := by
  have HR := Aside0.mk hr
  have HZ := Lib.hid hsz
  have H0 := Lib.hid ((Hp.start w).alloc (AB x A c B d))
  have LN := Aside0.mk (fun (W : World) (h : ARd W x A B) => lenta_any x A c B d hsz W h)
  have MN := Aside0.mk (fun (X : Option Addr) (xc : Nat) (Y : Option Addr) (yc : Nat) (W : World) (h : ARd W x X Y) => minimalv_any x X xc Y yc W h)
  have IS := Aside0.mk (fun (X : Option Addr) (xc : Nat) (Y : Option Addr) (yc : Nat) (W : World) (h : ARd W x X Y) => isv_any x X xc Y yc W h)
  have RM := Aside0.mk (fun (W : World) (h : ARd W x A B) => rminimal_any x A c B d hsz W h)
  have RI := Aside0.mk (fun (W : World) (h : ARd W x A B) => ris_any x A c B d hsz W h)
  have SML := Lib.hid (minV_small x)
  generalize minV x = V at *
  generalize minT x = T at *
  generalize autE x = eE at *
  generalize isV x = bI at *
  clear hr hsz
  go_enter Try.func4, Try.ntmps4
  go_wp2_with (refine ld_au _ rfl w.heap.size rfl (H0.out.at 0 rfl) rfl ?_)
  refine (LN.out _ (HR.out.below H0.out.2)).mono ?_
  rintro e w1 ⟨X, xc, Y, yc, rfl, hX, hY, hb⟩
  have H1 := Lib.hid ((H0.out.keep hb).alloc (AB x X xc Y yc))
  have HX1 := Aside0.mk (Kd.R_alloc (Kd.R_lower hX H0.out.2.size) (AB x X xc Y yc))
  have HY1 := Aside0.mk (Kd.R_alloc (Kd.R_lower hY H0.out.2.size) (AB x X xc Y yc))
  clear hX hY hb H0 LN
  have hard : ∀ W : World, Own W w.heap.size (.slice X (x.next ++ [(-77), (-78)]).length xc) (x.next ++ [(-77), (-78)]) → Kd.R Kd.bool 4 W w.heap.size (fun _ => True) (.slice Y x.acc.length yc) x.acc → ARd W x X Y := fun W h1 h2 => by
    refine ⟨?_, (Kd.R_reads' h2).2.2⟩
    have := Kd.C_take (m := x.next.length) (Kd.R_reads' h1).2.2 (by simp)
    simpa using this
  have HARD := Aside0.mk hard
  clear hard
  go_wp2_with (first | ((with_reducible refine gate_st (t := 25) rfl ?_); refine st_au_new (y := x) (A := X) (c := xc) (B := Y) (d := yc) _ _ rfl rfl rfl rfl rfl ?_) | ((with_reducible refine gate_ld (t := 25) rfl ?_); refine ld_au (y := x) _ rfl w1.heap.size rfl (H1.out.at 0 rfl) rfl ?_))
  -- m, to
  refine (MN.out X xc Y yc _ (HARD.out _ HX1.out HY1.out)).mono ?_
  rintro e w2 ⟨vn, va, vt, rfl, hn, ha, ht, hs, hb⟩
  have hX2 := Kd.R_below HX1.out hb
  have SXN := Aside0.mk (sep_base HX1.out hn); have SXT := Aside0.mk (sep_base HX1.out ht); have SNT := Aside0.mk hs
  obtain ⟨An, cn, rfl, ln, hCn⟩ := Kd.R_reads hn
  obtain ⟨Aa, ca, rfl, la, hCa⟩ := Kd.R_reads ha
  obtain ⟨At, ct, rfl, lt, hCt⟩ := Kd.R_reads ht
  have H2 := Lib.hid ((H1.out.keep hb).alloc (AB V An cn Aa ca))
  have HX2 := Aside0.mk (Kd.R_alloc hX2 (AB V An cn Aa ca)); have HY2 := Aside0.mk (Kd.R_alloc (Kd.R_below HY1.out hb) (AB V An cn Aa ca))
  have HN2 := Aside0.mk (Kd.R_alloc (Kd.R_lower hn H1.out.2.size) (AB V An cn Aa ca)); have HT2 := Aside0.mk (Kd.R_alloc (Kd.R_lower ht H1.out.2.size) (AB V An cn Aa ca)); have HM2 := Aside0.mk (ARd.below (x := V) ⟨hCn, hCa⟩ (bl_alloc (Below.refl _ _) (AB V An cn Aa ca)))
  clear hb hn ha ht hs hCn hCa hCt hX2 H1 HX1 HY1
  go_wp2_with (first | ((with_reducible refine gate_st (t := 25) rfl ?_); refine st_au_new (y := V) (A := An) (c := cn) (B := Aa) (d := ca) _ _ rfl rfl rfl rfl rfl ?_) | ((with_reducible refine gate_ld (t := 25) rfl ?_); refine ld_au (y := x) _ rfl w1.heap.size rfl (H2.out.at 1 rfl) rfl ?_))
  -- o
  refine (MN.out X xc Y yc _ (HARD.out _ HX2.out HY2.out)).mono ?_
  rintro e w3 ⟨vo, vb, vu, rfl, hn, ha, ht, hs, hb⟩
  have SXO := Aside0.mk (sep_base HX2.out hn); have SNO := Aside0.mk (sep_base HN2.out hn); have STO := Aside0.mk (sep_base HT2.out hn)
  obtain ⟨Ao, co, rfl, lo, hCo⟩ := Kd.R_reads hn
  obtain ⟨Ab, cb, rfl, lb, hCb⟩ := Kd.R_reads ha
  have H3 := Lib.hid ((H2.out.keep hb).alloc (AB V Ao co Ab cb))
  have HX3 := Aside0.mk (Kd.R_alloc (Kd.R_below HX2.out hb) (AB V Ao co Ab cb)); have HY3 := Aside0.mk (Kd.R_alloc (Kd.R_below HY2.out hb) (AB V Ao co Ab cb))
  have HN3 := Aside0.mk (Kd.R_alloc (Kd.R_below HN2.out hb) (AB V Ao co Ab cb)); have HT3 := Aside0.mk (Kd.R_alloc (Kd.R_below HT2.out hb) (AB V Ao co Ab cb)); have HM3 := Aside0.mk ((HM2.out.below hb).below (bl_alloc (Below.refl _ _) (AB V Ao co Ab cb)))
  have HO3 := Aside0.mk (Kd.R_alloc (Kd.R_lower hn H2.out.2.size) (AB V Ao co Ab cb)); have HP3 := Aside0.mk (ARd.below (x := V) ⟨hCo, hCb⟩ (bl_alloc (Below.refl _ _) (AB V Ao co Ab cb)))
  clear hb hn ha ht hs hCo hCb H2 HX2 HY2 HN2 HT2 HM2 MN
  go_wp2_with (first | ((with_reducible refine gate_st (t := 25) rfl ?_); refine st_au_new (y := V) (A := Ao) (c := co) (B := Ab) (d := cb) _ _ rfl rfl rfl rfl rfl ?_) | ((with_reducible refine gate_ld (t := 25) rfl ?_); refine ld_au (y := x) _ rfl w.heap.size rfl (H3.out.at 3 rfl) rfl ?_))
  -- n, at
  refine (RM.out _ (HR.out.below H3.out.2)).mono ?_
  rintro e w4 ⟨vq, vc, vs, rfl, hn, ha, ht, hb⟩
  obtain ⟨Aq, cq, rfl, lq, hCq⟩ := Kd.R_reads hn
  obtain ⟨Ac, cc, rfl, lc, hCc⟩ := Kd.R_reads ha
  obtain ⟨As, cs, rfl, ls, hCs⟩ := Kd.R_reads ht
  have H4 := Lib.hid ((H3.out.keep hb).alloc (AB V Aq cq Ac cc))
  have HX4 := Aside0.mk (Kd.R_alloc (Kd.R_below HX3.out hb) (AB V Aq cq Ac cc)); have HY4 := Aside0.mk (Kd.R_alloc (Kd.R_below HY3.out hb) (AB V Aq cq Ac cc))
  have HN4 := Aside0.mk (Kd.R_alloc (Kd.R_below HN3.out hb) (AB V Aq cq Ac cc)); have HT4 := Aside0.mk (Kd.R_alloc (Kd.R_below HT3.out hb) (AB V Aq cq Ac cc)); have HM4 := Aside0.mk ((HM3.out.below hb).below (bl_alloc (Below.refl _ _) (AB V Aq cq Ac cc)))
  have HO4 := Aside0.mk (Kd.R_alloc (Kd.R_below HO3.out hb) (AB V Aq cq Ac cc)); have HP4 := Aside0.mk ((HP3.out.below hb).below (bl_alloc (Below.refl _ _) (AB V Aq cq Ac cc)))
  have HQ4 := Aside0.mk (ARd.below (x := V) ⟨hCq, hCc⟩ (bl_alloc (Below.refl _ _) (AB V Aq cq Ac cc))); have HS4 := Aside0.mk (Kd.C_below hCs (bl_alloc (Below.refl _ _) (AB V Aq cq Ac cc)))
  clear hb hn ha ht hCq hCc hCs H3 HX3 HY3 HN3 HT3 HM3 HO3 HP3 RM
  go_wp2_with (first | ((with_reducible refine gate_st (t := 25) rfl ?_); refine st_au_new (y := V) (A := Aq) (c := cq) (B := Ac) (d := cc) _ _ rfl rfl rfl rfl rfl ?_) | ((with_reducible refine gate_ld (t := 25) rfl ?_); refine ld_au (y := x) _ rfl w1.heap.size rfl (H4.out.at 3 rfl) rfl ?_))
  -- b
  refine (IS.out X xc Y yc _ (HARD.out _ HX4.out HY4.out)).mono ?_
  rintro e w5 ⟨rfl, hb⟩
  have H5 := Lib.hid (H4.out.keep hb)
  have HX5 := Aside0.mk (Kd.R_below HX4.out hb); have HN5 := Aside0.mk (Kd.R_below HN4.out hb); have HT5 := Aside0.mk (Kd.R_below HT4.out hb); have HO5 := Aside0.mk (Kd.R_below HO4.out hb)
  have HM5 := Aside0.mk (HM4.out.below hb); have HP5 := Aside0.mk (HP4.out.below hb); have HQ5 := Aside0.mk (HQ4.out.below hb); have HS5 := Aside0.mk (Kd.C_below HS4.out hb)
  clear hb H4 HX4 HY4 HN4 HT4 HM4 HO4 HP4 HQ4 HS4 IS HARD
  go_wp2_with (refine ld_au _ rfl w.heap.size rfl (H5.out.at 4 rfl) rfl ?_)
  -- c
  refine (RI.out _ (HR.out.below H5.out.2)).mono ?_
  rintro e w6 ⟨rfl, hb⟩
  have H6 := Lib.hid (H5.out.keep hb)
  have HX6 := Aside0.mk (Kd.R_below HX5.out hb); have HN6 := Aside0.mk (Kd.R_below HN5.out hb); have HT6 := Aside0.mk (Kd.R_below HT5.out hb); have HO6 := Aside0.mk (Kd.R_below HO5.out hb)
  have HM6 := Aside0.mk (HM5.out.below hb); have HP6 := Aside0.mk (HP5.out.below hb); have HQ6 := Aside0.mk (HQ5.out.below hb); have HS6 := Aside0.mk (Kd.C_below HS5.out hb)
  have hself : sameV V V = true := decide_eq_true ⟨rfl, rfl, rfl⟩
  have SM1 := samea_any V V An cn Aa ca Aq cq Ac cc w6 HM6.out HQ6.out
  rw [hself] at SM1
  have HSM1 := Aside0.mk SM1
  clear hb SM1 H5 HX5 HN5 HT5 HO5 HM5 HP5 HQ5 HS5 RI
  go_wp2_with (first | (refine ld_au _ rfl w2.heap.size rfl (H6.out.at 2 rfl) rfl ?_) | (refine ld_au _ rfl w4.heap.size rfl (H6.out.at 0 rfl) rfl ?_))
  refine HSM1.out.mono ?_
  rintro e w7 ⟨rfl, hb⟩
  have H7 := Lib.hid (H6.out.keep hb)
  have HX7 := Aside0.mk (Kd.R_below HX6.out hb); have HN7 := Aside0.mk (Kd.R_below HN6.out hb); have HT7 := Aside0.mk (Kd.R_below HT6.out hb); have HO7 := Aside0.mk (Kd.R_below HO6.out hb)
  have HP7 := Aside0.mk (HP6.out.below hb); have HQ7 := Aside0.mk (HQ6.out.below hb); have HS7 := Aside0.mk (Kd.C_below HS6.out hb)
  have SM2 := samea_any V V Ao co Ab cb Aq cq Ac cc w7 HP7.out HQ7.out
  rw [hself] at SM2
  have HSM2 := Aside0.mk SM2
  clear hb SM2 HSM1 H6 HX6 HN6 HT6 HO6 HM6 HP6 HQ6 HS6 hself
  go_wp2_with (first | (refine ld_au _ rfl w3.heap.size rfl (H7.out.at 1 rfl) rfl ?_) | (refine ld_au _ rfl w4.heap.size rfl (H7.out.at 0 rfl) rfl ?_))
  refine HSM2.out.mono ?_
  rintro e w8 ⟨rfl, hb⟩
  have H8 := Lib.hid (H7.out.keep hb)
  have HX8 := Aside0.mk (Kd.R_below HX7.out hb); have HN8 := Aside0.mk (Kd.R_below HN7.out hb); have HT8 := Aside0.mk (Kd.R_below HT7.out hb); have HO8 := Aside0.mk (Kd.R_below HO7.out hb); have HS8 := Aside0.mk (Kd.C_below HS7.out hb)
  clear hb HSM2 H7 HX7 HN7 HT7 HO7 HP7 HQ7 HS7
  go_wp2_with fail
  have SM3 := same_any At ct T As cs T w8 (Kd.R_reads' HT8.out).2.2 HS8.out
  rw [decide_eq_true rfl] at SM3
  refine SM3.mono ?_
  rintro e w9 ⟨rfl, hb⟩
  have H9 := Lib.hid (H8.out.keep hb)
  have HX9 := Aside0.mk (Kd.R_below HX8.out hb); have HN9 := Aside0.mk (Kd.R_below HN8.out hb); have HT9 := Aside0.mk (Kd.R_below HT8.out hb); have HO9 := Aside0.mk (Kd.R_below HO8.out hb)
  clear hb SM3 H8 HX8 HN8 HT8 HO8 HS8
  go_wp2_with fail
  refine (numM_any _ _).mono ?_
  rintro e w' ⟨rfl, rfl⟩
  go_wp2_with fail
  refine (numM_any _ _).mono ?_
  rintro e w' ⟨rfl, rfl⟩
  have c1 : w9.cell? ⟨w1.heap.size, 1, none⟩ = some (.slice X x.next.length xc) := by rw [cell_of_row _ _ _ _ _ _ (H9.out.at 3 rfl)]; rfl
  have c2 : w9.cell? ⟨w.heap.size, 1, none⟩ = some (.slice A x.next.length c) := by rw [cell_of_row _ _ _ _ _ _ (H9.out.at 4 rfl)]; rfl
  go_wp2_with fail
  have hX := Kd.R_reads' HX9.out
  have STY := stay_any X xc x.next A c w9 (by have := HZ.out.2.2.1; omega) (by simpa using hX.2.2) (by have := hX.2.1; simpa using this) (HR.out.below H9.out.2).next
  refine STY.mono ?_
  rintro e w10 ⟨rfl, hb⟩
  have H10 := Lib.hid (H9.out.keep hb)
  have HX10 := Aside0.mk (Kd.R_below HX9.out hb); have HN10 := Aside0.mk (Kd.R_below HN9.out hb); have HT10 := Aside0.mk (Kd.R_below HT9.out hb); have HO10 := Aside0.mk (Kd.R_below HO9.out hb)
  have c3 : w10.cell? ⟨w1.heap.size, 1, none⟩ = some (.slice X x.next.length xc) := by rw [cell_of_row _ _ _ _ _ _ (H10.out.at 3 rfl)]; rfl
  have c4 : w10.cell? ⟨w2.heap.size, 1, none⟩ = some (.slice An V.next.length cn) := by rw [cell_of_row _ _ _ _ _ _ (H10.out.at 2 rfl)]; rfl
  have c5 : w10.cell? ⟨w3.heap.size, 1, none⟩ = some (.slice Ao V.next.length co) := by rw [cell_of_row _ _ _ _ _ _ (H10.out.at 1 rfl)]; rfl
  clear STY hb hX H9 HX9 HN9 HT9 HO9 c1 c2
  go_wp2_with fail
  have AP := apart4 An Ao At X V.next.length V.next.length T.length x.next.length cn co ct xc HN10.out HO10.out HT10.out (Kd.R_take (m := x.next.length) HX10.out (by simp)) (by have := SML.out; omega) (by have := SML.out; omega) (by have := SML.out; omega) (by have := HZ.out.2.2.1; omega) SNO.out SNT.out (sep_len SXN.out).symm STO.out.symm (sep_len SXO.out).symm (sep_len SXT.out).symm H10.out.2.size
  refine AP.mono ?_
  rintro e w11 ⟨rfl, hb⟩
  have HB11 := Lib.hid (H10.out.2.trans hb)
  clear AP hb H10 HX10 HN10 HT10 HO10 c3 c4 c5
  go_wp2_with fail
  refine (liveM_any _).mono ?_
  rintro e w12 ⟨rfl, hb⟩
  have HB12 := Lib.hid (bl_then HB11.out hb)
  clear hb
  go_wp2
  go_ret
  exact ⟨rfl, HB12.out⟩
end Go.Proofs.Ytjedippbjjedlaa
