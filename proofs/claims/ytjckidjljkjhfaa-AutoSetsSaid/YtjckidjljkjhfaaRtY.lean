/- The reference's Reverse and Star. -/
import Derived.Test.YtjckidjljkjhfaaRtX
namespace Go.Proofs.Ytjckidjljkjhfaa
open Go.RowKit Go.Proofs.YtjckidjljkjhfaaW.PrintWords
set_option linter.unusedSimpArgs false
set_option linter.unusedVariables false
theorem rv_all {x : AutV} (hx : AutOk x) (m : Nat) : ∀ s ∈ bs x.k.toNat (rvSt x) (accS x x.acc.length) m, ∀ j, s.getLsbD j = true → j < x.acc.length :=
  bs_all (by have := hx.1; omega) (fun s : Sta => ∀ j, s.getLsbD j = true → j < x.acc.length) (fun j hj => by
    rw [accS_bit x j _ hx.2.2.2.1] at hj
    simp only [Bool.and_eq_true, decide_eq_true_eq] at hj
    exact hj.1) (fun s l hs hl j hj => by
    unfold rvSt at hj
    rw [rvS_bit x s l j _ hx.2.2.2.1] at hj
    simp only [Bool.and_eq_true, decide_eq_true_eq] at hj
    exact hj.1) m
theorem fw_in {x : AutV} (hx : AutOk x) (m : Sta) {l : Nat} (hl : (l : Int) < x.k) : ∀ j, (fwS x m l x.acc.length).getLsbD j = true → j < x.acc.length := fun j hj => by
  have hn := hx.2.2.2.1
  obtain ⟨i, h1, _, h3⟩ := (fwS_bit x m l j (fun i hi => by have := (stp_lt hx hi hl).1; omega) _ (Nat.le_refl _)).1 hj
  have := (stp_lt hx h1 hl).1
  omega
theorem st_all {x : AutV} (hx : AutOk x) (m : Nat) : ∀ s ∈ bs x.k.toNat (stSt x) noS m, ∀ j, s.getLsbD j = true → j < x.acc.length :=
  bs_all (by have := hx.1; omega) (fun s : Sta => ∀ j, s.getLsbD j = true → j < x.acc.length) (fun j hj => by rw [noS_bit] at hj; cases hj) (fun s l hs hl j hj => by
    have hn1 := hx.2.2.1
    have hlk : (l : Int) < x.k := by have := hx.1; omega
    unfold stSt at hj
    split at hj
    · rw [adS_bit] at hj
      rcases Bool.or_eq_true _ _ ▸ hj with e | e
      · exact fw_in hx _ hlk j e
      · simp only [Bool.and_eq_true, decide_eq_true_eq] at e
        omega
    · exact fw_in hx _ hlk j hj) m
set_option maxRecDepth 100000 in
set_option maxHeartbeats 800000 in
theorem rreverse_any (x : AutV) (A : Option Addr) (c : Nat) (B : Option Addr) (d : Nat) (hz : AutSz x c d) (w : World) (hr : ARd w x A B) :
    Calls Try.prog 45 #[.agg (ac x A c B d)] w fun e w' => ∃ vn va, e = .returned (.tuple #[.agg #[.int .i64 (rvV x).k, vn, va], .int .i64 (rvE x)]) ∧
      Own w' w.heap.size vn (rvV x).next ∧ Kd.R Kd.bool 4 w' w.heap.size (fun _ => True) va (rvV x).acc ∧ Below w.heap.size w w' := by
  have HR := Aside0.mk hr
  have h00 := ((Hp.start w).alloc (AB x A c B d)).alloc (.cells #[.int .i64 0, .slice none 0 0, .slice none 0 0] 25)
  rw [World.size_alloc] at h00
  have H0 := Lib.hid h00
  clear h00
  have CK := Aside0.mk (rcheck8_any x A c B d hz ((w.alloc (AB x A c B d)).alloc (.cells #[.int .i64 0, .slice none 0 0, .slice none 0 0] 25)) (hr.below H0.out.2))
  by_cases h0 : autE x = 0
  · have hx := autE_is h0
    have hkk : ((x.k.toNat : Nat) : Int) = x.k := by have := hx.1; omega
    have FR := fun (W : World) (H : Below w.heap.size w W) => rsearch_any (enT x.acc.length) 3 x.k.toNat (by have := hx.1; omega) (by have := hx.2.1; omega) (.slice A x.next.length c) (.slice B x.acc.length d) (.slice none 0 0) (.slice none 0 0) 0 0 (rvSt x) (accS x x.acc.length) rvG W
      ⟨rfl, rfl, rfl, rfl⟩ (fun m s hs t ht he => enT_inj (rv_all hx m s hs) (rv_all hx m t ht) he)
      (fun W' hb => by rw [hkk]; exact rstart3_any x A c B d hx W' ((HR.out.below H).below hb))
      (fun s m l hs hl W' hb => by rw [hkk]; exact rstep3_any x A c B d hx s l (by omega) W' ((HR.out.below H).below hb))
      (fun s m hs W' hb => by rw [hkk]; exact rgood3_any 0 x A c B d hx s W')
    rw [hkk] at FR
    have FR := Aside0.mk FR
    have hE : rvE x = srE x.k.toNat (rvSt x) (accS x x.acc.length) := by unfold rvE; rw [if_pos h0]
    have hV : rvV x = srV x.k.toNat (rvSt x) (accS x x.acc.length) rvG := by unfold rvV; rw [if_pos h0]
    rw [hE, hV]
    rw [h0] at CK
    generalize srV x.k.toNat (rvSt x) (accS x x.acc.length) rvG = V at *
    generalize srE x.k.toNat (rvSt x) (accS x x.acc.length) = E at *
    clear hE hV hx hr h0 hkk hz
    go_enter Try.func45, Try.ntmps45
    go_wp2_with (refine ld_au _ rfl w.heap.size rfl (H0.out.at 1 rfl) rfl ?_)
    refine CK.out.mono ?_
    rintro e w1 ⟨rfl, hb⟩
    have H1 := Lib.hid (H0.out.keep hb)
    have H2 := Lib.hid (H1.out.alloc (.cells #[.int .i64 3, .int .i64 x.k, .slice A x.next.length c, .slice B x.acc.length d, .int .i64 0, .slice none 0 0, .slice none 0 0] 77))
    clear hb CK H0
    go_wp2_with (first | ((with_reducible refine gate_ld (t := 25) rfl ?_); refine ld_au _ rfl w.heap.size rfl (H1.out.at 1 rfl) rfl ?_) | ((with_reducible refine gate_st (t := 77) rfl ?_); refine st_sp_new (kd := 3) (k := x.k) (k2 := 0) (s1 := .slice A x.next.length c) (s2 := .slice B x.acc.length d) (s4 := .slice none 0 0) (s5 := .slice none 0 0) _ _ rfl rfl rfl rfl ⟨rfl, rfl, rfl, rfl⟩ rfl ?_) | ((with_reducible refine gate_ld (t := 77) rfl ?_); refine ld_sp (kd := 3) (k := x.k) (k2 := 0) (s1 := .slice A x.next.length c) (s2 := .slice B x.acc.length d) (s4 := .slice none 0 0) (s5 := .slice none 0 0) _ rfl w1.heap.size rfl (H2.out.at 0 rfl) rfl ?_))
    refine (FR.out _ H2.out.2).mono ?_
    rintro e w3 ⟨vn, va, rfl, hn, ha, hb⟩
    obtain ⟨An, cn, rfl⟩ := Kd.R_slice hn
    obtain ⟨Aa, ca, rfl⟩ := Kd.R_slice ha
    have H3 := Lib.hid (H2.out.keep hb)
    have HS := Lib.hid (show w3.heap[w.heap.size + 1]? = some (.cells #[.int .i64 0, .slice none 0 0, .slice none 0 0] 25 (0, 0)) from H3.out.at 1 rfl)
    have HN := Aside0.mk (Kd.R_lower hn H2.out.2.size)
    have HA := Aside0.mk (Kd.R_lower ha H2.out.2.size)
    clear hn ha hb FR H1 H2
    go_wp2_with ((with_reducible refine gate_st (t := 25) rfl ?_); refine wpList_store_row rfl 25 _ _ rfl (w.heap.size + 1) (ac V An cn Aa ca) rfl rfl 25 _ HS.out (by show _ = some 3; kernel_rfl) rfl (by simp [Value.oneCell']) ?_)
    refine bodyPost_ret (v := .tuple #[.agg (ac V An cn Aa ca), .int .i64 E]) ?_ rfl ⟨_, _, rfl, own_rowT HS.out HN.out (by decide) rfl _, own_rowT HS.out HA.out (by decide) rfl _, bl_row H3.out.2 (by omega) _⟩
    refine (results_cell_tmp (p := 2) (t := 3) (by rfl) _ _ (w.heap.size + 1) 25 _ _ _ ?_ (setRow_heap _ _ _ _ _ _ HS.out) Try.underlying25 rfl (by show _ = some 3; kernel_rfl)).trans ?_ <;> rfl
  · have h80 : autE x = 80 := autE_no (fun h => h0 (autE_ok h))
    have hE : rvE x = 80 := by unfold rvE; rw [if_neg h0]
    have hV : rvV x = ⟨0, [], []⟩ := by unfold rvV; rw [if_neg h0]
    rw [hE, hV]
    rw [h80] at CK
    clear hE hV hr h0 h80
    go_enter Try.func45, Try.ntmps45
    go_wp2_with (refine ld_au _ rfl w.heap.size rfl (H0.out.at 1 rfl) rfl ?_)
    refine CK.out.mono ?_
    rintro e w1 ⟨rfl, hb⟩
    have H1 := Lib.hid (H0.out.keep hb)
    have HS := Lib.hid (show w1.heap[w.heap.size + 1]? = some (.cells #[.int .i64 0, .slice none 0 0, .slice none 0 0] 25 (0, 0)) from H1.out.at 0 rfl)
    clear hb CK H0
    go_wp2_with ((with_reducible refine gate_st (t := 25) rfl ?_); refine wpList_store_row rfl 25 _ _ rfl (w.heap.size + 1) #[.int .i64 0, .slice none 0 0, .slice none 0 0] rfl rfl 25 _ HS.out (by show _ = some 3; kernel_rfl) rfl (by simp [Value.oneCell']) ?_)
    refine bodyPost_ret (v := .tuple #[.agg #[.int .i64 0, .slice none 0 0, .slice none 0 0], .int .i64 80]) ?_ rfl ⟨_, _, rfl, Kd.R_nil _ _ _ _ _, Kd.R_nil _ _ _ _ _, bl_row H1.out.2 (by omega) _⟩
    refine (results_cell_tmp (p := 2) (t := 3) (by rfl) _ _ (w.heap.size + 1) 25 _ _ _ ?_ (setRow_heap _ _ _ _ _ _ HS.out) Try.underlying25 rfl (by show _ = some 3; kernel_rfl)).trans ?_ <;> rfl
set_option maxRecDepth 100000 in
set_option maxHeartbeats 800000 in
theorem rstar_any (x : AutV) (A : Option Addr) (c : Nat) (B : Option Addr) (d : Nat) (hz : AutSz x c d) (w : World) (hr : ARd w x A B) :
    Calls Try.prog 46 #[.agg (ac x A c B d)] w fun e w' => ∃ vn va, e = .returned (.tuple #[.agg #[.int .i64 (stV x).k, vn, va], .int .i64 (stE x)]) ∧
      Own w' w.heap.size vn (stV x).next ∧ Kd.R Kd.bool 4 w' w.heap.size (fun _ => True) va (stV x).acc ∧ Below w.heap.size w w' := by
  have HR := Aside0.mk hr
  have h00 := ((Hp.start w).alloc (AB x A c B d)).alloc (.cells #[.int .i64 0, .slice none 0 0, .slice none 0 0] 25)
  rw [World.size_alloc] at h00
  have H0 := Lib.hid h00
  clear h00
  have CK := Aside0.mk (rcheck8_any x A c B d hz ((w.alloc (AB x A c B d)).alloc (.cells #[.int .i64 0, .slice none 0 0, .slice none 0 0] 25)) (hr.below H0.out.2))
  by_cases h0 : autE x = 0
  · have hx := autE_is h0
    have hkk : ((x.k.toNat : Nat) : Int) = x.k := by have := hx.1; omega
    have FR := fun (W : World) (H : Below w.heap.size w W) => rsearch_any (enT x.acc.length) 5 x.k.toNat (by have := hx.1; omega) (by have := hx.2.1; omega) (.slice A x.next.length c) (.slice B x.acc.length d) (.slice none 0 0) (.slice none 0 0) 0 0 (stSt x) noS (stG x) W
      ⟨rfl, rfl, rfl, rfl⟩ (fun m s hs t ht he => enT_inj (st_all hx m s hs) (st_all hx m t ht) he)
      (fun W' hb => by rw [hkk]; exact rstart5_any x A c B d hx W')
      (fun s m l hs hl W' hb => by rw [hkk]; exact rstep5_any x A c B d hz hx s (st_all hx m s hs) l (by omega) W' ((HR.out.below H).below hb))
      (fun s m hs W' hb => by rw [hkk]; exact rgood5_any 0 x A c B d hz hx s (st_all hx m s hs) W' ((HR.out.below H).below hb))
    rw [hkk] at FR
    have FR := Aside0.mk FR
    have hE : stE x = srE x.k.toNat (stSt x) noS := by unfold stE; rw [if_pos h0]
    have hV : stV x = srV x.k.toNat (stSt x) noS (stG x) := by unfold stV; rw [if_pos h0]
    rw [hE, hV]
    rw [h0] at CK
    generalize srV x.k.toNat (stSt x) noS (stG x) = V at *
    generalize srE x.k.toNat (stSt x) noS = E at *
    clear hE hV hx hr h0 hkk hz
    go_enter Try.func46, Try.ntmps46
    go_wp2_with (refine ld_au _ rfl w.heap.size rfl (H0.out.at 1 rfl) rfl ?_)
    refine CK.out.mono ?_
    rintro e w1 ⟨rfl, hb⟩
    have H1 := Lib.hid (H0.out.keep hb)
    have H2 := Lib.hid (H1.out.alloc (.cells #[.int .i64 5, .int .i64 x.k, .slice A x.next.length c, .slice B x.acc.length d, .int .i64 0, .slice none 0 0, .slice none 0 0] 77))
    clear hb CK H0
    go_wp2_with (first | ((with_reducible refine gate_ld (t := 25) rfl ?_); refine ld_au _ rfl w.heap.size rfl (H1.out.at 1 rfl) rfl ?_) | ((with_reducible refine gate_st (t := 77) rfl ?_); refine st_sp_new (kd := 5) (k := x.k) (k2 := 0) (s1 := .slice A x.next.length c) (s2 := .slice B x.acc.length d) (s4 := .slice none 0 0) (s5 := .slice none 0 0) _ _ rfl rfl rfl rfl ⟨rfl, rfl, rfl, rfl⟩ rfl ?_) | ((with_reducible refine gate_ld (t := 77) rfl ?_); refine ld_sp (kd := 5) (k := x.k) (k2 := 0) (s1 := .slice A x.next.length c) (s2 := .slice B x.acc.length d) (s4 := .slice none 0 0) (s5 := .slice none 0 0) _ rfl w1.heap.size rfl (H2.out.at 0 rfl) rfl ?_))
    refine (FR.out _ H2.out.2).mono ?_
    rintro e w3 ⟨vn, va, rfl, hn, ha, hb⟩
    obtain ⟨An, cn, rfl⟩ := Kd.R_slice hn
    obtain ⟨Aa, ca, rfl⟩ := Kd.R_slice ha
    have H3 := Lib.hid (H2.out.keep hb)
    have HS := Lib.hid (show w3.heap[w.heap.size + 1]? = some (.cells #[.int .i64 0, .slice none 0 0, .slice none 0 0] 25 (0, 0)) from H3.out.at 1 rfl)
    have HN := Aside0.mk (Kd.R_lower hn H2.out.2.size)
    have HA := Aside0.mk (Kd.R_lower ha H2.out.2.size)
    clear hn ha hb FR H1 H2
    go_wp2_with ((with_reducible refine gate_st (t := 25) rfl ?_); refine wpList_store_row rfl 25 _ _ rfl (w.heap.size + 1) (ac V An cn Aa ca) rfl rfl 25 _ HS.out (by show _ = some 3; kernel_rfl) rfl (by simp [Value.oneCell']) ?_)
    refine bodyPost_ret (v := .tuple #[.agg (ac V An cn Aa ca), .int .i64 E]) ?_ rfl ⟨_, _, rfl, own_rowT HS.out HN.out (by decide) rfl _, own_rowT HS.out HA.out (by decide) rfl _, bl_row H3.out.2 (by omega) _⟩
    refine (results_cell_tmp (p := 2) (t := 3) (by rfl) _ _ (w.heap.size + 1) 25 _ _ _ ?_ (setRow_heap _ _ _ _ _ _ HS.out) Try.underlying25 rfl (by show _ = some 3; kernel_rfl)).trans ?_ <;> rfl
  · have h80 : autE x = 80 := autE_no (fun h => h0 (autE_ok h))
    have hE : stE x = 80 := by unfold stE; rw [if_neg h0]
    have hV : stV x = ⟨0, [], []⟩ := by unfold stV; rw [if_neg h0]
    rw [hE, hV]
    rw [h80] at CK
    clear hE hV hr h0 h80
    go_enter Try.func46, Try.ntmps46
    go_wp2_with (refine ld_au _ rfl w.heap.size rfl (H0.out.at 1 rfl) rfl ?_)
    refine CK.out.mono ?_
    rintro e w1 ⟨rfl, hb⟩
    have H1 := Lib.hid (H0.out.keep hb)
    have HS := Lib.hid (show w1.heap[w.heap.size + 1]? = some (.cells #[.int .i64 0, .slice none 0 0, .slice none 0 0] 25 (0, 0)) from H1.out.at 0 rfl)
    clear hb CK H0
    go_wp2_with ((with_reducible refine gate_st (t := 25) rfl ?_); refine wpList_store_row rfl 25 _ _ rfl (w.heap.size + 1) #[.int .i64 0, .slice none 0 0, .slice none 0 0] rfl rfl 25 _ HS.out (by show _ = some 3; kernel_rfl) rfl (by simp [Value.oneCell']) ?_)
    refine bodyPost_ret (v := .tuple #[.agg #[.int .i64 0, .slice none 0 0, .slice none 0 0], .int .i64 80]) ?_ rfl ⟨_, _, rfl, Kd.R_nil _ _ _ _ _, Kd.R_nil _ _ _ _ _, bl_row H1.out.2 (by omega) _⟩
    refine (results_cell_tmp (p := 2) (t := 3) (by rfl) _ _ (w.heap.size + 1) 25 _ _ _ ?_ (setRow_heap _ _ _ _ _ _ HS.out) Try.underlying25 rfl (by show _ = some 3; kernel_rfl)).trans ?_ <;> rfl
end Go.Proofs.Ytjckidjljkjhfaa
