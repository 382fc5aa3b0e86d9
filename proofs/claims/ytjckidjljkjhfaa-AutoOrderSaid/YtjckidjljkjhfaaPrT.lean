/- The reference's Two and Product. -/
import Derived.Test.YtjckidjljkjhfaaPrS
namespace Go.Proofs.Ytjckidjljkjhfaa
open Go.RowKit Go.Proofs.YtjckidjljkjhfaaW.PrintWords
set_option linter.unusedSimpArgs false
set_option linter.unusedVariables false
set_option maxRecDepth 100000 in
set_option maxHeartbeats 400000 in
theorem rtwo_any (x y : AutV) (A : Option Addr) (c : Nat) (B : Option Addr) (d : Nat) (X : Option Addr) (xc : Nat) (Y : Option Addr) (yc : Nat) (hz : AutSz x c d) (hz' : AutSz y xc yc) (w : World) (hr : ARd w x A B) (hr' : ARd w y X Y) :
    Calls Try.prog 40 #[.agg (ac x A c B d), .agg (ac y X xc Y yc)] w fun e w' => e = .returned (.int .i64 (twoE x y)) ∧ Below w.heap.size w w' := by
  have h00 := ((Hp.start w).alloc (AB x A c B d)).alloc (AB y X xc Y yc)
  rw [World.size_alloc] at h00
  have H0 := Lib.hid h00
  clear h00
  have CX := Aside0.mk (rcheck8_any x A c B d hz ((w.alloc (AB x A c B d)).alloc (AB y X xc Y yc)) (hr.below H0.out.2))
  have CY := Aside0.mk (fun (W : World) (h : Below w.heap.size w W) => rcheck8_any y X xc Y yc hz' W (hr'.below h))
  by_cases h1 : autE x = 0
  · rw [h1] at CX
    by_cases h2 : autE y = 0
    · rw [h2] at CY
      have hE : twoE x y = if x.k = y.k then 0 else 20 := by unfold twoE; rw [if_pos h1, if_pos h2]
      rw [hE]
      by_cases h3 : x.k = y.k
      · rw [if_pos h3]
        have hd : (x.k != y.k) = false := by rw [bne_eq_false_iff_eq]; exact h3
        clear h1 h2 hE hr hr' h3
        go_enter Try.func40, Try.ntmps40
        go_wp2_with (refine ld_au _ rfl w.heap.size rfl (H0.out.at 1 rfl) rfl ?_)
        refine CX.out.mono ?_
        rintro e w1 ⟨rfl, hb⟩
        have H1 := Lib.hid (H0.out.keep hb)
        clear hb CX H0
        go_wp2_with (refine ld_au _ rfl (w.heap.size + 1) rfl (H1.out.at 0 rfl) rfl ?_)
        refine (CY.out _ H1.out.2).mono ?_
        rintro e w2 ⟨rfl, hb⟩
        have H2 := Lib.hid (H1.out.keep hb)
        have c0 : w2.cell? ⟨w.heap.size, 0, none⟩ = some (.int .i64 x.k) := by rw [cell_of_row _ _ _ _ _ _ (H2.out.at 1 rfl)]; rfl
        have c1 : w2.cell? ⟨w.heap.size + 1, 0, none⟩ = some (.int .i64 y.k) := by rw [cell_of_row _ _ _ _ _ _ (H2.out.at 0 rfl)]; rfl
        clear hb CY H1
        go_wp2
        go_ret
        exact ⟨rfl, H2.out.2⟩
      · rw [if_neg h3]
        have hd : (x.k != y.k) = true := by rw [bne_iff_ne]; exact h3
        clear h1 h2 hE hr hr' h3
        go_enter Try.func40, Try.ntmps40
        go_wp2_with (refine ld_au _ rfl w.heap.size rfl (H0.out.at 1 rfl) rfl ?_)
        refine CX.out.mono ?_
        rintro e w1 ⟨rfl, hb⟩
        have H1 := Lib.hid (H0.out.keep hb)
        clear hb CX H0
        go_wp2_with (refine ld_au _ rfl (w.heap.size + 1) rfl (H1.out.at 0 rfl) rfl ?_)
        refine (CY.out _ H1.out.2).mono ?_
        rintro e w2 ⟨rfl, hb⟩
        have H2 := Lib.hid (H1.out.keep hb)
        have c0 : w2.cell? ⟨w.heap.size, 0, none⟩ = some (.int .i64 x.k) := by rw [cell_of_row _ _ _ _ _ _ (H2.out.at 1 rfl)]; rfl
        have c1 : w2.cell? ⟨w.heap.size + 1, 0, none⟩ = some (.int .i64 y.k) := by rw [cell_of_row _ _ _ _ _ _ (H2.out.at 0 rfl)]; rfl
        clear hb CY H1
        go_wp2
        go_ret
        exact ⟨rfl, H2.out.2⟩
    · have hE : twoE x y = 80 := by unfold twoE; rw [if_pos h1, if_neg h2]
      rw [hE]
      have h80 : autE y = 80 := autE_no (fun h => h2 (autE_ok h))
      rw [h80] at CY
      clear h1 h2 hE hr hr' h80
      go_enter Try.func40, Try.ntmps40
      go_wp2_with (refine ld_au _ rfl w.heap.size rfl (H0.out.at 1 rfl) rfl ?_)
      refine CX.out.mono ?_
      rintro e w1 ⟨rfl, hb⟩
      have H1 := Lib.hid (H0.out.keep hb)
      clear hb CX H0
      go_wp2_with (refine ld_au _ rfl (w.heap.size + 1) rfl (H1.out.at 0 rfl) rfl ?_)
      refine (CY.out _ H1.out.2).mono ?_
      rintro e w2 ⟨rfl, hb⟩
      have H2 := Lib.hid (H1.out.keep hb)
      clear hb CY H1
      go_wp2
      go_ret
      exact ⟨rfl, H2.out.2⟩
  · have hE : twoE x y = 80 := by unfold twoE; rw [if_neg h1]
    rw [hE]
    have h80 : autE x = 80 := autE_no (fun h => h1 (autE_ok h))
    rw [h80] at CX
    clear h1 hE hr hr' h80
    go_enter Try.func40, Try.ntmps40
    go_wp2_with (refine ld_au _ rfl w.heap.size rfl (H0.out.at 1 rfl) rfl ?_)
    refine CX.out.mono ?_
    rintro e w1 ⟨rfl, hb⟩
    have H1 := Lib.hid (H0.out.keep hb)
    clear hb CX H0
    go_wp2
    go_ret
    exact ⟨rfl, H1.out.2⟩
set_option maxRecDepth 100000 in
set_option maxHeartbeats 800000 in
theorem rproduct_any (how : Int) (hhow : how = 1 ∨ how = 2 ∨ how = 3) (x y : AutV) (A : Option Addr) (c : Nat) (B : Option Addr) (d : Nat) (X : Option Addr) (xc : Nat) (Y : Option Addr) (yc : Nat) (hz : AutSz x c d) (hz' : AutSz y xc yc) (w : World) (hr : ARd w x A B) (hr' : ARd w y X Y) :
    Calls Try.prog 39 #[.agg (ac x A c B d), .agg (ac y X xc Y yc), .int .i64 how] w fun e w' => ∃ vn va, e = .returned (.tuple #[.agg #[.int .i64 (prV (hwB how) x y).k, vn, va], .int .i64 (prE x y)]) ∧
      Own w' w.heap.size vn (prV (hwB how) x y).next ∧ Kd.R Kd.bool 4 w' w.heap.size (fun _ => True) va (prV (hwB how) x y).acc ∧ Below w.heap.size w w' := by
  have HR := Aside0.mk hr; have HR' := Aside0.mk hr'
  have h00 := (((Hp.start w).alloc (AB x A c B d)).alloc (AB y X xc Y yc)).alloc (.cells #[.int .i64 0, .slice none 0 0, .slice none 0 0] 25)
  rw [World.size_alloc, World.size_alloc] at h00
  have H0 := Lib.hid h00
  clear h00
  have CB := Aside0.mk (rtwo_any x y A c B d X xc Y yc hz hz' (((w.alloc (AB x A c B d)).alloc (AB y X xc Y yc)).alloc (.cells #[.int .i64 0, .slice none 0 0, .slice none 0 0] 25)) (hr.below H0.out.2) (hr'.below H0.out.2))
  by_cases h0 : twoE x y = 0
  · obtain ⟨hx, hy, hk⟩ := two_is h0
    have hkk : ((x.k.toNat : Nat) : Int) = x.k := by have := hx.1; omega
    have FR := fun (W : World) (H : Below w.heap.size w W) => rsearch_any nm2 2 x.k.toNat (by have := hx.1; omega) (by have := hx.2.1; omega) (.slice A x.next.length c) (.slice B x.acc.length d) (.slice X y.next.length xc) (.slice Y y.acc.length yc) y.k how (pst x y) (0, 0) (pgd (hwB how) x y) W
      ⟨rfl, rfl, rfl, rfl⟩ (fun m s hs t ht he => by
        have h1 := p_all hx hy hk m s hs; have h2 := p_all hx hy hk m t ht; have h3 := hx.2.2.2.1; have h4 := hy.2.2.2.1
        exact nm2_inj (by omega) (by omega) (by omega) (by omega) he)
      (fun W' _ => rstart2_any _ y.k _ _ _ _ W')
      (fun s m l hs hl W' hb => by rw [hkk]; exact rstep2_any x y A c B d X xc Y yc hx hy hk.symm s l (p_all hx hy hk m s hs).1 (p_all hx hy hk m s hs).2 (by omega) W' ((HR.out.below H).below hb) ((HR'.out.below H).below hb))
      (fun s m hs W' hb => by rw [hkk]; exact rgood2_any how hhow x y A c B d X xc Y yc hx hy s (p_all hx hy hk m s hs).1 (p_all hx hy hk m s hs).2 W' ((HR.out.below H).below hb) ((HR'.out.below H).below hb))
    rw [hkk] at FR
    have FR := Aside0.mk FR
    have hE : prE x y = srE x.k.toNat (pst x y) (0, 0) := by unfold prE; rw [if_pos h0]
    have hV : prV (hwB how) x y = srV x.k.toNat (pst x y) (0, 0) (pgd (hwB how) x y) := by unfold prV; rw [if_pos h0]
    rw [hE, hV]
    rw [h0] at CB
    generalize srV x.k.toNat (pst x y) (0, 0) (pgd (hwB how) x y) = V at *
    generalize srE x.k.toNat (pst x y) (0, 0) = E at *
    have HKE := Lib.hid hk
    clear hE hV hx hy hk hr hr' h0 hkk hz hz' hhow
    go_enter Try.func39, Try.ntmps39
    go_wp2_with (first | (refine ld_au (y := x) _ rfl w.heap.size rfl (H0.out.at 2 rfl) rfl ?_) | (refine ld_au (y := y) _ rfl (w.heap.size + 1) rfl (H0.out.at 1 rfl) rfl ?_))
    refine CB.out.mono ?_
    rintro e w1 ⟨rfl, hb⟩
    have H1 := Lib.hid (H0.out.keep hb)
    have H2 := Lib.hid (H1.out.alloc (.cells #[.int .i64 2, .int .i64 x.k, .slice A x.next.length c, .slice B x.acc.length d, .int .i64 y.k, .slice X y.next.length xc, .slice Y y.acc.length yc] 77))
    clear hb CB H0
    go_wp2_with (first | ((with_reducible refine gate_ld (t := 25) rfl ?_); first | (refine ld_au (y := x) _ rfl w.heap.size rfl (H1.out.at 2 rfl) rfl ?_) | (refine ld_au (y := y) _ rfl (w.heap.size + 1) rfl (H1.out.at 1 rfl) rfl ?_)) | ((with_reducible refine gate_st (t := 77) rfl ?_); refine st_sp_new (kd := 2) (k := x.k) (k2 := y.k) (s1 := .slice A x.next.length c) (s2 := .slice B x.acc.length d) (s4 := .slice X y.next.length xc) (s5 := .slice Y y.acc.length yc) _ _ rfl rfl rfl rfl ⟨rfl, rfl, rfl, rfl⟩ rfl ?_) | ((with_reducible refine gate_ld (t := 77) rfl ?_); refine ld_sp (kd := 2) (k := x.k) (k2 := y.k) (s1 := .slice A x.next.length c) (s2 := .slice B x.acc.length d) (s4 := .slice X y.next.length xc) (s5 := .slice Y y.acc.length yc) _ rfl w1.heap.size rfl (H2.out.at 0 rfl) rfl ?_))
    refine (FR.out _ H2.out.2).mono ?_
    rintro e w3 ⟨vn, va, rfl, hn, ha, hb⟩
    obtain ⟨An, cn, rfl⟩ := Kd.R_slice hn
    obtain ⟨Aa, ca, rfl⟩ := Kd.R_slice ha
    have H3 := Lib.hid (H2.out.keep hb)
    have HS := Lib.hid (show w3.heap[w.heap.size + 1 + 1]? = some (.cells #[.int .i64 0, .slice none 0 0, .slice none 0 0] 25 (0, 0)) from H3.out.at 1 rfl)
    have HN := Aside0.mk (Kd.R_lower hn H2.out.2.size)
    have HA := Aside0.mk (Kd.R_lower ha H2.out.2.size)
    clear hn ha hb FR H1 H2
    go_wp2_with ((with_reducible refine gate_st (t := 25) rfl ?_); refine wpList_store_row rfl 25 _ _ rfl (w.heap.size + 1 + 1) (ac V An cn Aa ca) rfl rfl 25 _ HS.out (by show _ = some 3; kernel_rfl) rfl (by simp [Value.oneCell']) ?_)
    refine bodyPost_ret (v := .tuple #[.agg (ac V An cn Aa ca), .int .i64 E]) ?_ rfl ⟨_, _, rfl, own_rowT HS.out HN.out (by decide) rfl _, own_rowT HS.out HA.out (by decide) rfl _, bl_row H3.out.2 (by omega) _⟩
    refine (results_cell_tmp (p := 6) (t := 7) (by rfl) _ _ (w.heap.size + 1 + 1) 25 _ _ _ ?_ (setRow_heap _ _ _ _ _ _ HS.out) Try.underlying25 rfl (by show _ = some 3; kernel_rfl)).trans ?_ <;> rfl
  · have hE : prE x y = twoE x y := by unfold prE; rw [if_neg h0]
    have hV : prV (hwB how) x y = noV := by unfold prV; rw [if_neg h0]
    rw [hE, hV]
    have hb1 : (twoE x y != 0) = true := by rw [bne_iff_ne]; exact h0
    generalize twoE x y = r at *
    clear hE hV hr hr' hz hz' hhow
    go_enter Try.func39, Try.ntmps39
    go_wp2_with (first | (refine ld_au (y := x) _ rfl w.heap.size rfl (H0.out.at 2 rfl) rfl ?_) | (refine ld_au (y := y) _ rfl (w.heap.size + 1) rfl (H0.out.at 1 rfl) rfl ?_))
    refine CB.out.mono ?_
    rintro e w1 ⟨rfl, hb⟩
    have H1 := Lib.hid (H0.out.keep hb)
    have HS := Lib.hid (show w1.heap[w.heap.size + 1 + 1]? = some (.cells #[.int .i64 0, .slice none 0 0, .slice none 0 0] 25 (0, 0)) from H1.out.at 0 rfl)
    clear hb CB H0
    go_wp2_with ((with_reducible refine gate_st (t := 25) rfl ?_); refine wpList_store_row rfl 25 _ _ rfl (w.heap.size + 1 + 1) #[.int .i64 0, .slice none 0 0, .slice none 0 0] rfl rfl 25 _ HS.out (by show _ = some 3; kernel_rfl) rfl (by simp [Value.oneCell']) ?_)
    refine bodyPost_ret (v := .tuple #[.agg #[.int .i64 0, .slice none 0 0, .slice none 0 0], .int .i64 r]) ?_ rfl ⟨_, _, rfl, Kd.R_nil _ _ _ _ _, Kd.R_nil _ _ _ _ _, bl_row H1.out.2 (by omega) _⟩
    refine (results_cell_tmp (p := 6) (t := 7) (by rfl) _ _ (w.heap.size + 1 + 1) 25 _ _ _ ?_ (setRow_heap _ _ _ _ _ _ HS.out) Try.underlying25 rfl (by show _ = some 3; kernel_rfl)).trans ?_ <;> rfl
end Go.Proofs.Ytjckidjljkjhfaa
