/- The walks of auto.product, Both, Either and But. -/
import Derived.Test.YtjckidjljkjhfaaPrW
namespace Go.Proofs.Ytjckidjljkjhfaa
open Go.RowKit Go.Proofs.YtjckidjljkjhfaaW.PrintWords
set_option linter.unusedSimpArgs false
set_option linter.unusedVariables false
noncomputable def prE (x y : AutV) : Int := if twoE x y = 0 then srE x.k.toNat (pst x y) (0, 0) else twoE x y
noncomputable def prV (g : Bool → Bool → Bool) (x y : AutV) : AutV := if twoE x y = 0 then srV x.k.toNat (pst x y) (0, 0) (pgd g x y) else noV
theorem two_is {x y : AutV} (h : twoE x y = 0) : AutOk x ∧ AutOk y ∧ x.k = y.k := by
  unfold twoE at h
  by_cases h1 : autE x = 0
  · rw [if_pos h1] at h
    by_cases h2 : autE y = 0
    · rw [if_pos h2] at h
      by_cases h3 : x.k = y.k
      · exact ⟨autE_is h1, autE_is h2, h3⟩
      · rw [if_neg h3] at h; cases h
    · rw [if_neg h2] at h; cases h
  · rw [if_neg h1] at h; cases h
theorem p_all {x y : AutV} (hx : AutOk x) (hy : AutOk y) (hk : x.k = y.k) (m : Nat) : ∀ s ∈ bs x.k.toNat (pst x y) (0, 0) m, s.1 < x.acc.length ∧ s.2 < y.acc.length :=
  bs_all (by have := hx.1; omega) (fun s : Nat × Nat => s.1 < x.acc.length ∧ s.2 < y.acc.length) ⟨by have := hx.2.2.1; show 0 < _; omega, by have := hy.2.2.1; show 0 < _; omega⟩ (fun s l hs hl => ⟨(stp_lt hx hs.1 (by have := hx.1; omega)).1, (stp_lt hy hs.2 (by have := hx.1; omega)).1⟩) m
set_option maxRecDepth 100000 in
set_option maxHeartbeats 800000 in
theorem product_any (x y : AutV) (A : Option Addr) (c : Nat) (B : Option Addr) (d : Nat) (X : Option Addr) (xc : Nat) (Y : Option Addr) (yc : Nat) (g : Bool → Bool → Bool) (fg : FuncId) (w : World) (hr : ARd w x A B) (hr' : ARd w y X Y)
    (heg : ∀ args W, (callFunc fg args).run Try.prog W = .ok (.enter fg args) W) (HG : ∀ (p q : Bool) (W : World), Calls Try.prog fg #[.bool p, .bool q] W fun e w' => e = .returned (.bool (g p q)) ∧ Below W.heap.size W w') :
    Calls Try.prog 69 #[.agg (ac x A c B d), .agg (ac y X xc Y yc), .func (.func fg) #[] #[]] w fun e w' => ∃ vn va, e = .returned (.tuple #[.agg #[.int .i64 (prV g x y).k, vn, va], .int .i64 (prE x y)]) ∧
      Own w' w.heap.size vn (prV g x y).next ∧ Kd.R Kd.bool 4 w' w.heap.size (fun _ => True) va (prV g x y).acc ∧ Below w.heap.size w w' := by
  have HR := Aside0.mk hr; have HR' := Aside0.mk hr'
  have h00 := ((((Hp.start w).alloc (AB x A c B d)).alloc (AB y X xc Y yc)).alloc (.cells #[.func (.func fg) #[] #[]] 84)).alloc (.cells #[.int .i64 0, .slice none 0 0, .slice none 0 0] 25)
  rw [World.size_alloc, World.size_alloc, World.size_alloc] at h00
  have H0 := Lib.hid h00
  clear h00
  have CB := Aside0.mk (checkBoth_any x y A c B d X xc Y yc ((((w.alloc (AB x A c B d)).alloc (AB y X xc Y yc)).alloc (.cells #[.func (.func fg) #[] #[]] 84)).alloc (.cells #[.int .i64 0, .slice none 0 0, .slice none 0 0] 25)) (hr.below H0.out.2) (hr'.below H0.out.2))
  by_cases h0 : twoE x y = 0
  · obtain ⟨hx, hy, hk⟩ := two_is h0
    have hkk : ((x.k.toNat : Nat) : Int) = x.k := by have := hx.1; omega
    have SR := fun (W : World) (gk : Nat) (H : Hp [(gk, .cells #[.int .i64 x.k] 3), (w.heap.size + 1 + 1 + 1, .cells #[.int .i64 0, .slice none 0 0, .slice none 0 0] 25), (w.heap.size + 1 + 1, .cells #[.func (.func fg) #[] #[]] 84), (w.heap.size + 1, AB y X xc Y yc), (w.heap.size, AB x A c B d)] w W) =>
      searchP_any x.k.toNat (by have := hx.1; omega) (by have := hx.2.1; omega) (pst x y) (0, 0) (pgd g x y) 94 95 #[.pointer (some ⟨w.heap.size, 0, none⟩), .pointer (some ⟨gk, 0, none⟩), .pointer (some ⟨w.heap.size + 1, 0, none⟩)] #[.pointer (some ⟨w.heap.size + 1 + 1, 0, none⟩), .pointer (some ⟨w.heap.size, 0, none⟩), .pointer (some ⟨w.heap.size + 1, 0, none⟩)] W
        (fun m s hs => keyP s (by have h1 := (p_all hx hy hk m s hs).1; have := hx.2.2.2.1; omega) (by have h1 := (p_all hx hy hk m s hs).2; have := hy.2.2.2.1; omega)) (fun args W => by kernel_rfl) (fun args W => by kernel_rfl)
        (fun s m l hs hl W' hb => prodN_any x y A c B d X xc Y yc w.heap.size (w.heap.size + 1) gk hx hy hk.symm W' (hp_below' hb (H.at 4 rfl)) (hp_below' hb (H.at 3 rfl)) (hp_below' hb (H.at 0 rfl)) ((HR.out.below H.2).below hb) ((HR'.out.below H.2).below hb) s l (p_all hx hy hk m s hs).1 (p_all hx hy hk m s hs).2 (by omega))
        (fun s m hs W' hb => prodG_any x y A c B d X xc Y yc w.heap.size (w.heap.size + 1) (w.heap.size + 1 + 1) g fg W' (hp_below' hb (H.at 4 rfl)) (hp_below' hb (H.at 3 rfl)) (hp_below' hb (H.at 2 rfl)) ((HR.out.below H.2).below hb) ((HR'.out.below H.2).below hb) heg HG s (p_all hx hy hk m s hs).1 (p_all hx hy hk m s hs).2)
    rw [hkk] at SR
    replace SR := Aside0.mk SR
    have hE : prE x y = srE x.k.toNat (pst x y) (0, 0) := by unfold prE; rw [if_pos h0]
    have hV : prV g x y = srV x.k.toNat (pst x y) (0, 0) (pgd g x y) := by unfold prV; rw [if_pos h0]
    rw [hE, hV]
    rw [h0] at CB
    have hcc : ccP (0, 0) = #[.int .i64 0, .int .i64 0] := rfl
    rw [hcc] at SR
    generalize srV x.k.toNat (pst x y) (0, 0) (pgd g x y) = V at *
    generalize srE x.k.toNat (pst x y) (0, 0) = E at *
    clear hE hV hx hy hk hr hr' h0 HG hkk hcc
    go_enter Try.func69, Try.ntmps69
    go_wp2_with (first | (refine ld_au (y := x) _ rfl w.heap.size rfl (H0.out.at 3 rfl) rfl ?_) | (refine ld_au (y := y) _ rfl (w.heap.size + 1) rfl (H0.out.at 2 rfl) rfl ?_))
    refine CB.out.mono ?_
    rintro e w1 ⟨rfl, hb⟩
    have H1 := Lib.hid (H0.out.keep hb)
    have c0 : w1.cell? ⟨w.heap.size, 0, none⟩ = some (.int .i64 x.k) := by rw [cell_of_row _ _ _ _ _ _ (H1.out.at 3 rfl)]; rfl
    clear hb CB H0
    go_wp2_with fail
    have H2 := Lib.hid (H1.out.alloc (.cells #[.int .i64 x.k] 3))
    refine (SR.out _ w1.heap.size H2.out).mono ?_
    rintro e w3 ⟨vn, va, rfl, hn, ha, hb⟩
    obtain ⟨An, cn, rfl⟩ := Kd.R_slice hn
    obtain ⟨Aa, ca, rfl⟩ := Kd.R_slice ha
    have H3 := Lib.hid (H2.out.keep hb)
    have HS := Lib.hid (show w3.heap[w.heap.size + 1 + 1 + 1]? = some (.cells #[.int .i64 0, .slice none 0 0, .slice none 0 0] 25 (0, 0)) from H3.out.at 1 rfl)
    have HN := Aside0.mk (Kd.R_lower hn H2.out.2.size)
    have HA := Aside0.mk (Kd.R_lower ha H2.out.2.size)
    clear hn ha hb SR H1 H2 c0
    go_wp2_with ((with_reducible refine gate_st (t := 25) rfl ?_); refine wpList_store_row rfl 25 _ _ rfl (w.heap.size + 1 + 1 + 1) (ac V An cn Aa ca) rfl rfl 25 _ HS.out (by show _ = some 3; kernel_rfl) rfl (by simp [Value.oneCell']) ?_)
    refine bodyPost_ret (v := .tuple #[.agg (ac V An cn Aa ca), .int .i64 E]) ?_ rfl ⟨_, _, rfl, own_rowT HS.out HN.out (by decide) rfl _, own_rowT HS.out HA.out (by decide) rfl _, bl_row H3.out.2 (by omega) _⟩
    refine (results_cell_tmp (p := 6) (t := 7) (by rfl) _ _ (w.heap.size + 1 + 1 + 1) 25 _ _ _ ?_ (setRow_heap _ _ _ _ _ _ HS.out) Try.underlying25 rfl (by show _ = some 3; kernel_rfl)).trans ?_ <;> rfl
  · have hE : prE x y = twoE x y := by unfold prE; rw [if_neg h0]
    have hV : prV g x y = noV := by unfold prV; rw [if_neg h0]
    rw [hE, hV]
    have hb1 : (twoE x y == 0) = false := by rw [beq_eq_false_iff_ne]; exact h0
    generalize twoE x y = r at *
    clear hE hV hr hr' HG
    go_enter Try.func69, Try.ntmps69
    go_wp2_with (first | (refine ld_au (y := x) _ rfl w.heap.size rfl (H0.out.at 3 rfl) rfl ?_) | (refine ld_au (y := y) _ rfl (w.heap.size + 1) rfl (H0.out.at 2 rfl) rfl ?_))
    refine CB.out.mono ?_
    rintro e w1 ⟨rfl, hb⟩
    have H1 := Lib.hid (H0.out.keep hb)
    have HS := Lib.hid (show w1.heap[w.heap.size + 1 + 1 + 1]? = some (.cells #[.int .i64 0, .slice none 0 0, .slice none 0 0] 25 (0, 0)) from H1.out.at 0 rfl)
    clear hb CB H0
    go_wp2_with ((with_reducible refine gate_st (t := 25) rfl ?_); refine wpList_store_row rfl 25 _ _ rfl (w.heap.size + 1 + 1 + 1) #[.int .i64 0, .slice none 0 0, .slice none 0 0] rfl rfl 25 _ HS.out (by show _ = some 3; kernel_rfl) rfl (by simp [Value.oneCell']) ?_)
    refine bodyPost_ret (v := .tuple #[.agg #[.int .i64 0, .slice none 0 0, .slice none 0 0], .int .i64 r]) ?_ rfl ⟨_, _, rfl, Kd.R_nil _ _ _ _ _, Kd.R_nil _ _ _ _ _, bl_row H1.out.2 (by omega) _⟩
    refine (results_cell_tmp (p := 6) (t := 7) (by rfl) _ _ (w.heap.size + 1 + 1 + 1) 25 _ _ _ ?_ (setRow_heap _ _ _ _ _ _ HS.out) Try.underlying25 rfl (by show _ = some 3; kernel_rfl)).trans ?_ <;> rfl
/-- What is asked of two accepted states. -/
def andB (p q : Bool) : Bool := p && q
def orB (p q : Bool) : Bool := p || q
def butB (p q : Bool) : Bool := p && !q
set_option maxRecDepth 100000 in
set_option maxHeartbeats 400000 in
theorem both_any (x y : AutV) (A : Option Addr) (c : Nat) (B : Option Addr) (d : Nat) (X : Option Addr) (xc : Nat) (Y : Option Addr) (yc : Nat) (w : World) (hr : ARd w x A B) (hr' : ARd w y X Y) :
    Calls Try.prog 36 #[.agg (ac x A c B d), .agg (ac y X xc Y yc)] w fun e w' => ∃ vn va, e = .returned (.tuple #[.agg #[.int .i64 (prV andB x y).k, vn, va], .int .i64 (prE x y)]) ∧
      Own w' w.heap.size vn (prV andB x y).next ∧ Kd.R Kd.bool 4 w' w.heap.size (fun _ => True) va (prV andB x y).acc ∧ Below w.heap.size w w' := by
  have h00 := (((Hp.start w).alloc (AB x A c B d)).alloc (AB y X xc Y yc)).alloc (.cells #[.int .i64 0, .slice none 0 0, .slice none 0 0] 25)
  rw [World.size_alloc, World.size_alloc] at h00
  have H0 := Lib.hid h00
  clear h00
  have PR := Aside0.mk (product_any x y A c B d X xc Y yc andB 70 (((w.alloc (AB x A c B d)).alloc (AB y X xc Y yc)).alloc (.cells #[.int .i64 0, .slice none 0 0, .slice none 0 0] 25)) (hr.below H0.out.2) (hr'.below H0.out.2) (fun args W => by kernel_rfl) (fun p q W => bothG_any p q W))
  generalize prV andB x y = V at *
  generalize prE x y = E at *
  clear hr hr'
  go_enter Try.func36, Try.ntmps36
  go_wp2_with (first | (refine ld_au (y := x) _ rfl w.heap.size rfl (H0.out.at 2 rfl) rfl ?_) | (refine ld_au (y := y) _ rfl (w.heap.size + 1) rfl (H0.out.at 1 rfl) rfl ?_))
  refine PR.out.mono ?_
  rintro e w3 ⟨vn, va, rfl, hn, ha, hb⟩
  obtain ⟨An, cn, rfl⟩ := Kd.R_slice hn
  obtain ⟨Aa, ca, rfl⟩ := Kd.R_slice ha
  have H2 := Lib.hid (H0.out.keep hb)
  have HS := Lib.hid (show w3.heap[w.heap.size + 1 + 1]? = some (.cells #[.int .i64 0, .slice none 0 0, .slice none 0 0] 25 (0, 0)) from H2.out.at 0 rfl)
  have HN := Aside0.mk (Kd.R_lower hn H0.out.2.size)
  have HA := Aside0.mk (Kd.R_lower ha H0.out.2.size)
  clear hn ha hb PR H0
  go_wp2_with ((with_reducible refine gate_st (t := 25) rfl ?_); refine wpList_store_row rfl 25 _ _ rfl (w.heap.size + 1 + 1) (ac V An cn Aa ca) rfl rfl 25 _ HS.out (by show _ = some 3; kernel_rfl) rfl (by simp [Value.oneCell']) ?_)
  refine bodyPost_ret (v := .tuple #[.agg (ac V An cn Aa ca), .int .i64 E]) ?_ rfl ⟨_, _, rfl, own_rowT HS.out HN.out (by decide) rfl _, own_rowT HS.out HA.out (by decide) rfl _, bl_row H2.out.2 (by omega) _⟩
  refine (results_cell_tmp (p := 4) (t := 5) (by rfl) _ _ (w.heap.size + 1 + 1) 25 _ _ _ ?_ (setRow_heap _ _ _ _ _ _ HS.out) Try.underlying25 rfl (by show _ = some 3; kernel_rfl)).trans ?_ <;> rfl
set_option maxRecDepth 100000 in
set_option maxHeartbeats 400000 in
theorem either_any (x y : AutV) (A : Option Addr) (c : Nat) (B : Option Addr) (d : Nat) (X : Option Addr) (xc : Nat) (Y : Option Addr) (yc : Nat) (w : World) (hr : ARd w x A B) (hr' : ARd w y X Y) :
    Calls Try.prog 37 #[.agg (ac x A c B d), .agg (ac y X xc Y yc)] w fun e w' => ∃ vn va, e = .returned (.tuple #[.agg #[.int .i64 (prV orB x y).k, vn, va], .int .i64 (prE x y)]) ∧
      Own w' w.heap.size vn (prV orB x y).next ∧ Kd.R Kd.bool 4 w' w.heap.size (fun _ => True) va (prV orB x y).acc ∧ Below w.heap.size w w' := by
  have h00 := (((Hp.start w).alloc (AB x A c B d)).alloc (AB y X xc Y yc)).alloc (.cells #[.int .i64 0, .slice none 0 0, .slice none 0 0] 25)
  rw [World.size_alloc, World.size_alloc] at h00
  have H0 := Lib.hid h00
  clear h00
  have PR := Aside0.mk (product_any x y A c B d X xc Y yc orB 71 (((w.alloc (AB x A c B d)).alloc (AB y X xc Y yc)).alloc (.cells #[.int .i64 0, .slice none 0 0, .slice none 0 0] 25)) (hr.below H0.out.2) (hr'.below H0.out.2) (fun args W => by kernel_rfl) (fun p q W => eitherG_any p q W))
  generalize prV orB x y = V at *
  generalize prE x y = E at *
  clear hr hr'
  go_enter Try.func37, Try.ntmps37
  go_wp2_with (first | (refine ld_au (y := x) _ rfl w.heap.size rfl (H0.out.at 2 rfl) rfl ?_) | (refine ld_au (y := y) _ rfl (w.heap.size + 1) rfl (H0.out.at 1 rfl) rfl ?_))
  refine PR.out.mono ?_
  rintro e w3 ⟨vn, va, rfl, hn, ha, hb⟩
  obtain ⟨An, cn, rfl⟩ := Kd.R_slice hn
  obtain ⟨Aa, ca, rfl⟩ := Kd.R_slice ha
  have H2 := Lib.hid (H0.out.keep hb)
  have HS := Lib.hid (show w3.heap[w.heap.size + 1 + 1]? = some (.cells #[.int .i64 0, .slice none 0 0, .slice none 0 0] 25 (0, 0)) from H2.out.at 0 rfl)
  have HN := Aside0.mk (Kd.R_lower hn H0.out.2.size)
  have HA := Aside0.mk (Kd.R_lower ha H0.out.2.size)
  clear hn ha hb PR H0
  go_wp2_with ((with_reducible refine gate_st (t := 25) rfl ?_); refine wpList_store_row rfl 25 _ _ rfl (w.heap.size + 1 + 1) (ac V An cn Aa ca) rfl rfl 25 _ HS.out (by show _ = some 3; kernel_rfl) rfl (by simp [Value.oneCell']) ?_)
  refine bodyPost_ret (v := .tuple #[.agg (ac V An cn Aa ca), .int .i64 E]) ?_ rfl ⟨_, _, rfl, own_rowT HS.out HN.out (by decide) rfl _, own_rowT HS.out HA.out (by decide) rfl _, bl_row H2.out.2 (by omega) _⟩
  refine (results_cell_tmp (p := 4) (t := 5) (by rfl) _ _ (w.heap.size + 1 + 1) 25 _ _ _ ?_ (setRow_heap _ _ _ _ _ _ HS.out) Try.underlying25 rfl (by show _ = some 3; kernel_rfl)).trans ?_ <;> rfl
set_option maxRecDepth 100000 in
set_option maxHeartbeats 400000 in
theorem but_any (x y : AutV) (A : Option Addr) (c : Nat) (B : Option Addr) (d : Nat) (X : Option Addr) (xc : Nat) (Y : Option Addr) (yc : Nat) (w : World) (hr : ARd w x A B) (hr' : ARd w y X Y) :
    Calls Try.prog 38 #[.agg (ac x A c B d), .agg (ac y X xc Y yc)] w fun e w' => ∃ vn va, e = .returned (.tuple #[.agg #[.int .i64 (prV butB x y).k, vn, va], .int .i64 (prE x y)]) ∧
      Own w' w.heap.size vn (prV butB x y).next ∧ Kd.R Kd.bool 4 w' w.heap.size (fun _ => True) va (prV butB x y).acc ∧ Below w.heap.size w w' := by
  have h00 := (((Hp.start w).alloc (AB x A c B d)).alloc (AB y X xc Y yc)).alloc (.cells #[.int .i64 0, .slice none 0 0, .slice none 0 0] 25)
  rw [World.size_alloc, World.size_alloc] at h00
  have H0 := Lib.hid h00
  clear h00
  have PR := Aside0.mk (product_any x y A c B d X xc Y yc butB 72 (((w.alloc (AB x A c B d)).alloc (AB y X xc Y yc)).alloc (.cells #[.int .i64 0, .slice none 0 0, .slice none 0 0] 25)) (hr.below H0.out.2) (hr'.below H0.out.2) (fun args W => by kernel_rfl) (fun p q W => butG_any p q W))
  generalize prV butB x y = V at *
  generalize prE x y = E at *
  clear hr hr'
  go_enter Try.func38, Try.ntmps38
  go_wp2_with (first | (refine ld_au (y := x) _ rfl w.heap.size rfl (H0.out.at 2 rfl) rfl ?_) | (refine ld_au (y := y) _ rfl (w.heap.size + 1) rfl (H0.out.at 1 rfl) rfl ?_))
  refine PR.out.mono ?_
  rintro e w3 ⟨vn, va, rfl, hn, ha, hb⟩
  obtain ⟨An, cn, rfl⟩ := Kd.R_slice hn
  obtain ⟨Aa, ca, rfl⟩ := Kd.R_slice ha
  have H2 := Lib.hid (H0.out.keep hb)
  have HS := Lib.hid (show w3.heap[w.heap.size + 1 + 1]? = some (.cells #[.int .i64 0, .slice none 0 0, .slice none 0 0] 25 (0, 0)) from H2.out.at 0 rfl)
  have HN := Aside0.mk (Kd.R_lower hn H0.out.2.size)
  have HA := Aside0.mk (Kd.R_lower ha H0.out.2.size)
  clear hn ha hb PR H0
  go_wp2_with ((with_reducible refine gate_st (t := 25) rfl ?_); refine wpList_store_row rfl 25 _ _ rfl (w.heap.size + 1 + 1) (ac V An cn Aa ca) rfl rfl 25 _ HS.out (by show _ = some 3; kernel_rfl) rfl (by simp [Value.oneCell']) ?_)
  refine bodyPost_ret (v := .tuple #[.agg (ac V An cn Aa ca), .int .i64 E]) ?_ rfl ⟨_, _, rfl, own_rowT HS.out HN.out (by decide) rfl _, own_rowT HS.out HA.out (by decide) rfl _, bl_row H2.out.2 (by omega) _⟩
  refine (results_cell_tmp (p := 4) (t := 5) (by rfl) _ _ (w.heap.size + 1 + 1) 25 _ _ _ ?_ (setRow_heap _ _ _ _ _ _ HS.out) Try.underlying25 rfl (by show _ = some 3; kernel_rfl)).trans ?_ <;> rfl
end Go.Proofs.Ytjckidjljkjhfaa
