/- The walk of the statement AutoProducts (printed by tools/gen_autoproducts.py). -/
import Derived.Test.YtjckidjljkjhfaaGiv
import Derived.Test.YtjckidjljkjhfaaPrT
namespace Go.Proofs.Ytjckidjljkjhfaa
open Go.RowKit Go.Proofs.YtjckidjljkjhfaaW.PrintWords
set_option linter.unusedSimpArgs false
set_option linter.unusedVariables false
theorem hw_one : hwB 1 = andB := rfl
theorem hw_two : hwB 2 = orB := rfl
theorem hw_thr : hwB 3 = butB := rfl
set_option maxRecDepth 100000 in
set_option maxHeartbeats 2000000 in
theorem autoProducts_any (w : World) (x : AutV) (A : Option Addr) (c : Nat) (B : Option Addr) (d : Nat) (hr : ARd w x A B) (hsz : AutSz x c d) (y : AutV) (C : Option Addr) (f : Nat) (D : Option Addr) (g : Nat) (hr' : ARd w y C D) (hsz' : AutSz y f g) :
    Calls Try.prog 7 #[.agg (ac x A c B d), .agg (ac y C f D g)] w fun e w' => e = .returned (.bool true) ∧ Below w.heap.size w w' := by
  have h00 := ((Hp.start w).alloc (AB x A c B d)).alloc (AB y C f D g)
  rw [World.size_alloc] at h00
  have HZ := Lib.hid hsz; have HZ' := Lib.hid hsz'
  have Gx0 := Aside0.mk ((⟨h00.at 1 rfl, hr.below h00.2⟩ : GvA x A c B d w.heap.size ((w.alloc (AB x A c B d)).alloc (AB y C f D g))))
  have Gy0 := Aside0.mk ((⟨h00.at 0 rfl, hr'.below h00.2⟩ : GvA y C f D g (w.heap.size + 1) ((w.alloc (AB x A c B d)).alloc (AB y C f D g))))
  have BE0 := Lib.hid (h00.2)
  have LN := Aside0.mk (fun (W : World) (h : ARd W x A B) => lenta_any x A c B d hsz W h)
  have LM := Aside0.mk (fun (W : World) (h : ARd W y C D) => lenta_any y C f D g hsz' W h)
  have BO := Aside0.mk (fun (X : Option Addr) (xc : Nat) (Y : Option Addr) (yc : Nat) (U : Option Addr) (uc : Nat) (V : Option Addr) (vc : Nat) (W : World) (h : ARd W x X Y) (h' : ARd W y U V) => both_any x y X xc Y yc U uc V vc W h h')
  have EI := Aside0.mk (fun (X : Option Addr) (xc : Nat) (Y : Option Addr) (yc : Nat) (U : Option Addr) (uc : Nat) (V : Option Addr) (vc : Nat) (W : World) (h : ARd W x X Y) (h' : ARd W y U V) => either_any x y X xc Y yc U uc V vc W h h')
  have BU := Aside0.mk (fun (X : Option Addr) (xc : Nat) (Y : Option Addr) (yc : Nat) (U : Option Addr) (uc : Nat) (V : Option Addr) (vc : Nat) (W : World) (h : ARd W x X Y) (h' : ARd W y U V) => but_any x y X xc Y yc U uc V vc W h h')
  have R1 := fun (W : World) (h : ARd W x A B) (h' : ARd W y C D) => rproduct_any 1 (by omega) x y A c B d C f D g hsz hsz' W h h'
  rw [hw_one] at R1
  replace R1 := Aside0.mk R1
  have R2 := fun (W : World) (h : ARd W x A B) (h' : ARd W y C D) => rproduct_any 2 (by omega) x y A c B d C f D g hsz hsz' W h h'
  rw [hw_two] at R2
  replace R2 := Aside0.mk R2
  have R3 := fun (W : World) (h : ARd W x A B) (h' : ARd W y C D) => rproduct_any 3 (by omega) x y A c B d C f D g hsz hsz' W h h'
  rw [hw_thr] at R3
  replace R3 := Aside0.mk R3
  have hself : ∀ V : AutV, sameV V V = true := fun V => decide_eq_true ⟨rfl, rfl, rfl⟩
  have HSELF := Aside0.mk hself
  generalize prV andB x y = P at *
  generalize prV orB x y = Q at *
  generalize prV butB x y = S at *
  generalize prE x y = ee at *
  clear hr hr' hsz hsz' hself h00
  go_enter Try.func7, Try.ntmps7
  go_wp2_with (((with_reducible refine gate_ld (t := 25) rfl ?_); first | (refine ld_au (y := x) (A := A) (c := c) (B := B) (d := d) _ rfl (w.heap.size) rfl Gx0.out.blk rfl ?_) | (refine ld_au (y := y) (A := C) (c := f) (B := D) (d := g) _ rfl (w.heap.size + 1) rfl Gy0.out.blk rfl ?_)))
  refine (LN.out _ Gx0.out.ard).mono ?_
  rintro e w1 ⟨Xlx, xclx, Ylx, yclx, rfl, hL⟩
  have hN := Aside0.mk (LnS.new (base := w.heap.size) hL BE0.out.size)
  have hb := hL.2.2
  clear hL
  have Gx1 := Aside0.mk ((Gx0.out.keep hb).alloc (AB x Xlx xclx Ylx yclx))
  have Gy1 := Aside0.mk ((Gy0.out.keep hb).alloc (AB x Xlx xclx Ylx yclx))
  have BE1 := Lib.hid (bl_alloc (bl_then BE0.out hb) (AB x Xlx xclx Ylx yclx))
  clear hb Gx0 Gy0 BE0
  have lx1 := hN
  clear hN
  go_wp2_with (first | ((with_reducible refine gate_st (t := 25) rfl ?_); refine st_au_new (y := x) (A := Xlx) (c := xclx) (B := Ylx) (d := yclx) _ _ rfl rfl rfl rfl rfl ?_) | ((with_reducible refine gate_ld (t := 25) rfl ?_); first | (refine ld_au (y := x) (A := A) (c := c) (B := B) (d := d) _ rfl (w.heap.size) rfl Gx1.out.blk rfl ?_) | (refine ld_au (y := y) (A := C) (c := f) (B := D) (d := g) _ rfl (w.heap.size + 1) rfl Gy1.out.blk rfl ?_) | (refine ld_au (y := x) (A := Xlx) (c := xclx) (B := Ylx) (d := yclx) _ rfl (w1.heap.size) rfl lx1.out.blk rfl ?_)))
  refine (LM.out _ Gy1.out.ard).mono ?_
  rintro e w2 ⟨Xly, xcly, Yly, ycly, rfl, hL⟩
  have hN := Aside0.mk (LnS.new (base := w.heap.size) hL BE1.out.size)
  have hb := hL.2.2
  clear hL
  have Gx2 := Aside0.mk ((Gx1.out.keep hb).alloc (AB y Xly xcly Yly ycly))
  have Gy2 := Aside0.mk ((Gy1.out.keep hb).alloc (AB y Xly xcly Yly ycly))
  have lx2 := Aside0.mk ((lx1.out.keep hb).alloc (AB y Xly xcly Yly ycly))
  have BE2 := Lib.hid (bl_alloc (bl_then BE1.out hb) (AB y Xly xcly Yly ycly))
  clear hb Gx1 Gy1 lx1 BE1
  have ly2 := hN
  clear hN
  go_wp2_with (first | ((with_reducible refine gate_st (t := 25) rfl ?_); refine st_au_new (y := y) (A := Xly) (c := xcly) (B := Yly) (d := ycly) _ _ rfl rfl rfl rfl rfl ?_) | ((with_reducible refine gate_ld (t := 25) rfl ?_); first | (refine ld_au (y := x) (A := A) (c := c) (B := B) (d := d) _ rfl (w.heap.size) rfl Gx2.out.blk rfl ?_) | (refine ld_au (y := y) (A := C) (c := f) (B := D) (d := g) _ rfl (w.heap.size + 1) rfl Gy2.out.blk rfl ?_) | (refine ld_au (y := x) (A := Xlx) (c := xclx) (B := Ylx) (d := yclx) _ rfl (w1.heap.size) rfl lx2.out.blk rfl ?_) | (refine ld_au (y := y) (A := Xly) (c := xcly) (B := Yly) (d := ycly) _ rfl (w2.heap.size) rfl ly2.out.blk rfl ?_)))
  refine (BO.out Xlx xclx Ylx yclx Xly xcly Yly ycly _ lx2.out.ard ly2.out.ard).mono ?_
  rintro e w3 ⟨vn, va, rfl, hn, ha, hb⟩
  obtain ⟨ARp, cRp, rfl⟩ := Kd.R_slice hn
  obtain ⟨BRp, eRp, rfl⟩ := Kd.R_slice ha
  have Rp3 := Aside0.mk (RsA.new (base := w.heap.size) hn ha BE2.out.size)
  clear hn ha
  have Gx3 := Aside0.mk ((Gx2.out.keep hb).alloc (AB P ARp cRp BRp eRp))
  have Gy3 := Aside0.mk ((Gy2.out.keep hb).alloc (AB P ARp cRp BRp eRp))
  have lx3 := Aside0.mk ((lx2.out.keep hb).alloc (AB P ARp cRp BRp eRp))
  have ly3 := Aside0.mk ((ly2.out.keep hb).alloc (AB P ARp cRp BRp eRp))
  have BE3 := Lib.hid (bl_alloc (bl_then BE2.out hb) (AB P ARp cRp BRp eRp))
  clear hb Gx2 Gy2 lx2 ly2 BE2
  go_wp2_with (first | ((with_reducible refine gate_st (t := 25) rfl ?_); refine st_au_new (y := P) (A := ARp) (c := cRp) (B := BRp) (d := eRp) _ _ rfl rfl rfl rfl rfl ?_) | ((with_reducible refine gate_ld (t := 25) rfl ?_); first | (refine ld_au (y := x) (A := A) (c := c) (B := B) (d := d) _ rfl (w.heap.size) rfl Gx3.out.blk rfl ?_) | (refine ld_au (y := y) (A := C) (c := f) (B := D) (d := g) _ rfl (w.heap.size + 1) rfl Gy3.out.blk rfl ?_) | (refine ld_au (y := x) (A := Xlx) (c := xclx) (B := Ylx) (d := yclx) _ rfl (w1.heap.size) rfl lx3.out.blk rfl ?_) | (refine ld_au (y := y) (A := Xly) (c := xcly) (B := Yly) (d := ycly) _ rfl (w2.heap.size) rfl ly3.out.blk rfl ?_) | (refine ld_au (y := P) (A := ARp) (c := cRp) (B := BRp) (d := eRp) _ rfl (w3.heap.size) rfl Rp3.out.blk rfl ?_)))
  refine (EI.out Xlx xclx Ylx yclx Xly xcly Yly ycly _ lx3.out.ard ly3.out.ard).mono ?_
  rintro e w4 ⟨vn, va, rfl, hn, ha, hb⟩
  obtain ⟨ARq, cRq, rfl⟩ := Kd.R_slice hn
  obtain ⟨BRq, eRq, rfl⟩ := Kd.R_slice ha
  have Rq4 := Aside0.mk (RsA.new (base := w.heap.size) hn ha BE3.out.size)
  clear hn ha
  have Gx4 := Aside0.mk ((Gx3.out.keep hb).alloc (AB Q ARq cRq BRq eRq))
  have Gy4 := Aside0.mk ((Gy3.out.keep hb).alloc (AB Q ARq cRq BRq eRq))
  have lx4 := Aside0.mk ((lx3.out.keep hb).alloc (AB Q ARq cRq BRq eRq))
  have ly4 := Aside0.mk ((ly3.out.keep hb).alloc (AB Q ARq cRq BRq eRq))
  have Rp4 := Aside0.mk ((Rp3.out.keep hb).alloc (AB Q ARq cRq BRq eRq))
  have BE4 := Lib.hid (bl_alloc (bl_then BE3.out hb) (AB Q ARq cRq BRq eRq))
  clear hb Gx3 Gy3 lx3 ly3 Rp3 BE3
  go_wp2_with (first | ((with_reducible refine gate_st (t := 25) rfl ?_); refine st_au_new (y := Q) (A := ARq) (c := cRq) (B := BRq) (d := eRq) _ _ rfl rfl rfl rfl rfl ?_) | ((with_reducible refine gate_ld (t := 25) rfl ?_); first | (refine ld_au (y := x) (A := A) (c := c) (B := B) (d := d) _ rfl (w.heap.size) rfl Gx4.out.blk rfl ?_) | (refine ld_au (y := y) (A := C) (c := f) (B := D) (d := g) _ rfl (w.heap.size + 1) rfl Gy4.out.blk rfl ?_) | (refine ld_au (y := x) (A := Xlx) (c := xclx) (B := Ylx) (d := yclx) _ rfl (w1.heap.size) rfl lx4.out.blk rfl ?_) | (refine ld_au (y := y) (A := Xly) (c := xcly) (B := Yly) (d := ycly) _ rfl (w2.heap.size) rfl ly4.out.blk rfl ?_) | (refine ld_au (y := P) (A := ARp) (c := cRp) (B := BRp) (d := eRp) _ rfl (w3.heap.size) rfl Rp4.out.blk rfl ?_) | (refine ld_au (y := Q) (A := ARq) (c := cRq) (B := BRq) (d := eRq) _ rfl (w4.heap.size) rfl Rq4.out.blk rfl ?_)))
  refine (BU.out Xlx xclx Ylx yclx Xly xcly Yly ycly _ lx4.out.ard ly4.out.ard).mono ?_
  rintro e w5 ⟨vn, va, rfl, hn, ha, hb⟩
  obtain ⟨ARs, cRs, rfl⟩ := Kd.R_slice hn
  obtain ⟨BRs, eRs, rfl⟩ := Kd.R_slice ha
  have Rs5 := Aside0.mk (RsA.new (base := w.heap.size) hn ha BE4.out.size)
  clear hn ha
  have Gx5 := Aside0.mk ((Gx4.out.keep hb).alloc (AB S ARs cRs BRs eRs))
  have Gy5 := Aside0.mk ((Gy4.out.keep hb).alloc (AB S ARs cRs BRs eRs))
  have lx5 := Aside0.mk ((lx4.out.keep hb).alloc (AB S ARs cRs BRs eRs))
  have ly5 := Aside0.mk ((ly4.out.keep hb).alloc (AB S ARs cRs BRs eRs))
  have Rp5 := Aside0.mk ((Rp4.out.keep hb).alloc (AB S ARs cRs BRs eRs))
  have Rq5 := Aside0.mk ((Rq4.out.keep hb).alloc (AB S ARs cRs BRs eRs))
  have BE5 := Lib.hid (bl_alloc (bl_then BE4.out hb) (AB S ARs cRs BRs eRs))
  clear hb Gx4 Gy4 lx4 ly4 Rp4 Rq4 BE4
  go_wp2_with (first | ((with_reducible refine gate_st (t := 25) rfl ?_); refine st_au_new (y := S) (A := ARs) (c := cRs) (B := BRs) (d := eRs) _ _ rfl rfl rfl rfl rfl ?_) | ((with_reducible refine gate_ld (t := 25) rfl ?_); first | (refine ld_au (y := x) (A := A) (c := c) (B := B) (d := d) _ rfl (w.heap.size) rfl Gx5.out.blk rfl ?_) | (refine ld_au (y := y) (A := C) (c := f) (B := D) (d := g) _ rfl (w.heap.size + 1) rfl Gy5.out.blk rfl ?_) | (refine ld_au (y := x) (A := Xlx) (c := xclx) (B := Ylx) (d := yclx) _ rfl (w1.heap.size) rfl lx5.out.blk rfl ?_) | (refine ld_au (y := y) (A := Xly) (c := xcly) (B := Yly) (d := ycly) _ rfl (w2.heap.size) rfl ly5.out.blk rfl ?_) | (refine ld_au (y := P) (A := ARp) (c := cRp) (B := BRp) (d := eRp) _ rfl (w3.heap.size) rfl Rp5.out.blk rfl ?_) | (refine ld_au (y := Q) (A := ARq) (c := cRq) (B := BRq) (d := eRq) _ rfl (w4.heap.size) rfl Rq5.out.blk rfl ?_) | (refine ld_au (y := S) (A := ARs) (c := cRs) (B := BRs) (d := eRs) _ rfl (w5.heap.size) rfl Rs5.out.blk rfl ?_)))
  refine (R1.out _ Gx5.out.ard Gy5.out.ard).mono ?_
  rintro e w6 ⟨vn, va, rfl, hn, ha, hb⟩
  obtain ⟨ATp, cTp, rfl⟩ := Kd.R_slice hn
  obtain ⟨BTp, eTp, rfl⟩ := Kd.R_slice ha
  have Tp6 := Aside0.mk (RsA.new (base := w.heap.size) hn ha BE5.out.size)
  clear hn ha
  have Gx6 := Aside0.mk ((Gx5.out.keep hb).alloc (AB P ATp cTp BTp eTp))
  have Gy6 := Aside0.mk ((Gy5.out.keep hb).alloc (AB P ATp cTp BTp eTp))
  have lx6 := Aside0.mk ((lx5.out.keep hb).alloc (AB P ATp cTp BTp eTp))
  have ly6 := Aside0.mk ((ly5.out.keep hb).alloc (AB P ATp cTp BTp eTp))
  have Rp6 := Aside0.mk ((Rp5.out.keep hb).alloc (AB P ATp cTp BTp eTp))
  have Rq6 := Aside0.mk ((Rq5.out.keep hb).alloc (AB P ATp cTp BTp eTp))
  have Rs6 := Aside0.mk ((Rs5.out.keep hb).alloc (AB P ATp cTp BTp eTp))
  have BE6 := Lib.hid (bl_alloc (bl_then BE5.out hb) (AB P ATp cTp BTp eTp))
  clear hb Gx5 Gy5 lx5 ly5 Rp5 Rq5 Rs5 BE5
  go_wp2_with (first | ((with_reducible refine gate_st (t := 25) rfl ?_); refine st_au_new (y := P) (A := ATp) (c := cTp) (B := BTp) (d := eTp) _ _ rfl rfl rfl rfl rfl ?_) | ((with_reducible refine gate_ld (t := 25) rfl ?_); first | (refine ld_au (y := x) (A := A) (c := c) (B := B) (d := d) _ rfl (w.heap.size) rfl Gx6.out.blk rfl ?_) | (refine ld_au (y := y) (A := C) (c := f) (B := D) (d := g) _ rfl (w.heap.size + 1) rfl Gy6.out.blk rfl ?_) | (refine ld_au (y := x) (A := Xlx) (c := xclx) (B := Ylx) (d := yclx) _ rfl (w1.heap.size) rfl lx6.out.blk rfl ?_) | (refine ld_au (y := y) (A := Xly) (c := xcly) (B := Yly) (d := ycly) _ rfl (w2.heap.size) rfl ly6.out.blk rfl ?_) | (refine ld_au (y := P) (A := ARp) (c := cRp) (B := BRp) (d := eRp) _ rfl (w3.heap.size) rfl Rp6.out.blk rfl ?_) | (refine ld_au (y := Q) (A := ARq) (c := cRq) (B := BRq) (d := eRq) _ rfl (w4.heap.size) rfl Rq6.out.blk rfl ?_) | (refine ld_au (y := S) (A := ARs) (c := cRs) (B := BRs) (d := eRs) _ rfl (w5.heap.size) rfl Rs6.out.blk rfl ?_) | (refine ld_au (y := P) (A := ATp) (c := cTp) (B := BTp) (d := eTp) _ rfl (w6.heap.size) rfl Tp6.out.blk rfl ?_)))
  refine (R2.out _ Gx6.out.ard Gy6.out.ard).mono ?_
  rintro e w7 ⟨vn, va, rfl, hn, ha, hb⟩
  obtain ⟨ATq, cTq, rfl⟩ := Kd.R_slice hn
  obtain ⟨BTq, eTq, rfl⟩ := Kd.R_slice ha
  have Tq7 := Aside0.mk (RsA.new (base := w.heap.size) hn ha BE6.out.size)
  clear hn ha
  have Gx7 := Aside0.mk ((Gx6.out.keep hb).alloc (AB Q ATq cTq BTq eTq))
  have Gy7 := Aside0.mk ((Gy6.out.keep hb).alloc (AB Q ATq cTq BTq eTq))
  have lx7 := Aside0.mk ((lx6.out.keep hb).alloc (AB Q ATq cTq BTq eTq))
  have ly7 := Aside0.mk ((ly6.out.keep hb).alloc (AB Q ATq cTq BTq eTq))
  have Rp7 := Aside0.mk ((Rp6.out.keep hb).alloc (AB Q ATq cTq BTq eTq))
  have Rq7 := Aside0.mk ((Rq6.out.keep hb).alloc (AB Q ATq cTq BTq eTq))
  have Rs7 := Aside0.mk ((Rs6.out.keep hb).alloc (AB Q ATq cTq BTq eTq))
  have Tp7 := Aside0.mk ((Tp6.out.keep hb).alloc (AB Q ATq cTq BTq eTq))
  have BE7 := Lib.hid (bl_alloc (bl_then BE6.out hb) (AB Q ATq cTq BTq eTq))
  clear hb Gx6 Gy6 lx6 ly6 Rp6 Rq6 Rs6 Tp6 BE6
  go_wp2_with (first | ((with_reducible refine gate_st (t := 25) rfl ?_); refine st_au_new (y := Q) (A := ATq) (c := cTq) (B := BTq) (d := eTq) _ _ rfl rfl rfl rfl rfl ?_) | ((with_reducible refine gate_ld (t := 25) rfl ?_); first | (refine ld_au (y := x) (A := A) (c := c) (B := B) (d := d) _ rfl (w.heap.size) rfl Gx7.out.blk rfl ?_) | (refine ld_au (y := y) (A := C) (c := f) (B := D) (d := g) _ rfl (w.heap.size + 1) rfl Gy7.out.blk rfl ?_) | (refine ld_au (y := x) (A := Xlx) (c := xclx) (B := Ylx) (d := yclx) _ rfl (w1.heap.size) rfl lx7.out.blk rfl ?_) | (refine ld_au (y := y) (A := Xly) (c := xcly) (B := Yly) (d := ycly) _ rfl (w2.heap.size) rfl ly7.out.blk rfl ?_) | (refine ld_au (y := P) (A := ARp) (c := cRp) (B := BRp) (d := eRp) _ rfl (w3.heap.size) rfl Rp7.out.blk rfl ?_) | (refine ld_au (y := Q) (A := ARq) (c := cRq) (B := BRq) (d := eRq) _ rfl (w4.heap.size) rfl Rq7.out.blk rfl ?_) | (refine ld_au (y := S) (A := ARs) (c := cRs) (B := BRs) (d := eRs) _ rfl (w5.heap.size) rfl Rs7.out.blk rfl ?_) | (refine ld_au (y := P) (A := ATp) (c := cTp) (B := BTp) (d := eTp) _ rfl (w6.heap.size) rfl Tp7.out.blk rfl ?_) | (refine ld_au (y := Q) (A := ATq) (c := cTq) (B := BTq) (d := eTq) _ rfl (w7.heap.size) rfl Tq7.out.blk rfl ?_)))
  refine (R3.out _ Gx7.out.ard Gy7.out.ard).mono ?_
  rintro e w8 ⟨vn, va, rfl, hn, ha, hb⟩
  obtain ⟨ATs, cTs, rfl⟩ := Kd.R_slice hn
  obtain ⟨BTs, eTs, rfl⟩ := Kd.R_slice ha
  have Ts8 := Aside0.mk (RsA.new (base := w.heap.size) hn ha BE7.out.size)
  clear hn ha
  have Gx8 := Aside0.mk ((Gx7.out.keep hb).alloc (AB S ATs cTs BTs eTs))
  have Gy8 := Aside0.mk ((Gy7.out.keep hb).alloc (AB S ATs cTs BTs eTs))
  have lx8 := Aside0.mk ((lx7.out.keep hb).alloc (AB S ATs cTs BTs eTs))
  have ly8 := Aside0.mk ((ly7.out.keep hb).alloc (AB S ATs cTs BTs eTs))
  have Rp8 := Aside0.mk ((Rp7.out.keep hb).alloc (AB S ATs cTs BTs eTs))
  have Rq8 := Aside0.mk ((Rq7.out.keep hb).alloc (AB S ATs cTs BTs eTs))
  have Rs8 := Aside0.mk ((Rs7.out.keep hb).alloc (AB S ATs cTs BTs eTs))
  have Tp8 := Aside0.mk ((Tp7.out.keep hb).alloc (AB S ATs cTs BTs eTs))
  have Tq8 := Aside0.mk ((Tq7.out.keep hb).alloc (AB S ATs cTs BTs eTs))
  have BE8 := Lib.hid (bl_alloc (bl_then BE7.out hb) (AB S ATs cTs BTs eTs))
  clear hb Gx7 Gy7 lx7 ly7 Rp7 Rq7 Rs7 Tp7 Tq7 BE7
  go_wp2_with (first | ((with_reducible refine gate_st (t := 25) rfl ?_); refine st_au_new (y := S) (A := ATs) (c := cTs) (B := BTs) (d := eTs) _ _ rfl rfl rfl rfl rfl ?_) | ((with_reducible refine gate_ld (t := 25) rfl ?_); first | (refine ld_au (y := x) (A := A) (c := c) (B := B) (d := d) _ rfl (w.heap.size) rfl Gx8.out.blk rfl ?_) | (refine ld_au (y := y) (A := C) (c := f) (B := D) (d := g) _ rfl (w.heap.size + 1) rfl Gy8.out.blk rfl ?_) | (refine ld_au (y := x) (A := Xlx) (c := xclx) (B := Ylx) (d := yclx) _ rfl (w1.heap.size) rfl lx8.out.blk rfl ?_) | (refine ld_au (y := y) (A := Xly) (c := xcly) (B := Yly) (d := ycly) _ rfl (w2.heap.size) rfl ly8.out.blk rfl ?_) | (refine ld_au (y := P) (A := ARp) (c := cRp) (B := BRp) (d := eRp) _ rfl (w3.heap.size) rfl Rp8.out.blk rfl ?_) | (refine ld_au (y := Q) (A := ARq) (c := cRq) (B := BRq) (d := eRq) _ rfl (w4.heap.size) rfl Rq8.out.blk rfl ?_) | (refine ld_au (y := S) (A := ARs) (c := cRs) (B := BRs) (d := eRs) _ rfl (w5.heap.size) rfl Rs8.out.blk rfl ?_) | (refine ld_au (y := P) (A := ATp) (c := cTp) (B := BTp) (d := eTp) _ rfl (w6.heap.size) rfl Tp8.out.blk rfl ?_) | (refine ld_au (y := Q) (A := ATq) (c := cTq) (B := BTq) (d := eTq) _ rfl (w7.heap.size) rfl Tq8.out.blk rfl ?_) | (refine ld_au (y := S) (A := ATs) (c := cTs) (B := BTs) (d := eTs) _ rfl (w8.heap.size) rfl Ts8.out.blk rfl ?_)))
  have SM := samea_any P P ARp cRp BRp eRp ATp cTp BTp eTp _ Rp8.out.ard Tp8.out.ard
  rw [HSELF.out] at SM
  refine SM.mono ?_
  rintro e w9 ⟨rfl, hb⟩
  clear SM
  have Gx9 := Aside0.mk (Gx8.out.keep hb)
  have Gy9 := Aside0.mk (Gy8.out.keep hb)
  have lx9 := Aside0.mk (lx8.out.keep hb)
  have ly9 := Aside0.mk (ly8.out.keep hb)
  have Rp9 := Aside0.mk (Rp8.out.keep hb)
  have Rq9 := Aside0.mk (Rq8.out.keep hb)
  have Rs9 := Aside0.mk (Rs8.out.keep hb)
  have Tp9 := Aside0.mk (Tp8.out.keep hb)
  have Tq9 := Aside0.mk (Tq8.out.keep hb)
  have Ts9 := Aside0.mk (Ts8.out.keep hb)
  have BE9 := Lib.hid (bl_then BE8.out hb)
  clear hb Gx8 Gy8 lx8 ly8 Rp8 Rq8 Rs8 Tp8 Tq8 Ts8 BE8
  go_wp2_with (((with_reducible refine gate_ld (t := 25) rfl ?_); first | (refine ld_au (y := x) (A := A) (c := c) (B := B) (d := d) _ rfl (w.heap.size) rfl Gx9.out.blk rfl ?_) | (refine ld_au (y := y) (A := C) (c := f) (B := D) (d := g) _ rfl (w.heap.size + 1) rfl Gy9.out.blk rfl ?_) | (refine ld_au (y := x) (A := Xlx) (c := xclx) (B := Ylx) (d := yclx) _ rfl (w1.heap.size) rfl lx9.out.blk rfl ?_) | (refine ld_au (y := y) (A := Xly) (c := xcly) (B := Yly) (d := ycly) _ rfl (w2.heap.size) rfl ly9.out.blk rfl ?_) | (refine ld_au (y := P) (A := ARp) (c := cRp) (B := BRp) (d := eRp) _ rfl (w3.heap.size) rfl Rp9.out.blk rfl ?_) | (refine ld_au (y := Q) (A := ARq) (c := cRq) (B := BRq) (d := eRq) _ rfl (w4.heap.size) rfl Rq9.out.blk rfl ?_) | (refine ld_au (y := S) (A := ARs) (c := cRs) (B := BRs) (d := eRs) _ rfl (w5.heap.size) rfl Rs9.out.blk rfl ?_) | (refine ld_au (y := P) (A := ATp) (c := cTp) (B := BTp) (d := eTp) _ rfl (w6.heap.size) rfl Tp9.out.blk rfl ?_) | (refine ld_au (y := Q) (A := ATq) (c := cTq) (B := BTq) (d := eTq) _ rfl (w7.heap.size) rfl Tq9.out.blk rfl ?_) | (refine ld_au (y := S) (A := ATs) (c := cTs) (B := BTs) (d := eTs) _ rfl (w8.heap.size) rfl Ts9.out.blk rfl ?_)))
  have SM := samea_any Q Q ARq cRq BRq eRq ATq cTq BTq eTq _ Rq9.out.ard Tq9.out.ard
  rw [HSELF.out] at SM
  refine SM.mono ?_
  rintro e w10 ⟨rfl, hb⟩
  clear SM
  have Gx10 := Aside0.mk (Gx9.out.keep hb)
  have Gy10 := Aside0.mk (Gy9.out.keep hb)
  have lx10 := Aside0.mk (lx9.out.keep hb)
  have ly10 := Aside0.mk (ly9.out.keep hb)
  have Rp10 := Aside0.mk (Rp9.out.keep hb)
  have Rq10 := Aside0.mk (Rq9.out.keep hb)
  have Rs10 := Aside0.mk (Rs9.out.keep hb)
  have Tp10 := Aside0.mk (Tp9.out.keep hb)
  have Tq10 := Aside0.mk (Tq9.out.keep hb)
  have Ts10 := Aside0.mk (Ts9.out.keep hb)
  have BE10 := Lib.hid (bl_then BE9.out hb)
  clear hb Gx9 Gy9 lx9 ly9 Rp9 Rq9 Rs9 Tp9 Tq9 Ts9 BE9
  go_wp2_with (((with_reducible refine gate_ld (t := 25) rfl ?_); first | (refine ld_au (y := x) (A := A) (c := c) (B := B) (d := d) _ rfl (w.heap.size) rfl Gx10.out.blk rfl ?_) | (refine ld_au (y := y) (A := C) (c := f) (B := D) (d := g) _ rfl (w.heap.size + 1) rfl Gy10.out.blk rfl ?_) | (refine ld_au (y := x) (A := Xlx) (c := xclx) (B := Ylx) (d := yclx) _ rfl (w1.heap.size) rfl lx10.out.blk rfl ?_) | (refine ld_au (y := y) (A := Xly) (c := xcly) (B := Yly) (d := ycly) _ rfl (w2.heap.size) rfl ly10.out.blk rfl ?_) | (refine ld_au (y := P) (A := ARp) (c := cRp) (B := BRp) (d := eRp) _ rfl (w3.heap.size) rfl Rp10.out.blk rfl ?_) | (refine ld_au (y := Q) (A := ARq) (c := cRq) (B := BRq) (d := eRq) _ rfl (w4.heap.size) rfl Rq10.out.blk rfl ?_) | (refine ld_au (y := S) (A := ARs) (c := cRs) (B := BRs) (d := eRs) _ rfl (w5.heap.size) rfl Rs10.out.blk rfl ?_) | (refine ld_au (y := P) (A := ATp) (c := cTp) (B := BTp) (d := eTp) _ rfl (w6.heap.size) rfl Tp10.out.blk rfl ?_) | (refine ld_au (y := Q) (A := ATq) (c := cTq) (B := BTq) (d := eTq) _ rfl (w7.heap.size) rfl Tq10.out.blk rfl ?_) | (refine ld_au (y := S) (A := ATs) (c := cTs) (B := BTs) (d := eTs) _ rfl (w8.heap.size) rfl Ts10.out.blk rfl ?_)))
  have SM := samea_any S S ARs cRs BRs eRs ATs cTs BTs eTs _ Rs10.out.ard Ts10.out.ard
  rw [HSELF.out] at SM
  refine SM.mono ?_
  rintro e w11 ⟨rfl, hb⟩
  clear SM
  have Gx11 := Aside0.mk (Gx10.out.keep hb)
  have Gy11 := Aside0.mk (Gy10.out.keep hb)
  have lx11 := Aside0.mk (lx10.out.keep hb)
  have ly11 := Aside0.mk (ly10.out.keep hb)
  have Rp11 := Aside0.mk (Rp10.out.keep hb)
  have Rq11 := Aside0.mk (Rq10.out.keep hb)
  have Rs11 := Aside0.mk (Rs10.out.keep hb)
  have Tp11 := Aside0.mk (Tp10.out.keep hb)
  have Tq11 := Aside0.mk (Tq10.out.keep hb)
  have Ts11 := Aside0.mk (Ts10.out.keep hb)
  have BE11 := Lib.hid (bl_then BE10.out hb)
  clear hb Gx10 Gy10 lx10 ly10 Rp10 Rq10 Rs10 Tp10 Tq10 Ts10 BE10
  go_wp2_with fail
  refine (num8_any _ _).mono ?_
  rintro e w' ⟨rfl, rfl⟩
  go_wp2_with fail
  refine (num8_any _ _).mono ?_
  rintro e w' ⟨rfl, rfl⟩
  go_wp2_with fail
  refine (num8_any _ _).mono ?_
  rintro e w' ⟨rfl, rfl⟩
  go_wp2_with (((with_reducible refine gate_ld (t := 25) rfl ?_); first | (refine ld_au (y := x) (A := A) (c := c) (B := B) (d := d) _ rfl (w.heap.size) rfl Gx11.out.blk rfl ?_) | (refine ld_au (y := y) (A := C) (c := f) (B := D) (d := g) _ rfl (w.heap.size + 1) rfl Gy11.out.blk rfl ?_) | (refine ld_au (y := x) (A := Xlx) (c := xclx) (B := Ylx) (d := yclx) _ rfl (w1.heap.size) rfl lx11.out.blk rfl ?_) | (refine ld_au (y := y) (A := Xly) (c := xcly) (B := Yly) (d := ycly) _ rfl (w2.heap.size) rfl ly11.out.blk rfl ?_) | (refine ld_au (y := P) (A := ARp) (c := cRp) (B := BRp) (d := eRp) _ rfl (w3.heap.size) rfl Rp11.out.blk rfl ?_) | (refine ld_au (y := Q) (A := ARq) (c := cRq) (B := BRq) (d := eRq) _ rfl (w4.heap.size) rfl Rq11.out.blk rfl ?_) | (refine ld_au (y := S) (A := ARs) (c := cRs) (B := BRs) (d := eRs) _ rfl (w5.heap.size) rfl Rs11.out.blk rfl ?_) | (refine ld_au (y := P) (A := ATp) (c := cTp) (B := BTp) (d := eTp) _ rfl (w6.heap.size) rfl Tp11.out.blk rfl ?_) | (refine ld_au (y := Q) (A := ATq) (c := cTq) (B := BTq) (d := eTq) _ rfl (w7.heap.size) rfl Tq11.out.blk rfl ?_) | (refine ld_au (y := S) (A := ATs) (c := cTs) (B := BTs) (d := eTs) _ rfl (w8.heap.size) rfl Ts11.out.blk rfl ?_)))
  refine (stay8_any x Xlx xclx Ylx yclx A c B d HZ.out _ lx11.out.nx lx11.out.xcl lx11.out.ac lx11.out.ycl Gx11.out.ard).mono ?_
  rintro e w12 ⟨rfl, hb⟩
  have Gx12 := Aside0.mk (Gx11.out.keep hb)
  have Gy12 := Aside0.mk (Gy11.out.keep hb)
  have lx12 := Aside0.mk (lx11.out.keep hb)
  have ly12 := Aside0.mk (ly11.out.keep hb)
  have Rp12 := Aside0.mk (Rp11.out.keep hb)
  have Rq12 := Aside0.mk (Rq11.out.keep hb)
  have Rs12 := Aside0.mk (Rs11.out.keep hb)
  have Tp12 := Aside0.mk (Tp11.out.keep hb)
  have Tq12 := Aside0.mk (Tq11.out.keep hb)
  have Ts12 := Aside0.mk (Ts11.out.keep hb)
  have BE12 := Lib.hid (bl_then BE11.out hb)
  clear hb Gx11 Gy11 lx11 ly11 Rp11 Rq11 Rs11 Tp11 Tq11 Ts11 BE11
  go_wp2_with (((with_reducible refine gate_ld (t := 25) rfl ?_); first | (refine ld_au (y := x) (A := A) (c := c) (B := B) (d := d) _ rfl (w.heap.size) rfl Gx12.out.blk rfl ?_) | (refine ld_au (y := y) (A := C) (c := f) (B := D) (d := g) _ rfl (w.heap.size + 1) rfl Gy12.out.blk rfl ?_) | (refine ld_au (y := x) (A := Xlx) (c := xclx) (B := Ylx) (d := yclx) _ rfl (w1.heap.size) rfl lx12.out.blk rfl ?_) | (refine ld_au (y := y) (A := Xly) (c := xcly) (B := Yly) (d := ycly) _ rfl (w2.heap.size) rfl ly12.out.blk rfl ?_) | (refine ld_au (y := P) (A := ARp) (c := cRp) (B := BRp) (d := eRp) _ rfl (w3.heap.size) rfl Rp12.out.blk rfl ?_) | (refine ld_au (y := Q) (A := ARq) (c := cRq) (B := BRq) (d := eRq) _ rfl (w4.heap.size) rfl Rq12.out.blk rfl ?_) | (refine ld_au (y := S) (A := ARs) (c := cRs) (B := BRs) (d := eRs) _ rfl (w5.heap.size) rfl Rs12.out.blk rfl ?_) | (refine ld_au (y := P) (A := ATp) (c := cTp) (B := BTp) (d := eTp) _ rfl (w6.heap.size) rfl Tp12.out.blk rfl ?_) | (refine ld_au (y := Q) (A := ATq) (c := cTq) (B := BTq) (d := eTq) _ rfl (w7.heap.size) rfl Tq12.out.blk rfl ?_) | (refine ld_au (y := S) (A := ATs) (c := cTs) (B := BTs) (d := eTs) _ rfl (w8.heap.size) rfl Ts12.out.blk rfl ?_)))
  refine (stay8_any y Xly xcly Yly ycly C f D g HZ'.out _ ly12.out.nx ly12.out.xcl ly12.out.ac ly12.out.ycl Gy12.out.ard).mono ?_
  rintro e w13 ⟨rfl, hb⟩
  have Gx13 := Aside0.mk (Gx12.out.keep hb)
  have Gy13 := Aside0.mk (Gy12.out.keep hb)
  have lx13 := Aside0.mk (lx12.out.keep hb)
  have ly13 := Aside0.mk (ly12.out.keep hb)
  have Rp13 := Aside0.mk (Rp12.out.keep hb)
  have Rq13 := Aside0.mk (Rq12.out.keep hb)
  have Rs13 := Aside0.mk (Rs12.out.keep hb)
  have Tp13 := Aside0.mk (Tp12.out.keep hb)
  have Tq13 := Aside0.mk (Tq12.out.keep hb)
  have Ts13 := Aside0.mk (Ts12.out.keep hb)
  have BE13 := Lib.hid (bl_then BE12.out hb)
  clear hb Gx12 Gy12 lx12 ly12 Rp12 Rq12 Rs12 Tp12 Tq12 Ts12 BE12
  go_wp2_with fail
  refine (live8_any _).mono ?_
  rintro e wz ⟨rfl, hb⟩
  have HF := Lib.hid (bl_then BE13.out hb)
  clear hb
  go_wp2
  go_ret
  exact ⟨rfl, HF.out⟩
end Go.Proofs.Ytjckidjljkjhfaa
