/- The walk of the statement AutoSets (printed by tools/gen_autosets.py). -/
import Derived.Test.YtjckidjljkjhfaaGiv
import Derived.Test.YtjckidjljkjhfaaRtY
namespace Go.Proofs.Ytjckidjljkjhfaa
open Go.RowKit Go.Proofs.YtjckidjljkjhfaaW.PrintWords
set_option linter.unusedSimpArgs false
set_option linter.unusedVariables false
set_option maxRecDepth 100000 in
set_option maxHeartbeats 2000000 in
theorem autoSets_any (w : World) (x : AutV) (A : Option Addr) (c : Nat) (B : Option Addr) (d : Nat) (hr : ARd w x A B) (hsz : AutSz x c d) :
    Calls Try.prog 10 #[.agg (ac x A c B d)] w fun e w' => e = .returned (.bool true) ∧ Below w.heap.size w w' := by
  have h00 := (Hp.start w).alloc (AB x A c B d)
  have HZ := Lib.hid hsz
  have Gx0 := Aside0.mk ((⟨h00.at 0 rfl, hr.below h00.2⟩ : GvA x A c B d w.heap.size (w.alloc (AB x A c B d))))
  have BE0 := Lib.hid (h00.2)
  have LN := Aside0.mk (fun (W : World) (h : ARd W x A B) => lenta_any x A c B d hsz W h)
  have RV := Aside0.mk (fun (X : Option Addr) (xc : Nat) (Y : Option Addr) (yc : Nat) (W : World) (h : ARd W x X Y) => reverse_any x X xc Y yc W h)
  have SV := Aside0.mk (fun (X : Option Addr) (xc : Nat) (Y : Option Addr) (yc : Nat) (W : World) (h : ARd W x X Y) => star_any x X xc Y yc W h)
  have RR := Aside0.mk (fun (W : World) (h : ARd W x A B) => rreverse_any x A c B d hsz W h)
  have RS := Aside0.mk (fun (W : World) (h : ARd W x A B) => rstar_any x A c B d hsz W h)
  have hself : ∀ V : AutV, sameV V V = true := fun V => decide_eq_true ⟨rfl, rfl, rfl⟩
  have HSELF := Aside0.mk hself
  generalize rvV x = P at *
  generalize stV x = Q at *
  generalize rvE x = ee at *
  generalize stE x = ff at *
  clear hr hsz hself h00
  go_enter Try.func10, Try.ntmps10
  go_wp2_with (((with_reducible refine gate_ld (t := 25) rfl ?_); first | (refine ld_au (y := x) (A := A) (c := c) (B := B) (d := d) _ rfl (w.heap.size) rfl Gx0.out.blk rfl ?_)))
  refine (LN.out _ Gx0.out.ard).mono ?_
  rintro e w1 ⟨Xlx, xclx, Ylx, yclx, rfl, hL⟩
  have hN := Aside0.mk (LnS.new (base := w.heap.size) hL BE0.out.size)
  have hb := hL.2.2
  clear hL
  have Gx1 := Aside0.mk ((Gx0.out.keep hb).alloc (AB x Xlx xclx Ylx yclx))
  have BE1 := Lib.hid (bl_alloc (bl_then BE0.out hb) (AB x Xlx xclx Ylx yclx))
  clear hb Gx0 BE0
  have lx1 := hN
  clear hN
  go_wp2_with (first | ((with_reducible refine gate_st (t := 25) rfl ?_); refine st_au_new (y := x) (A := Xlx) (c := xclx) (B := Ylx) (d := yclx) _ _ rfl rfl rfl rfl rfl ?_) | ((with_reducible refine gate_ld (t := 25) rfl ?_); first | (refine ld_au (y := x) (A := A) (c := c) (B := B) (d := d) _ rfl (w.heap.size) rfl Gx1.out.blk rfl ?_) | (refine ld_au (y := x) (A := Xlx) (c := xclx) (B := Ylx) (d := yclx) _ rfl (w1.heap.size) rfl lx1.out.blk rfl ?_)))
  refine (RV.out Xlx xclx Ylx yclx _ lx1.out.ard).mono ?_
  rintro e w2 ⟨vn, va, rfl, hn, ha, hb⟩
  obtain ⟨ARp, cRp, rfl⟩ := Kd.R_slice hn
  obtain ⟨BRp, eRp, rfl⟩ := Kd.R_slice ha
  have Rp2 := Aside0.mk (RsA.new (V := P) (base := w.heap.size) hn ha BE1.out.size)
  clear hn ha
  have Gx2 := Aside0.mk ((Gx1.out.keep hb).alloc (AB P ARp cRp BRp eRp))
  have lx2 := Aside0.mk ((lx1.out.keep hb).alloc (AB P ARp cRp BRp eRp))
  have BE2 := Lib.hid (bl_alloc (bl_then BE1.out hb) (AB P ARp cRp BRp eRp))
  clear hb Gx1 lx1 BE1
  go_wp2_with (first | ((with_reducible refine gate_st (t := 25) rfl ?_); refine st_au_new (y := P) (A := ARp) (c := cRp) (B := BRp) (d := eRp) _ _ rfl rfl rfl rfl rfl ?_) | ((with_reducible refine gate_ld (t := 25) rfl ?_); first | (refine ld_au (y := x) (A := A) (c := c) (B := B) (d := d) _ rfl (w.heap.size) rfl Gx2.out.blk rfl ?_) | (refine ld_au (y := x) (A := Xlx) (c := xclx) (B := Ylx) (d := yclx) _ rfl (w1.heap.size) rfl lx2.out.blk rfl ?_) | (refine ld_au (y := P) (A := ARp) (c := cRp) (B := BRp) (d := eRp) _ rfl (w2.heap.size) rfl Rp2.out.blk rfl ?_)))
  refine (SV.out Xlx xclx Ylx yclx _ lx2.out.ard).mono ?_
  rintro e w3 ⟨vn, va, rfl, hn, ha, hb⟩
  obtain ⟨ARq, cRq, rfl⟩ := Kd.R_slice hn
  obtain ⟨BRq, eRq, rfl⟩ := Kd.R_slice ha
  have Rq3 := Aside0.mk (RsA.new (V := Q) (base := w.heap.size) hn ha BE2.out.size)
  clear hn ha
  have Gx3 := Aside0.mk ((Gx2.out.keep hb).alloc (AB Q ARq cRq BRq eRq))
  have lx3 := Aside0.mk ((lx2.out.keep hb).alloc (AB Q ARq cRq BRq eRq))
  have Rp3 := Aside0.mk ((Rp2.out.keep hb).alloc (AB Q ARq cRq BRq eRq))
  have BE3 := Lib.hid (bl_alloc (bl_then BE2.out hb) (AB Q ARq cRq BRq eRq))
  clear hb Gx2 lx2 Rp2 BE2
  go_wp2_with (first | ((with_reducible refine gate_st (t := 25) rfl ?_); refine st_au_new (y := Q) (A := ARq) (c := cRq) (B := BRq) (d := eRq) _ _ rfl rfl rfl rfl rfl ?_) | ((with_reducible refine gate_ld (t := 25) rfl ?_); first | (refine ld_au (y := x) (A := A) (c := c) (B := B) (d := d) _ rfl (w.heap.size) rfl Gx3.out.blk rfl ?_) | (refine ld_au (y := x) (A := Xlx) (c := xclx) (B := Ylx) (d := yclx) _ rfl (w1.heap.size) rfl lx3.out.blk rfl ?_) | (refine ld_au (y := P) (A := ARp) (c := cRp) (B := BRp) (d := eRp) _ rfl (w2.heap.size) rfl Rp3.out.blk rfl ?_) | (refine ld_au (y := Q) (A := ARq) (c := cRq) (B := BRq) (d := eRq) _ rfl (w3.heap.size) rfl Rq3.out.blk rfl ?_)))
  refine (RR.out _ Gx3.out.ard).mono ?_
  rintro e w4 ⟨vn, va, rfl, hn, ha, hb⟩
  obtain ⟨ATp, cTp, rfl⟩ := Kd.R_slice hn
  obtain ⟨BTp, eTp, rfl⟩ := Kd.R_slice ha
  have Tp4 := Aside0.mk (RsA.new (V := P) (base := w.heap.size) hn ha BE3.out.size)
  clear hn ha
  have Gx4 := Aside0.mk ((Gx3.out.keep hb).alloc (AB P ATp cTp BTp eTp))
  have lx4 := Aside0.mk ((lx3.out.keep hb).alloc (AB P ATp cTp BTp eTp))
  have Rp4 := Aside0.mk ((Rp3.out.keep hb).alloc (AB P ATp cTp BTp eTp))
  have Rq4 := Aside0.mk ((Rq3.out.keep hb).alloc (AB P ATp cTp BTp eTp))
  have BE4 := Lib.hid (bl_alloc (bl_then BE3.out hb) (AB P ATp cTp BTp eTp))
  clear hb Gx3 lx3 Rp3 Rq3 BE3
  go_wp2_with (first | ((with_reducible refine gate_st (t := 25) rfl ?_); refine st_au_new (y := P) (A := ATp) (c := cTp) (B := BTp) (d := eTp) _ _ rfl rfl rfl rfl rfl ?_) | ((with_reducible refine gate_ld (t := 25) rfl ?_); first | (refine ld_au (y := x) (A := A) (c := c) (B := B) (d := d) _ rfl (w.heap.size) rfl Gx4.out.blk rfl ?_) | (refine ld_au (y := x) (A := Xlx) (c := xclx) (B := Ylx) (d := yclx) _ rfl (w1.heap.size) rfl lx4.out.blk rfl ?_) | (refine ld_au (y := P) (A := ARp) (c := cRp) (B := BRp) (d := eRp) _ rfl (w2.heap.size) rfl Rp4.out.blk rfl ?_) | (refine ld_au (y := Q) (A := ARq) (c := cRq) (B := BRq) (d := eRq) _ rfl (w3.heap.size) rfl Rq4.out.blk rfl ?_) | (refine ld_au (y := P) (A := ATp) (c := cTp) (B := BTp) (d := eTp) _ rfl (w4.heap.size) rfl Tp4.out.blk rfl ?_)))
  refine (RS.out _ Gx4.out.ard).mono ?_
  rintro e w5 ⟨vn, va, rfl, hn, ha, hb⟩
  obtain ⟨ATq, cTq, rfl⟩ := Kd.R_slice hn
  obtain ⟨BTq, eTq, rfl⟩ := Kd.R_slice ha
  have Tq5 := Aside0.mk (RsA.new (V := Q) (base := w.heap.size) hn ha BE4.out.size)
  clear hn ha
  have Gx5 := Aside0.mk ((Gx4.out.keep hb).alloc (AB Q ATq cTq BTq eTq))
  have lx5 := Aside0.mk ((lx4.out.keep hb).alloc (AB Q ATq cTq BTq eTq))
  have Rp5 := Aside0.mk ((Rp4.out.keep hb).alloc (AB Q ATq cTq BTq eTq))
  have Rq5 := Aside0.mk ((Rq4.out.keep hb).alloc (AB Q ATq cTq BTq eTq))
  have Tp5 := Aside0.mk ((Tp4.out.keep hb).alloc (AB Q ATq cTq BTq eTq))
  have BE5 := Lib.hid (bl_alloc (bl_then BE4.out hb) (AB Q ATq cTq BTq eTq))
  clear hb Gx4 lx4 Rp4 Rq4 Tp4 BE4
  go_wp2_with (first | ((with_reducible refine gate_st (t := 25) rfl ?_); refine st_au_new (y := Q) (A := ATq) (c := cTq) (B := BTq) (d := eTq) _ _ rfl rfl rfl rfl rfl ?_) | ((with_reducible refine gate_ld (t := 25) rfl ?_); first | (refine ld_au (y := x) (A := A) (c := c) (B := B) (d := d) _ rfl (w.heap.size) rfl Gx5.out.blk rfl ?_) | (refine ld_au (y := x) (A := Xlx) (c := xclx) (B := Ylx) (d := yclx) _ rfl (w1.heap.size) rfl lx5.out.blk rfl ?_) | (refine ld_au (y := P) (A := ARp) (c := cRp) (B := BRp) (d := eRp) _ rfl (w2.heap.size) rfl Rp5.out.blk rfl ?_) | (refine ld_au (y := Q) (A := ARq) (c := cRq) (B := BRq) (d := eRq) _ rfl (w3.heap.size) rfl Rq5.out.blk rfl ?_) | (refine ld_au (y := P) (A := ATp) (c := cTp) (B := BTp) (d := eTp) _ rfl (w4.heap.size) rfl Tp5.out.blk rfl ?_) | (refine ld_au (y := Q) (A := ATq) (c := cTq) (B := BTq) (d := eTq) _ rfl (w5.heap.size) rfl Tq5.out.blk rfl ?_)))
  have SM := samea_any P P ARp cRp BRp eRp ATp cTp BTp eTp _ Rp5.out.ard Tp5.out.ard
  rw [HSELF.out] at SM
  refine SM.mono ?_
  rintro e w6 ⟨rfl, hb⟩
  clear SM
  have Gx6 := Aside0.mk (Gx5.out.keep hb)
  have lx6 := Aside0.mk (lx5.out.keep hb)
  have Rp6 := Aside0.mk (Rp5.out.keep hb)
  have Rq6 := Aside0.mk (Rq5.out.keep hb)
  have Tp6 := Aside0.mk (Tp5.out.keep hb)
  have Tq6 := Aside0.mk (Tq5.out.keep hb)
  have BE6 := Lib.hid (bl_then BE5.out hb)
  clear hb Gx5 lx5 Rp5 Rq5 Tp5 Tq5 BE5
  go_wp2_with (((with_reducible refine gate_ld (t := 25) rfl ?_); first | (refine ld_au (y := x) (A := A) (c := c) (B := B) (d := d) _ rfl (w.heap.size) rfl Gx6.out.blk rfl ?_) | (refine ld_au (y := x) (A := Xlx) (c := xclx) (B := Ylx) (d := yclx) _ rfl (w1.heap.size) rfl lx6.out.blk rfl ?_) | (refine ld_au (y := P) (A := ARp) (c := cRp) (B := BRp) (d := eRp) _ rfl (w2.heap.size) rfl Rp6.out.blk rfl ?_) | (refine ld_au (y := Q) (A := ARq) (c := cRq) (B := BRq) (d := eRq) _ rfl (w3.heap.size) rfl Rq6.out.blk rfl ?_) | (refine ld_au (y := P) (A := ATp) (c := cTp) (B := BTp) (d := eTp) _ rfl (w4.heap.size) rfl Tp6.out.blk rfl ?_) | (refine ld_au (y := Q) (A := ATq) (c := cTq) (B := BTq) (d := eTq) _ rfl (w5.heap.size) rfl Tq6.out.blk rfl ?_)))
  have SM := samea_any Q Q ARq cRq BRq eRq ATq cTq BTq eTq _ Rq6.out.ard Tq6.out.ard
  rw [HSELF.out] at SM
  refine SM.mono ?_
  rintro e w7 ⟨rfl, hb⟩
  clear SM
  have Gx7 := Aside0.mk (Gx6.out.keep hb)
  have lx7 := Aside0.mk (lx6.out.keep hb)
  have Rp7 := Aside0.mk (Rp6.out.keep hb)
  have Rq7 := Aside0.mk (Rq6.out.keep hb)
  have Tp7 := Aside0.mk (Tp6.out.keep hb)
  have Tq7 := Aside0.mk (Tq6.out.keep hb)
  have BE7 := Lib.hid (bl_then BE6.out hb)
  clear hb Gx6 lx6 Rp6 Rq6 Tp6 Tq6 BE6
  go_wp2_with fail
  refine (num8_any _ _).mono ?_
  rintro e w' ⟨rfl, rfl⟩
  go_wp2_with fail
  refine (num8_any _ _).mono ?_
  rintro e w' ⟨rfl, rfl⟩
  go_wp2_with (((with_reducible refine gate_ld (t := 25) rfl ?_); first | (refine ld_au (y := x) (A := A) (c := c) (B := B) (d := d) _ rfl (w.heap.size) rfl Gx7.out.blk rfl ?_) | (refine ld_au (y := x) (A := Xlx) (c := xclx) (B := Ylx) (d := yclx) _ rfl (w1.heap.size) rfl lx7.out.blk rfl ?_) | (refine ld_au (y := P) (A := ARp) (c := cRp) (B := BRp) (d := eRp) _ rfl (w2.heap.size) rfl Rp7.out.blk rfl ?_) | (refine ld_au (y := Q) (A := ARq) (c := cRq) (B := BRq) (d := eRq) _ rfl (w3.heap.size) rfl Rq7.out.blk rfl ?_) | (refine ld_au (y := P) (A := ATp) (c := cTp) (B := BTp) (d := eTp) _ rfl (w4.heap.size) rfl Tp7.out.blk rfl ?_) | (refine ld_au (y := Q) (A := ATq) (c := cTq) (B := BTq) (d := eTq) _ rfl (w5.heap.size) rfl Tq7.out.blk rfl ?_)))
  refine (stay8_any x Xlx xclx Ylx yclx A c B d HZ.out _ lx7.out.nx lx7.out.xcl lx7.out.ac lx7.out.ycl Gx7.out.ard).mono ?_
  rintro e w8 ⟨rfl, hb⟩
  have Gx8 := Aside0.mk (Gx7.out.keep hb)
  have lx8 := Aside0.mk (lx7.out.keep hb)
  have Rp8 := Aside0.mk (Rp7.out.keep hb)
  have Rq8 := Aside0.mk (Rq7.out.keep hb)
  have Tp8 := Aside0.mk (Tp7.out.keep hb)
  have Tq8 := Aside0.mk (Tq7.out.keep hb)
  have BE8 := Lib.hid (bl_then BE7.out hb)
  clear hb Gx7 lx7 Rp7 Rq7 Tp7 Tq7 BE7
  go_wp2_with fail
  refine (live8_any _).mono ?_
  rintro e wz ⟨rfl, hb⟩
  have HF := Lib.hid (bl_then BE8.out hb)
  clear hb
  go_wp2
  go_ret
  exact ⟨rfl, HF.out⟩
end Go.Proofs.Ytjckidjljkjhfaa
