/- The walk of the statement AutoOrder (printed by tools/gen_autoorder.py). -/
import Derived.Test.YtjckidjljkjhfaaGiv
import Derived.Test.YtjckidjljkjhfaaPrT
import Derived.Test.YtjckidjljkjhfaaOrP
namespace Go.Proofs.Ytjckidjljkjhfaa
open Go.RowKit Go.Proofs.YtjckidjljkjhfaaW.PrintWords
set_option linter.unusedSimpArgs false
set_option linter.unusedVariables false
set_option maxRecDepth 100000 in
set_option maxHeartbeats 2000000 in
theorem autoOrder_any (w : World) (x : AutV) (A : Option Addr) (c : Nat) (B : Option Addr) (d : Nat) (hr : ARd w x A B) (hsz : AutSz x c d) (y : AutV) (C : Option Addr) (f : Nat) (D : Option Addr) (g : Nat) (hr' : ARd w y C D) (hsz' : AutSz y f g) :
    Calls Try.prog 8 #[.agg (ac x A c B d), .agg (ac y C f D g)] w fun e w' => e = .returned (.bool true) ∧ Below w.heap.size w w' := by
  have h00 := ((Hp.start w).alloc (AB x A c B d)).alloc (AB y C f D g)
  rw [World.size_alloc] at h00
  have Gx0 := Aside0.mk ((⟨h00.at 1 rfl, hr.below h00.2⟩ : GvA x A c B d w.heap.size ((w.alloc (AB x A c B d)).alloc (AB y C f D g))))
  have Gy0 := Aside0.mk ((⟨h00.at 0 rfl, hr'.below h00.2⟩ : GvA y C f D g (w.heap.size + 1) ((w.alloc (AB x A c B d)).alloc (AB y C f D g))))
  have BE0 := Lib.hid (h00.2)
  have TW := Aside0.mk (fun (W : World) (h : ARd W x A B) (h' : ARd W y C D) => rtwo_any x y A c B d C f D g hsz hsz' W h h')
  have hself : ∀ V : AutV, sameV V V = true := fun V => decide_eq_true ⟨rfl, rfl, rfl⟩
  have HSELF := Aside0.mk hself
  clear hself
  by_cases h0 : twoE x y = 0
  · have OL := order_laws h0
    obtain ⟨⟨e1, e2, e3, e4⟩, q1, q2, q3, q4⟩ := OL
    have PC := pr_cases h0
    rw [h0] at TW
    have REA := fun (W : World) (h : ARd W x A B) => reach_any x A c B d W h
    have RRE := fun (X : Option Addr) (xc : Nat) (Y : Option Addr) (yc : Nat) (W : World) (h : ARd W (fromV x 0 (fun s => rdOf false x.acc (s : Int))) X Y) => reach_any (fromV x 0 (fun s => rdOf false x.acc (s : Int))) X xc Y yc W h
    have NOA := fun (W : World) (h : ARd W x A B) => not_any x A c B d W h
    have NNO := fun (X : Option Addr) (xc : Nat) (Y : Option Addr) (yc : Nat) (W : World) (h : ARd W (fromV x 0 (fun s => !rdOf false x.acc (s : Int))) X Y) => not_any (fromV x 0 (fun s => !rdOf false x.acc (s : Int))) X xc Y yc W h
    have NOB := fun (W : World) (h : ARd W y C D) => not_any y C f D g W h
    have BOT := fun (W : World) (h : ARd W x A B) (h' : ARd W y C D) => both_any x y A c B d C f D g W h h'
    have EIT := fun (X : Option Addr) (xc : Nat) (Y : Option Addr) (yc : Nat) (U : Option Addr) (uc : Nat) (V : Option Addr) (vc : Nat) (W : World) (h : ARd W (fromV x 0 (fun s => !rdOf false x.acc (s : Int))) X Y) (h' : ARd W (fromV y 0 (fun s => !rdOf false y.acc (s : Int))) U V) => either_any (fromV x 0 (fun s => !rdOf false x.acc (s : Int))) (fromV y 0 (fun s => !rdOf false y.acc (s : Int))) X xc Y yc U uc V vc W h h'
    rw [e1] at REA NOA
    rw [e2] at NOB
    rw [e3, q1] at RRE
    rw [e4, q2] at NNO
    rw [q3] at EIT
    have NBO := fun (hz : prE x y = 0) (X : Option Addr) (xc : Nat) (Y : Option Addr) (yc : Nat) (W : World) (h : ARd W (prV andB x y) X Y) => (by
      have h1 := not_any (prV andB x y) X xc Y yc W h
      rw [(q4 hz).1, (q4 hz).2.1] at h1
      exact h1 : Calls Try.prog 26 #[.agg (ac (prV andB x y) X xc Y yc)] W fun e w' => ∃ vn va, e = .returned (.tuple #[.agg #[.int .i64 (prV orB (fromV x 0 (fun s => !rdOf false x.acc (s : Int))) (fromV y 0 (fun s => !rdOf false y.acc (s : Int)))).k, vn, va], .int .i64 0]) ∧ Own w' W.heap.size vn (prV orB (fromV x 0 (fun s => !rdOf false x.acc (s : Int))) (fromV y 0 (fun s => !rdOf false y.acc (s : Int)))).next ∧ Kd.R Kd.bool 4 w' W.heap.size (fun _ => True) va (prV orB (fromV x 0 (fun s => !rdOf false x.acc (s : Int))) (fromV y 0 (fun s => !rdOf false y.acc (s : Int)))).acc ∧ Below W.heap.size W w')
    have RBO := fun (hz : prE x y = 0) (X : Option Addr) (xc : Nat) (Y : Option Addr) (yc : Nat) (W : World) (h : ARd W (prV andB x y) X Y) => (by
      have h1 := reach_any (prV andB x y) X xc Y yc W h
      rw [(q4 hz).1, (q4 hz).2.2] at h1
      exact h1 : Calls Try.prog 24 #[.agg (ac (prV andB x y) X xc Y yc)] W fun e w' => ∃ vn va, e = .returned (.tuple #[.agg #[.int .i64 (prV andB x y).k, vn, va], .int .i64 0]) ∧ Own w' W.heap.size vn (prV andB x y).next ∧ Kd.R Kd.bool 4 w' W.heap.size (fun _ => True) va (prV andB x y).acc ∧ Below W.heap.size W w')
    replace REA := Aside0.mk REA; replace RRE := Aside0.mk RRE; replace NOA := Aside0.mk NOA; replace NNO := Aside0.mk NNO; replace NOB := Aside0.mk NOB; replace BOT := Aside0.mk BOT; replace EIT := Aside0.mk EIT; replace NBO := Aside0.mk NBO; replace RBO := Aside0.mk RBO
    clear q1 q2 q3 q4 e1 e2 e3 e4 h0 h00 hr hr' hsz hsz'
    generalize prV orB (fromV x 0 (fun s => !rdOf false x.acc (s : Int))) (fromV y 0 (fun s => !rdOf false y.acc (s : Int))) = Q at *
    generalize fromV x 0 (fun s => rdOf false x.acc (s : Int)) = V at *
    generalize fromV x 0 (fun s => !rdOf false x.acc (s : Int)) = N at *
    generalize fromV y 0 (fun s => !rdOf false y.acc (s : Int)) = M at *
    generalize prV andB x y = P at *
    generalize prE x y = ee at *
    go_enter Try.func8, Try.ntmps8
    go_wp2_with (((with_reducible refine gate_ld (t := 25) rfl ?_); first | (refine ld_au (y := x) (A := A) (c := c) (B := B) (d := d) _ rfl (w.heap.size) rfl Gx0.out.blk rfl ?_) | (refine ld_au (y := y) (A := C) (c := f) (B := D) (d := g) _ rfl (w.heap.size + 1) rfl Gy0.out.blk rfl ?_)))
    refine (TW.out _ Gx0.out.ard Gy0.out.ard).mono ?_
    rintro e w1 ⟨rfl, hb⟩
    have Gx1 := Aside0.mk (Gx0.out.keep hb)
    have Gy1 := Aside0.mk (Gy0.out.keep hb)
    have BE1 := Lib.hid (bl_then BE0.out hb)
    clear hb Gx0 Gy0 BE0
    go_wp2_with (((with_reducible refine gate_ld (t := 25) rfl ?_); first | (refine ld_au (y := x) (A := A) (c := c) (B := B) (d := d) _ rfl (w.heap.size) rfl Gx1.out.blk rfl ?_) | (refine ld_au (y := y) (A := C) (c := f) (B := D) (d := g) _ rfl (w.heap.size + 1) rfl Gy1.out.blk rfl ?_)))
    refine (REA.out _ Gx1.out.ard).mono ?_
    rintro e w2 ⟨vn, va, rfl, hn, ha, hb⟩
    obtain ⟨ARv, cRv, rfl⟩ := Kd.R_slice hn
    obtain ⟨BRv, eRv, rfl⟩ := Kd.R_slice ha
    have Rv2 := Aside0.mk (RsA.new (base := w.heap.size) hn ha BE1.out.size)
    clear hn ha
    have Gx2 := Aside0.mk ((Gx1.out.keep hb).alloc (AB V ARv cRv BRv eRv))
    have Gy2 := Aside0.mk ((Gy1.out.keep hb).alloc (AB V ARv cRv BRv eRv))
    have BE2 := Lib.hid (bl_alloc (bl_then BE1.out hb) (AB V ARv cRv BRv eRv))
    clear hb Gx1 Gy1 BE1
    go_wp2_with (first | ((with_reducible refine gate_st (t := 25) rfl ?_); refine st_au_new (y := V) (A := ARv) (c := cRv) (B := BRv) (d := eRv) _ _ rfl rfl rfl rfl rfl ?_) | ((with_reducible refine gate_ld (t := 25) rfl ?_); first | (refine ld_au (y := x) (A := A) (c := c) (B := B) (d := d) _ rfl (w.heap.size) rfl Gx2.out.blk rfl ?_) | (refine ld_au (y := y) (A := C) (c := f) (B := D) (d := g) _ rfl (w.heap.size + 1) rfl Gy2.out.blk rfl ?_) | (refine ld_au (y := V) (A := ARv) (c := cRv) (B := BRv) (d := eRv) _ rfl (w2.heap.size) rfl Rv2.out.blk rfl ?_)))
    refine (RRE.out ARv cRv BRv eRv _ Rv2.out.ard).mono ?_
    rintro e w3 ⟨vn, va, rfl, hn, ha, hb⟩
    obtain ⟨ARu, cRu, rfl⟩ := Kd.R_slice hn
    obtain ⟨BRu, eRu, rfl⟩ := Kd.R_slice ha
    have Ru3 := Aside0.mk (RsA.new (base := w.heap.size) hn ha BE2.out.size)
    clear hn ha
    have Gx3 := Aside0.mk ((Gx2.out.keep hb).alloc (AB V ARu cRu BRu eRu))
    have Gy3 := Aside0.mk ((Gy2.out.keep hb).alloc (AB V ARu cRu BRu eRu))
    have Rv3 := Aside0.mk ((Rv2.out.keep hb).alloc (AB V ARu cRu BRu eRu))
    have BE3 := Lib.hid (bl_alloc (bl_then BE2.out hb) (AB V ARu cRu BRu eRu))
    clear hb Gx2 Gy2 Rv2 BE2
    go_wp2_with (first | ((with_reducible refine gate_st (t := 25) rfl ?_); refine st_au_new (y := V) (A := ARu) (c := cRu) (B := BRu) (d := eRu) _ _ rfl rfl rfl rfl rfl ?_) | ((with_reducible refine gate_ld (t := 25) rfl ?_); first | (refine ld_au (y := x) (A := A) (c := c) (B := B) (d := d) _ rfl (w.heap.size) rfl Gx3.out.blk rfl ?_) | (refine ld_au (y := y) (A := C) (c := f) (B := D) (d := g) _ rfl (w.heap.size + 1) rfl Gy3.out.blk rfl ?_) | (refine ld_au (y := V) (A := ARv) (c := cRv) (B := BRv) (d := eRv) _ rfl (w2.heap.size) rfl Rv3.out.blk rfl ?_) | (refine ld_au (y := V) (A := ARu) (c := cRu) (B := BRu) (d := eRu) _ rfl (w3.heap.size) rfl Ru3.out.blk rfl ?_)))
    refine (NOA.out _ Gx3.out.ard).mono ?_
    rintro e w4 ⟨vn, va, rfl, hn, ha, hb⟩
    obtain ⟨ARn, cRn, rfl⟩ := Kd.R_slice hn
    obtain ⟨BRn, eRn, rfl⟩ := Kd.R_slice ha
    have Rn4 := Aside0.mk (RsA.new (base := w.heap.size) hn ha BE3.out.size)
    clear hn ha
    have Gx4 := Aside0.mk ((Gx3.out.keep hb).alloc (AB N ARn cRn BRn eRn))
    have Gy4 := Aside0.mk ((Gy3.out.keep hb).alloc (AB N ARn cRn BRn eRn))
    have Rv4 := Aside0.mk ((Rv3.out.keep hb).alloc (AB N ARn cRn BRn eRn))
    have Ru4 := Aside0.mk ((Ru3.out.keep hb).alloc (AB N ARn cRn BRn eRn))
    have BE4 := Lib.hid (bl_alloc (bl_then BE3.out hb) (AB N ARn cRn BRn eRn))
    clear hb Gx3 Gy3 Rv3 Ru3 BE3
    go_wp2_with (first | ((with_reducible refine gate_st (t := 25) rfl ?_); refine st_au_new (y := N) (A := ARn) (c := cRn) (B := BRn) (d := eRn) _ _ rfl rfl rfl rfl rfl ?_) | ((with_reducible refine gate_ld (t := 25) rfl ?_); first | (refine ld_au (y := x) (A := A) (c := c) (B := B) (d := d) _ rfl (w.heap.size) rfl Gx4.out.blk rfl ?_) | (refine ld_au (y := y) (A := C) (c := f) (B := D) (d := g) _ rfl (w.heap.size + 1) rfl Gy4.out.blk rfl ?_) | (refine ld_au (y := V) (A := ARv) (c := cRv) (B := BRv) (d := eRv) _ rfl (w2.heap.size) rfl Rv4.out.blk rfl ?_) | (refine ld_au (y := V) (A := ARu) (c := cRu) (B := BRu) (d := eRu) _ rfl (w3.heap.size) rfl Ru4.out.blk rfl ?_) | (refine ld_au (y := N) (A := ARn) (c := cRn) (B := BRn) (d := eRn) _ rfl (w4.heap.size) rfl Rn4.out.blk rfl ?_)))
    refine (NNO.out ARn cRn BRn eRn _ Rn4.out.ard).mono ?_
    rintro e w5 ⟨vn, va, rfl, hn, ha, hb⟩
    obtain ⟨ARm, cRm, rfl⟩ := Kd.R_slice hn
    obtain ⟨BRm, eRm, rfl⟩ := Kd.R_slice ha
    have Rm5 := Aside0.mk (RsA.new (base := w.heap.size) hn ha BE4.out.size)
    clear hn ha
    have Gx5 := Aside0.mk ((Gx4.out.keep hb).alloc (AB V ARm cRm BRm eRm))
    have Gy5 := Aside0.mk ((Gy4.out.keep hb).alloc (AB V ARm cRm BRm eRm))
    have Rv5 := Aside0.mk ((Rv4.out.keep hb).alloc (AB V ARm cRm BRm eRm))
    have Ru5 := Aside0.mk ((Ru4.out.keep hb).alloc (AB V ARm cRm BRm eRm))
    have Rn5 := Aside0.mk ((Rn4.out.keep hb).alloc (AB V ARm cRm BRm eRm))
    have BE5 := Lib.hid (bl_alloc (bl_then BE4.out hb) (AB V ARm cRm BRm eRm))
    clear hb Gx4 Gy4 Rv4 Ru4 Rn4 BE4
    go_wp2_with (first | ((with_reducible refine gate_st (t := 25) rfl ?_); refine st_au_new (y := V) (A := ARm) (c := cRm) (B := BRm) (d := eRm) _ _ rfl rfl rfl rfl rfl ?_) | ((with_reducible refine gate_ld (t := 25) rfl ?_); first | (refine ld_au (y := x) (A := A) (c := c) (B := B) (d := d) _ rfl (w.heap.size) rfl Gx5.out.blk rfl ?_) | (refine ld_au (y := y) (A := C) (c := f) (B := D) (d := g) _ rfl (w.heap.size + 1) rfl Gy5.out.blk rfl ?_) | (refine ld_au (y := V) (A := ARv) (c := cRv) (B := BRv) (d := eRv) _ rfl (w2.heap.size) rfl Rv5.out.blk rfl ?_) | (refine ld_au (y := V) (A := ARu) (c := cRu) (B := BRu) (d := eRu) _ rfl (w3.heap.size) rfl Ru5.out.blk rfl ?_) | (refine ld_au (y := N) (A := ARn) (c := cRn) (B := BRn) (d := eRn) _ rfl (w4.heap.size) rfl Rn5.out.blk rfl ?_) | (refine ld_au (y := V) (A := ARm) (c := cRm) (B := BRm) (d := eRm) _ rfl (w5.heap.size) rfl Rm5.out.blk rfl ?_)))
    refine (num8_any _ _).mono ?_
    rintro e w' ⟨rfl, rfl⟩
    go_wp2_with fail
    refine (num8_any _ _).mono ?_
    rintro e w' ⟨rfl, rfl⟩
    go_wp2_with fail
    refine (num8_any _ _).mono ?_
    rintro e w' ⟨rfl, rfl⟩
    go_wp2_with fail
    refine (num8_any _ _).mono ?_
    rintro e w' ⟨rfl, rfl⟩
    go_wp2_with (((with_reducible refine gate_ld (t := 25) rfl ?_); first | (refine ld_au (y := x) (A := A) (c := c) (B := B) (d := d) _ rfl (w.heap.size) rfl Gx5.out.blk rfl ?_) | (refine ld_au (y := y) (A := C) (c := f) (B := D) (d := g) _ rfl (w.heap.size + 1) rfl Gy5.out.blk rfl ?_) | (refine ld_au (y := V) (A := ARv) (c := cRv) (B := BRv) (d := eRv) _ rfl (w2.heap.size) rfl Rv5.out.blk rfl ?_) | (refine ld_au (y := V) (A := ARu) (c := cRu) (B := BRu) (d := eRu) _ rfl (w3.heap.size) rfl Ru5.out.blk rfl ?_) | (refine ld_au (y := N) (A := ARn) (c := cRn) (B := BRn) (d := eRn) _ rfl (w4.heap.size) rfl Rn5.out.blk rfl ?_) | (refine ld_au (y := V) (A := ARm) (c := cRm) (B := BRm) (d := eRm) _ rfl (w5.heap.size) rfl Rm5.out.blk rfl ?_)))
    have SM := samea_any V V ARv cRv BRv eRv ARu cRu BRu eRu _ Rv5.out.ard Ru5.out.ard
    rw [HSELF.out] at SM
    refine SM.mono ?_
    rintro e w6 ⟨rfl, hb⟩
    clear SM
    have Gx6 := Aside0.mk (Gx5.out.keep hb)
    have Gy6 := Aside0.mk (Gy5.out.keep hb)
    have Rv6 := Aside0.mk (Rv5.out.keep hb)
    have Ru6 := Aside0.mk (Ru5.out.keep hb)
    have Rn6 := Aside0.mk (Rn5.out.keep hb)
    have Rm6 := Aside0.mk (Rm5.out.keep hb)
    have BE6 := Lib.hid (bl_then BE5.out hb)
    clear hb Gx5 Gy5 Rv5 Ru5 Rn5 Rm5 BE5
    go_wp2_with (((with_reducible refine gate_ld (t := 25) rfl ?_); first | (refine ld_au (y := x) (A := A) (c := c) (B := B) (d := d) _ rfl (w.heap.size) rfl Gx6.out.blk rfl ?_) | (refine ld_au (y := y) (A := C) (c := f) (B := D) (d := g) _ rfl (w.heap.size + 1) rfl Gy6.out.blk rfl ?_) | (refine ld_au (y := V) (A := ARv) (c := cRv) (B := BRv) (d := eRv) _ rfl (w2.heap.size) rfl Rv6.out.blk rfl ?_) | (refine ld_au (y := V) (A := ARu) (c := cRu) (B := BRu) (d := eRu) _ rfl (w3.heap.size) rfl Ru6.out.blk rfl ?_) | (refine ld_au (y := N) (A := ARn) (c := cRn) (B := BRn) (d := eRn) _ rfl (w4.heap.size) rfl Rn6.out.blk rfl ?_) | (refine ld_au (y := V) (A := ARm) (c := cRm) (B := BRm) (d := eRm) _ rfl (w5.heap.size) rfl Rm6.out.blk rfl ?_)))
    have SM := samea_any V V ARm cRm BRm eRm ARv cRv BRv eRv _ Rm6.out.ard Rv6.out.ard
    rw [HSELF.out] at SM
    refine SM.mono ?_
    rintro e w7 ⟨rfl, hb⟩
    clear SM
    have Gx7 := Aside0.mk (Gx6.out.keep hb)
    have Gy7 := Aside0.mk (Gy6.out.keep hb)
    have Rv7 := Aside0.mk (Rv6.out.keep hb)
    have Ru7 := Aside0.mk (Ru6.out.keep hb)
    have Rn7 := Aside0.mk (Rn6.out.keep hb)
    have Rm7 := Aside0.mk (Rm6.out.keep hb)
    have BE7 := Lib.hid (bl_then BE6.out hb)
    clear hb Gx6 Gy6 Rv6 Ru6 Rn6 Rm6 BE6
    go_wp2_with (((with_reducible refine gate_ld (t := 25) rfl ?_); first | (refine ld_au (y := x) (A := A) (c := c) (B := B) (d := d) _ rfl (w.heap.size) rfl Gx7.out.blk rfl ?_) | (refine ld_au (y := y) (A := C) (c := f) (B := D) (d := g) _ rfl (w.heap.size + 1) rfl Gy7.out.blk rfl ?_) | (refine ld_au (y := V) (A := ARv) (c := cRv) (B := BRv) (d := eRv) _ rfl (w2.heap.size) rfl Rv7.out.blk rfl ?_) | (refine ld_au (y := V) (A := ARu) (c := cRu) (B := BRu) (d := eRu) _ rfl (w3.heap.size) rfl Ru7.out.blk rfl ?_) | (refine ld_au (y := N) (A := ARn) (c := cRn) (B := BRn) (d := eRn) _ rfl (w4.heap.size) rfl Rn7.out.blk rfl ?_) | (refine ld_au (y := V) (A := ARm) (c := cRm) (B := BRm) (d := eRm) _ rfl (w5.heap.size) rfl Rm7.out.blk rfl ?_)))
    refine (NOB.out _ Gy7.out.ard).mono ?_
    rintro e w8 ⟨vn, va, rfl, hn, ha, hb⟩
    obtain ⟨ARb, cRb, rfl⟩ := Kd.R_slice hn
    obtain ⟨BRb, eRb, rfl⟩ := Kd.R_slice ha
    have Rb8 := Aside0.mk (RsA.new (base := w.heap.size) hn ha BE7.out.size)
    clear hn ha
    have Gx8 := Aside0.mk ((Gx7.out.keep hb).alloc (AB M ARb cRb BRb eRb))
    have Gy8 := Aside0.mk ((Gy7.out.keep hb).alloc (AB M ARb cRb BRb eRb))
    have Rv8 := Aside0.mk ((Rv7.out.keep hb).alloc (AB M ARb cRb BRb eRb))
    have Ru8 := Aside0.mk ((Ru7.out.keep hb).alloc (AB M ARb cRb BRb eRb))
    have Rn8 := Aside0.mk ((Rn7.out.keep hb).alloc (AB M ARb cRb BRb eRb))
    have Rm8 := Aside0.mk ((Rm7.out.keep hb).alloc (AB M ARb cRb BRb eRb))
    have BE8 := Lib.hid (bl_alloc (bl_then BE7.out hb) (AB M ARb cRb BRb eRb))
    clear hb Gx7 Gy7 Rv7 Ru7 Rn7 Rm7 BE7
    go_wp2_with (first | ((with_reducible refine gate_st (t := 25) rfl ?_); refine st_au_new (y := M) (A := ARb) (c := cRb) (B := BRb) (d := eRb) _ _ rfl rfl rfl rfl rfl ?_) | ((with_reducible refine gate_ld (t := 25) rfl ?_); first | (refine ld_au (y := x) (A := A) (c := c) (B := B) (d := d) _ rfl (w.heap.size) rfl Gx8.out.blk rfl ?_) | (refine ld_au (y := y) (A := C) (c := f) (B := D) (d := g) _ rfl (w.heap.size + 1) rfl Gy8.out.blk rfl ?_) | (refine ld_au (y := V) (A := ARv) (c := cRv) (B := BRv) (d := eRv) _ rfl (w2.heap.size) rfl Rv8.out.blk rfl ?_) | (refine ld_au (y := V) (A := ARu) (c := cRu) (B := BRu) (d := eRu) _ rfl (w3.heap.size) rfl Ru8.out.blk rfl ?_) | (refine ld_au (y := N) (A := ARn) (c := cRn) (B := BRn) (d := eRn) _ rfl (w4.heap.size) rfl Rn8.out.blk rfl ?_) | (refine ld_au (y := V) (A := ARm) (c := cRm) (B := BRm) (d := eRm) _ rfl (w5.heap.size) rfl Rm8.out.blk rfl ?_) | (refine ld_au (y := M) (A := ARb) (c := cRb) (B := BRb) (d := eRb) _ rfl (w8.heap.size) rfl Rb8.out.blk rfl ?_)))
    refine (BOT.out _ Gx8.out.ard Gy8.out.ard).mono ?_
    rintro e w9 ⟨vn, va, rfl, hn, ha, hb⟩
    obtain ⟨ARp, cRp, rfl⟩ := Kd.R_slice hn
    obtain ⟨BRp, eRp, rfl⟩ := Kd.R_slice ha
    have Rp9 := Aside0.mk (RsA.new (base := w.heap.size) hn ha BE8.out.size)
    clear hn ha
    have Gx9 := Aside0.mk ((Gx8.out.keep hb).alloc (AB P ARp cRp BRp eRp))
    have Gy9 := Aside0.mk ((Gy8.out.keep hb).alloc (AB P ARp cRp BRp eRp))
    have Rv9 := Aside0.mk ((Rv8.out.keep hb).alloc (AB P ARp cRp BRp eRp))
    have Ru9 := Aside0.mk ((Ru8.out.keep hb).alloc (AB P ARp cRp BRp eRp))
    have Rn9 := Aside0.mk ((Rn8.out.keep hb).alloc (AB P ARp cRp BRp eRp))
    have Rm9 := Aside0.mk ((Rm8.out.keep hb).alloc (AB P ARp cRp BRp eRp))
    have Rb9 := Aside0.mk ((Rb8.out.keep hb).alloc (AB P ARp cRp BRp eRp))
    have BE9 := Lib.hid (bl_alloc (bl_then BE8.out hb) (AB P ARp cRp BRp eRp))
    clear hb Gx8 Gy8 Rv8 Ru8 Rn8 Rm8 Rb8 BE8
    go_wp2_with (first | ((with_reducible refine gate_st (t := 25) rfl ?_); refine st_au_new (y := P) (A := ARp) (c := cRp) (B := BRp) (d := eRp) _ _ rfl rfl rfl rfl rfl ?_) | ((with_reducible refine gate_ld (t := 25) rfl ?_); first | (refine ld_au (y := x) (A := A) (c := c) (B := B) (d := d) _ rfl (w.heap.size) rfl Gx9.out.blk rfl ?_) | (refine ld_au (y := y) (A := C) (c := f) (B := D) (d := g) _ rfl (w.heap.size + 1) rfl Gy9.out.blk rfl ?_) | (refine ld_au (y := V) (A := ARv) (c := cRv) (B := BRv) (d := eRv) _ rfl (w2.heap.size) rfl Rv9.out.blk rfl ?_) | (refine ld_au (y := V) (A := ARu) (c := cRu) (B := BRu) (d := eRu) _ rfl (w3.heap.size) rfl Ru9.out.blk rfl ?_) | (refine ld_au (y := N) (A := ARn) (c := cRn) (B := BRn) (d := eRn) _ rfl (w4.heap.size) rfl Rn9.out.blk rfl ?_) | (refine ld_au (y := V) (A := ARm) (c := cRm) (B := BRm) (d := eRm) _ rfl (w5.heap.size) rfl Rm9.out.blk rfl ?_) | (refine ld_au (y := M) (A := ARb) (c := cRb) (B := BRb) (d := eRb) _ rfl (w8.heap.size) rfl Rb9.out.blk rfl ?_) | (refine ld_au (y := P) (A := ARp) (c := cRp) (B := BRp) (d := eRp) _ rfl (w9.heap.size) rfl Rp9.out.blk rfl ?_)))
    refine (EIT.out ARn cRn BRn eRn ARb cRb BRb eRb _ Rn9.out.ard Rb9.out.ard).mono ?_
    rintro e w10 ⟨vn, va, rfl, hn, ha, hb⟩
    obtain ⟨ARq, cRq, rfl⟩ := Kd.R_slice hn
    obtain ⟨BRq, eRq, rfl⟩ := Kd.R_slice ha
    have Rq10 := Aside0.mk (RsA.new (base := w.heap.size) hn ha BE9.out.size)
    clear hn ha
    have Gx10 := Aside0.mk ((Gx9.out.keep hb).alloc (AB Q ARq cRq BRq eRq))
    have Gy10 := Aside0.mk ((Gy9.out.keep hb).alloc (AB Q ARq cRq BRq eRq))
    have Rv10 := Aside0.mk ((Rv9.out.keep hb).alloc (AB Q ARq cRq BRq eRq))
    have Ru10 := Aside0.mk ((Ru9.out.keep hb).alloc (AB Q ARq cRq BRq eRq))
    have Rn10 := Aside0.mk ((Rn9.out.keep hb).alloc (AB Q ARq cRq BRq eRq))
    have Rm10 := Aside0.mk ((Rm9.out.keep hb).alloc (AB Q ARq cRq BRq eRq))
    have Rb10 := Aside0.mk ((Rb9.out.keep hb).alloc (AB Q ARq cRq BRq eRq))
    have Rp10 := Aside0.mk ((Rp9.out.keep hb).alloc (AB Q ARq cRq BRq eRq))
    have BE10 := Lib.hid (bl_alloc (bl_then BE9.out hb) (AB Q ARq cRq BRq eRq))
    clear hb Gx9 Gy9 Rv9 Ru9 Rn9 Rm9 Rb9 Rp9 BE9
    by_cases hz : ee = 0
    · replace NBO := Aside0.mk (NBO.out hz)
      replace RBO := Aside0.mk (RBO.out hz)
      clear PC
      subst hz
      go_wp2_with (first | ((with_reducible refine gate_st (t := 25) rfl ?_); refine st_au_new (y := Q) (A := ARq) (c := cRq) (B := BRq) (d := eRq) _ _ rfl rfl rfl rfl rfl ?_) | ((with_reducible refine gate_ld (t := 25) rfl ?_); first | (refine ld_au (y := x) (A := A) (c := c) (B := B) (d := d) _ rfl (w.heap.size) rfl Gx10.out.blk rfl ?_) | (refine ld_au (y := y) (A := C) (c := f) (B := D) (d := g) _ rfl (w.heap.size + 1) rfl Gy10.out.blk rfl ?_) | (refine ld_au (y := V) (A := ARv) (c := cRv) (B := BRv) (d := eRv) _ rfl (w2.heap.size) rfl Rv10.out.blk rfl ?_) | (refine ld_au (y := V) (A := ARu) (c := cRu) (B := BRu) (d := eRu) _ rfl (w3.heap.size) rfl Ru10.out.blk rfl ?_) | (refine ld_au (y := N) (A := ARn) (c := cRn) (B := BRn) (d := eRn) _ rfl (w4.heap.size) rfl Rn10.out.blk rfl ?_) | (refine ld_au (y := V) (A := ARm) (c := cRm) (B := BRm) (d := eRm) _ rfl (w5.heap.size) rfl Rm10.out.blk rfl ?_) | (refine ld_au (y := M) (A := ARb) (c := cRb) (B := BRb) (d := eRb) _ rfl (w8.heap.size) rfl Rb10.out.blk rfl ?_) | (refine ld_au (y := P) (A := ARp) (c := cRp) (B := BRp) (d := eRp) _ rfl (w9.heap.size) rfl Rp10.out.blk rfl ?_) | (refine ld_au (y := Q) (A := ARq) (c := cRq) (B := BRq) (d := eRq) _ rfl (w10.heap.size) rfl Rq10.out.blk rfl ?_)))
      refine (num8_any _ _).mono ?_
      rintro e w' ⟨rfl, rfl⟩
      go_wp2_with fail
      refine (num8_any _ _).mono ?_
      rintro e w' ⟨rfl, rfl⟩
      go_wp2_with fail
      refine (num8_any _ _).mono ?_
      rintro e w' ⟨rfl, rfl⟩
      go_wp2_with fail
      refine (num8_any _ _).mono ?_
      rintro e w' ⟨rfl, rfl⟩
      go_wp2_with (((with_reducible refine gate_ld (t := 25) rfl ?_); first | (refine ld_au (y := x) (A := A) (c := c) (B := B) (d := d) _ rfl (w.heap.size) rfl Gx10.out.blk rfl ?_) | (refine ld_au (y := y) (A := C) (c := f) (B := D) (d := g) _ rfl (w.heap.size + 1) rfl Gy10.out.blk rfl ?_) | (refine ld_au (y := V) (A := ARv) (c := cRv) (B := BRv) (d := eRv) _ rfl (w2.heap.size) rfl Rv10.out.blk rfl ?_) | (refine ld_au (y := V) (A := ARu) (c := cRu) (B := BRu) (d := eRu) _ rfl (w3.heap.size) rfl Ru10.out.blk rfl ?_) | (refine ld_au (y := N) (A := ARn) (c := cRn) (B := BRn) (d := eRn) _ rfl (w4.heap.size) rfl Rn10.out.blk rfl ?_) | (refine ld_au (y := V) (A := ARm) (c := cRm) (B := BRm) (d := eRm) _ rfl (w5.heap.size) rfl Rm10.out.blk rfl ?_) | (refine ld_au (y := M) (A := ARb) (c := cRb) (B := BRb) (d := eRb) _ rfl (w8.heap.size) rfl Rb10.out.blk rfl ?_) | (refine ld_au (y := P) (A := ARp) (c := cRp) (B := BRp) (d := eRp) _ rfl (w9.heap.size) rfl Rp10.out.blk rfl ?_) | (refine ld_au (y := Q) (A := ARq) (c := cRq) (B := BRq) (d := eRq) _ rfl (w10.heap.size) rfl Rq10.out.blk rfl ?_)))
      refine (NBO.out ARp cRp BRp eRp _ Rp10.out.ard).mono ?_
      rintro e w11 ⟨vn, va, rfl, hn, ha, hb⟩
      obtain ⟨ARz, cRz, rfl⟩ := Kd.R_slice hn
      obtain ⟨BRz, eRz, rfl⟩ := Kd.R_slice ha
      have Rz11 := Aside0.mk (RsA.new (base := w.heap.size) hn ha BE10.out.size)
      clear hn ha
      have Gx11 := Aside0.mk ((Gx10.out.keep hb).alloc (AB Q ARz cRz BRz eRz))
      have Gy11 := Aside0.mk ((Gy10.out.keep hb).alloc (AB Q ARz cRz BRz eRz))
      have Rv11 := Aside0.mk ((Rv10.out.keep hb).alloc (AB Q ARz cRz BRz eRz))
      have Ru11 := Aside0.mk ((Ru10.out.keep hb).alloc (AB Q ARz cRz BRz eRz))
      have Rn11 := Aside0.mk ((Rn10.out.keep hb).alloc (AB Q ARz cRz BRz eRz))
      have Rm11 := Aside0.mk ((Rm10.out.keep hb).alloc (AB Q ARz cRz BRz eRz))
      have Rb11 := Aside0.mk ((Rb10.out.keep hb).alloc (AB Q ARz cRz BRz eRz))
      have Rp11 := Aside0.mk ((Rp10.out.keep hb).alloc (AB Q ARz cRz BRz eRz))
      have Rq11 := Aside0.mk ((Rq10.out.keep hb).alloc (AB Q ARz cRz BRz eRz))
      have BE11 := Lib.hid (bl_alloc (bl_then BE10.out hb) (AB Q ARz cRz BRz eRz))
      clear hb Gx10 Gy10 Rv10 Ru10 Rn10 Rm10 Rb10 Rp10 Rq10 BE10
      go_wp2_with (first | ((with_reducible refine gate_st (t := 25) rfl ?_); refine st_au_new (y := Q) (A := ARz) (c := cRz) (B := BRz) (d := eRz) _ _ rfl rfl rfl rfl rfl ?_) | ((with_reducible refine gate_ld (t := 25) rfl ?_); first | (refine ld_au (y := x) (A := A) (c := c) (B := B) (d := d) _ rfl (w.heap.size) rfl Gx11.out.blk rfl ?_) | (refine ld_au (y := y) (A := C) (c := f) (B := D) (d := g) _ rfl (w.heap.size + 1) rfl Gy11.out.blk rfl ?_) | (refine ld_au (y := V) (A := ARv) (c := cRv) (B := BRv) (d := eRv) _ rfl (w2.heap.size) rfl Rv11.out.blk rfl ?_) | (refine ld_au (y := V) (A := ARu) (c := cRu) (B := BRu) (d := eRu) _ rfl (w3.heap.size) rfl Ru11.out.blk rfl ?_) | (refine ld_au (y := N) (A := ARn) (c := cRn) (B := BRn) (d := eRn) _ rfl (w4.heap.size) rfl Rn11.out.blk rfl ?_) | (refine ld_au (y := V) (A := ARm) (c := cRm) (B := BRm) (d := eRm) _ rfl (w5.heap.size) rfl Rm11.out.blk rfl ?_) | (refine ld_au (y := M) (A := ARb) (c := cRb) (B := BRb) (d := eRb) _ rfl (w8.heap.size) rfl Rb11.out.blk rfl ?_) | (refine ld_au (y := P) (A := ARp) (c := cRp) (B := BRp) (d := eRp) _ rfl (w9.heap.size) rfl Rp11.out.blk rfl ?_) | (refine ld_au (y := Q) (A := ARq) (c := cRq) (B := BRq) (d := eRq) _ rfl (w10.heap.size) rfl Rq11.out.blk rfl ?_) | (refine ld_au (y := Q) (A := ARz) (c := cRz) (B := BRz) (d := eRz) _ rfl (w11.heap.size) rfl Rz11.out.blk rfl ?_)))
      refine (RBO.out ARp cRp BRp eRp _ Rp11.out.ard).mono ?_
      rintro e w12 ⟨vn, va, rfl, hn, ha, hb⟩
      obtain ⟨ARo, cRo, rfl⟩ := Kd.R_slice hn
      obtain ⟨BRo, eRo, rfl⟩ := Kd.R_slice ha
      have Ro12 := Aside0.mk (RsA.new (base := w.heap.size) hn ha BE11.out.size)
      clear hn ha
      have Gx12 := Aside0.mk ((Gx11.out.keep hb).alloc (AB P ARo cRo BRo eRo))
      have Gy12 := Aside0.mk ((Gy11.out.keep hb).alloc (AB P ARo cRo BRo eRo))
      have Rv12 := Aside0.mk ((Rv11.out.keep hb).alloc (AB P ARo cRo BRo eRo))
      have Ru12 := Aside0.mk ((Ru11.out.keep hb).alloc (AB P ARo cRo BRo eRo))
      have Rn12 := Aside0.mk ((Rn11.out.keep hb).alloc (AB P ARo cRo BRo eRo))
      have Rm12 := Aside0.mk ((Rm11.out.keep hb).alloc (AB P ARo cRo BRo eRo))
      have Rb12 := Aside0.mk ((Rb11.out.keep hb).alloc (AB P ARo cRo BRo eRo))
      have Rp12 := Aside0.mk ((Rp11.out.keep hb).alloc (AB P ARo cRo BRo eRo))
      have Rq12 := Aside0.mk ((Rq11.out.keep hb).alloc (AB P ARo cRo BRo eRo))
      have Rz12 := Aside0.mk ((Rz11.out.keep hb).alloc (AB P ARo cRo BRo eRo))
      have BE12 := Lib.hid (bl_alloc (bl_then BE11.out hb) (AB P ARo cRo BRo eRo))
      clear hb Gx11 Gy11 Rv11 Ru11 Rn11 Rm11 Rb11 Rp11 Rq11 Rz11 BE11
      go_wp2_with (first | ((with_reducible refine gate_st (t := 25) rfl ?_); refine st_au_new (y := P) (A := ARo) (c := cRo) (B := BRo) (d := eRo) _ _ rfl rfl rfl rfl rfl ?_) | ((with_reducible refine gate_ld (t := 25) rfl ?_); first | (refine ld_au (y := x) (A := A) (c := c) (B := B) (d := d) _ rfl (w.heap.size) rfl Gx12.out.blk rfl ?_) | (refine ld_au (y := y) (A := C) (c := f) (B := D) (d := g) _ rfl (w.heap.size + 1) rfl Gy12.out.blk rfl ?_) | (refine ld_au (y := V) (A := ARv) (c := cRv) (B := BRv) (d := eRv) _ rfl (w2.heap.size) rfl Rv12.out.blk rfl ?_) | (refine ld_au (y := V) (A := ARu) (c := cRu) (B := BRu) (d := eRu) _ rfl (w3.heap.size) rfl Ru12.out.blk rfl ?_) | (refine ld_au (y := N) (A := ARn) (c := cRn) (B := BRn) (d := eRn) _ rfl (w4.heap.size) rfl Rn12.out.blk rfl ?_) | (refine ld_au (y := V) (A := ARm) (c := cRm) (B := BRm) (d := eRm) _ rfl (w5.heap.size) rfl Rm12.out.blk rfl ?_) | (refine ld_au (y := M) (A := ARb) (c := cRb) (B := BRb) (d := eRb) _ rfl (w8.heap.size) rfl Rb12.out.blk rfl ?_) | (refine ld_au (y := P) (A := ARp) (c := cRp) (B := BRp) (d := eRp) _ rfl (w9.heap.size) rfl Rp12.out.blk rfl ?_) | (refine ld_au (y := Q) (A := ARq) (c := cRq) (B := BRq) (d := eRq) _ rfl (w10.heap.size) rfl Rq12.out.blk rfl ?_) | (refine ld_au (y := Q) (A := ARz) (c := cRz) (B := BRz) (d := eRz) _ rfl (w11.heap.size) rfl Rz12.out.blk rfl ?_) | (refine ld_au (y := P) (A := ARo) (c := cRo) (B := BRo) (d := eRo) _ rfl (w12.heap.size) rfl Ro12.out.blk rfl ?_)))
      refine (num8_any _ _).mono ?_
      rintro e w' ⟨rfl, rfl⟩
      go_wp2_with fail
      refine (num8_any _ _).mono ?_
      rintro e w' ⟨rfl, rfl⟩
      go_wp2_with (((with_reducible refine gate_ld (t := 25) rfl ?_); first | (refine ld_au (y := x) (A := A) (c := c) (B := B) (d := d) _ rfl (w.heap.size) rfl Gx12.out.blk rfl ?_) | (refine ld_au (y := y) (A := C) (c := f) (B := D) (d := g) _ rfl (w.heap.size + 1) rfl Gy12.out.blk rfl ?_) | (refine ld_au (y := V) (A := ARv) (c := cRv) (B := BRv) (d := eRv) _ rfl (w2.heap.size) rfl Rv12.out.blk rfl ?_) | (refine ld_au (y := V) (A := ARu) (c := cRu) (B := BRu) (d := eRu) _ rfl (w3.heap.size) rfl Ru12.out.blk rfl ?_) | (refine ld_au (y := N) (A := ARn) (c := cRn) (B := BRn) (d := eRn) _ rfl (w4.heap.size) rfl Rn12.out.blk rfl ?_) | (refine ld_au (y := V) (A := ARm) (c := cRm) (B := BRm) (d := eRm) _ rfl (w5.heap.size) rfl Rm12.out.blk rfl ?_) | (refine ld_au (y := M) (A := ARb) (c := cRb) (B := BRb) (d := eRb) _ rfl (w8.heap.size) rfl Rb12.out.blk rfl ?_) | (refine ld_au (y := P) (A := ARp) (c := cRp) (B := BRp) (d := eRp) _ rfl (w9.heap.size) rfl Rp12.out.blk rfl ?_) | (refine ld_au (y := Q) (A := ARq) (c := cRq) (B := BRq) (d := eRq) _ rfl (w10.heap.size) rfl Rq12.out.blk rfl ?_) | (refine ld_au (y := Q) (A := ARz) (c := cRz) (B := BRz) (d := eRz) _ rfl (w11.heap.size) rfl Rz12.out.blk rfl ?_) | (refine ld_au (y := P) (A := ARo) (c := cRo) (B := BRo) (d := eRo) _ rfl (w12.heap.size) rfl Ro12.out.blk rfl ?_)))
      have SM := samea_any Q Q ARz cRz BRz eRz ARq cRq BRq eRq _ Rz12.out.ard Rq12.out.ard
      rw [HSELF.out] at SM
      refine SM.mono ?_
      rintro e w13 ⟨rfl, hb⟩
      clear SM
      have Gx13 := Aside0.mk (Gx12.out.keep hb)
      have Gy13 := Aside0.mk (Gy12.out.keep hb)
      have Rv13 := Aside0.mk (Rv12.out.keep hb)
      have Ru13 := Aside0.mk (Ru12.out.keep hb)
      have Rn13 := Aside0.mk (Rn12.out.keep hb)
      have Rm13 := Aside0.mk (Rm12.out.keep hb)
      have Rb13 := Aside0.mk (Rb12.out.keep hb)
      have Rp13 := Aside0.mk (Rp12.out.keep hb)
      have Rq13 := Aside0.mk (Rq12.out.keep hb)
      have Rz13 := Aside0.mk (Rz12.out.keep hb)
      have Ro13 := Aside0.mk (Ro12.out.keep hb)
      have BE13 := Lib.hid (bl_then BE12.out hb)
      clear hb Gx12 Gy12 Rv12 Ru12 Rn12 Rm12 Rb12 Rp12 Rq12 Rz12 Ro12 BE12
      go_wp2_with (((with_reducible refine gate_ld (t := 25) rfl ?_); first | (refine ld_au (y := x) (A := A) (c := c) (B := B) (d := d) _ rfl (w.heap.size) rfl Gx13.out.blk rfl ?_) | (refine ld_au (y := y) (A := C) (c := f) (B := D) (d := g) _ rfl (w.heap.size + 1) rfl Gy13.out.blk rfl ?_) | (refine ld_au (y := V) (A := ARv) (c := cRv) (B := BRv) (d := eRv) _ rfl (w2.heap.size) rfl Rv13.out.blk rfl ?_) | (refine ld_au (y := V) (A := ARu) (c := cRu) (B := BRu) (d := eRu) _ rfl (w3.heap.size) rfl Ru13.out.blk rfl ?_) | (refine ld_au (y := N) (A := ARn) (c := cRn) (B := BRn) (d := eRn) _ rfl (w4.heap.size) rfl Rn13.out.blk rfl ?_) | (refine ld_au (y := V) (A := ARm) (c := cRm) (B := BRm) (d := eRm) _ rfl (w5.heap.size) rfl Rm13.out.blk rfl ?_) | (refine ld_au (y := M) (A := ARb) (c := cRb) (B := BRb) (d := eRb) _ rfl (w8.heap.size) rfl Rb13.out.blk rfl ?_) | (refine ld_au (y := P) (A := ARp) (c := cRp) (B := BRp) (d := eRp) _ rfl (w9.heap.size) rfl Rp13.out.blk rfl ?_) | (refine ld_au (y := Q) (A := ARq) (c := cRq) (B := BRq) (d := eRq) _ rfl (w10.heap.size) rfl Rq13.out.blk rfl ?_) | (refine ld_au (y := Q) (A := ARz) (c := cRz) (B := BRz) (d := eRz) _ rfl (w11.heap.size) rfl Rz13.out.blk rfl ?_) | (refine ld_au (y := P) (A := ARo) (c := cRo) (B := BRo) (d := eRo) _ rfl (w12.heap.size) rfl Ro13.out.blk rfl ?_)))
      have SM := samea_any P P ARo cRo BRo eRo ARp cRp BRp eRp _ Ro13.out.ard Rp13.out.ard
      rw [HSELF.out] at SM
      refine SM.mono ?_
      rintro e w14 ⟨rfl, hb⟩
      clear SM
      have Gx14 := Aside0.mk (Gx13.out.keep hb)
      have Gy14 := Aside0.mk (Gy13.out.keep hb)
      have Rv14 := Aside0.mk (Rv13.out.keep hb)
      have Ru14 := Aside0.mk (Ru13.out.keep hb)
      have Rn14 := Aside0.mk (Rn13.out.keep hb)
      have Rm14 := Aside0.mk (Rm13.out.keep hb)
      have Rb14 := Aside0.mk (Rb13.out.keep hb)
      have Rp14 := Aside0.mk (Rp13.out.keep hb)
      have Rq14 := Aside0.mk (Rq13.out.keep hb)
      have Rz14 := Aside0.mk (Rz13.out.keep hb)
      have Ro14 := Aside0.mk (Ro13.out.keep hb)
      have BE14 := Lib.hid (bl_then BE13.out hb)
      clear hb Gx13 Gy13 Rv13 Ru13 Rn13 Rm13 Rb13 Rp13 Rq13 Rz13 Ro13 BE13
      go_wp2_with fail
      refine (live8_any _).mono ?_
      rintro e wz ⟨rfl, hb⟩
      have HF := Lib.hid (bl_then BE14.out hb)
      clear hb
      go_wp2
      go_ret
      exact ⟨rfl, HF.out⟩
    · have h81 : ee = 81 := PC.resolve_left hz
      clear hz PC NBO RBO
      subst h81
      go_wp2_with (first | ((with_reducible refine gate_st (t := 25) rfl ?_); refine st_au_new (y := Q) (A := ARq) (c := cRq) (B := BRq) (d := eRq) _ _ rfl rfl rfl rfl rfl ?_) | ((with_reducible refine gate_ld (t := 25) rfl ?_); first | (refine ld_au (y := x) (A := A) (c := c) (B := B) (d := d) _ rfl (w.heap.size) rfl Gx10.out.blk rfl ?_) | (refine ld_au (y := y) (A := C) (c := f) (B := D) (d := g) _ rfl (w.heap.size + 1) rfl Gy10.out.blk rfl ?_) | (refine ld_au (y := V) (A := ARv) (c := cRv) (B := BRv) (d := eRv) _ rfl (w2.heap.size) rfl Rv10.out.blk rfl ?_) | (refine ld_au (y := V) (A := ARu) (c := cRu) (B := BRu) (d := eRu) _ rfl (w3.heap.size) rfl Ru10.out.blk rfl ?_) | (refine ld_au (y := N) (A := ARn) (c := cRn) (B := BRn) (d := eRn) _ rfl (w4.heap.size) rfl Rn10.out.blk rfl ?_) | (refine ld_au (y := V) (A := ARm) (c := cRm) (B := BRm) (d := eRm) _ rfl (w5.heap.size) rfl Rm10.out.blk rfl ?_) | (refine ld_au (y := M) (A := ARb) (c := cRb) (B := BRb) (d := eRb) _ rfl (w8.heap.size) rfl Rb10.out.blk rfl ?_) | (refine ld_au (y := P) (A := ARp) (c := cRp) (B := BRp) (d := eRp) _ rfl (w9.heap.size) rfl Rp10.out.blk rfl ?_) | (refine ld_au (y := Q) (A := ARq) (c := cRq) (B := BRq) (d := eRq) _ rfl (w10.heap.size) rfl Rq10.out.blk rfl ?_)))
      refine (num8_any _ _).mono ?_
      rintro e w' ⟨rfl, rfl⟩
      go_wp2_with fail
      refine (num8_any _ _).mono ?_
      rintro e w' ⟨rfl, rfl⟩
      go_wp2_with fail
      refine (num8_any _ _).mono ?_
      rintro e w' ⟨rfl, rfl⟩
      go_wp2_with fail
      refine (num8_any _ _).mono ?_
      rintro e w' ⟨rfl, rfl⟩
      go_wp2_with fail
      refine (num8_any _ _).mono ?_
      rintro e w' ⟨rfl, rfl⟩
      go_wp2_with fail
      refine (live8_any _).mono ?_
      rintro e wz ⟨rfl, hb⟩
      have HF := Lib.hid (bl_then BE10.out hb)
      clear hb
      go_wp2
      go_ret
      exact ⟨rfl, HF.out⟩
  · have hb2 : (twoE x y != 0) = true := by rw [bne_iff_ne]; exact h0
    clear h0 h00 hr hr' hsz hsz' HSELF
    generalize twoE x y = ee at *
    go_enter Try.func8, Try.ntmps8
    go_wp2_with (((with_reducible refine gate_ld (t := 25) rfl ?_); first | (refine ld_au (y := x) (A := A) (c := c) (B := B) (d := d) _ rfl (w.heap.size) rfl Gx0.out.blk rfl ?_) | (refine ld_au (y := y) (A := C) (c := f) (B := D) (d := g) _ rfl (w.heap.size + 1) rfl Gy0.out.blk rfl ?_)))
    refine (TW.out _ Gx0.out.ard Gy0.out.ard).mono ?_
    rintro e w1 ⟨rfl, hb⟩
    have Gx1 := Aside0.mk (Gx0.out.keep hb)
    have Gy1 := Aside0.mk (Gy0.out.keep hb)
    have BE1 := Lib.hid (bl_then BE0.out hb)
    clear hb Gx0 Gy0 BE0
    go_wp2_with fail
    refine (live8_any _).mono ?_
    rintro e wz ⟨rfl, hb⟩
    have HF := Lib.hid (bl_then BE1.out hb)
    clear hb
    go_wp2
    go_ret
    exact ⟨rfl, HF.out⟩
end Go.Proofs.Ytjckidjljkjhfaa
