/- The walk of the statement AutoMakes. -/
import Derived.Test.YtjckidjljkjhfaaC2
import Derived.Test.YtjckidjljkjhfaaC4
namespace Go.Proofs.Ytjckidjljkjhfaa
open Go.RowKit Go.Proofs.YtjckidjljkjhfaaW.PrintWords
set_option linter.unusedSimpArgs false
set_option linter.unusedVariables false
/-- An automaton that was told, in a variable. -/
structure RsA (V : AutV) (An : Option Addr) (cn : Nat) (Aa : Option Addr) (ca : Nat) (base g : Nat) (W : World) : Prop where
  blk : W.heap[g]? = some (AB V An cn Aa ca)
  own : Own W base (.slice An V.next.length cn) V.next
  ard : ARd W V An Aa
theorem RsA.keep {V : AutV} {An : Option Addr} {cn : Nat} {Aa : Option Addr} {ca : Nat} {base g : Nat} {W W' : World} (h : RsA V An cn Aa ca base g W) (hb : Below W.heap.size W W') : RsA V An cn Aa ca base g W' := ⟨hp_below' hb h.blk, Kd.R_below h.own hb, h.ard.below hb⟩
theorem RsA.alloc {V : AutV} {An : Option Addr} {cn : Nat} {Aa : Option Addr} {ca : Nat} {base g : Nat} {W : World} (h : RsA V An cn Aa ca base g W) (o : Obj) : RsA V An cn Aa ca base g (W.alloc o) := h.keep (bl_alloc (Below.refl _ _) o)
theorem RsA.new {V : AutV} {An : Option Addr} {cn : Nat} {Aa : Option Addr} {ca : Nat} {base b2 : Nat} {W : World} (hn : Own W b2 (.slice An V.next.length cn) V.next) (ha : Kd.R Kd.bool 4 W b2 (fun _ => True) (.slice Aa V.acc.length ca) V.acc) (hb : base ≤ b2) : RsA V An cn Aa ca base W.heap.size (W.alloc (AB V An cn Aa ca)) :=
  ⟨hp_new rfl, Kd.R_alloc (Kd.R_lower hn hb) _, ARd.below (x := V) ⟨(Kd.R_reads' hn).2.2, (Kd.R_reads' ha).2.2⟩ (bl_alloc (Below.refl _ _) _)⟩
theorem LwS.alloc {x : AutV} {A : Option Addr} {c : Nat} {B : Option Addr} {d : Nat} {X : Option Addr} {xc : Nat} {Y : Option Addr} {yc : Nat} {w : World} {g : Nat} {u : World} (h : LwS x A c B d X xc Y yc w g u) (o : Obj) : LwS x A c B d X xc Y yc w g (u.alloc o) := h.keep (bl_alloc (Below.refl _ _) o)
theorem fromV_small (x : AutV) (good : Nat → Bool) : (fromV x 0 good).next.length ≤ 17592186043904 := by
  unfold fromV
  split
  · rename_i h0
    have hx := autE_is h0
    have h1 := sr_aut (k := x.k.toNat) (step := stp x) (first := 0) (by have := hx.1; omega) (by have := hx.2.1; omega) good (sr_small hx (by have := hx.2.2.1; omega))
    have h2 := aut_mul h1.1 h1.2.1 h1.2.2.2.1
    have h3 := h1.2.2.2.2.1
    omega
  · exact Nat.zero_le _
set_option maxRecDepth 100000 in
set_option maxHeartbeats 2000000 in
theorem autoMakes_any (w : World) (x : AutV) (A : Option Addr) (c : Nat) (B : Option Addr) (d : Nat) (hr : ARd w x A B) (hsz : AutSz x c d) :
    Calls Try.prog 4 #[.agg (ac x A c B d)] w fun e w' => e = .returned (.bool true) ∧ Below w.heap.size w w' := by
  have HR := Aside0.mk hr
  have HZ := Lib.hid hsz
  have H0 := Lib.hid ((Hp.start w).alloc (AB x A c B d))
  have LN := Aside0.mk (fun (W : World) (h : ARd W x A B) => lenta_any x A c B d hsz W h)
  have LS1 := Aside0.mk (fun (X : Option Addr) (xc : Nat) (Y : Option Addr) (yc : Nat) (W : World) (h : ARd W x X Y) => least_any x X xc Y yc W h)
  have LR := Aside0.mk (fun (W : World) (h : ARd W x A B) => rleast_any x A c B d hsz W h)
  have RE := Aside0.mk (fun (X : Option Addr) (xc : Nat) (Y : Option Addr) (yc : Nat) (W : World) (h : ARd W x X Y) => reach_any x X xc Y yc W h)
  have RR := Aside0.mk (fun (W : World) (h : ARd W x A B) => rreach_any x A c B d hsz W h)
  have NT := Aside0.mk (fun (X : Option Addr) (xc : Nat) (Y : Option Addr) (yc : Nat) (W : World) (h : ARd W x X Y) => not_any x X xc Y yc W h)
  have NR := Aside0.mk (fun (W : World) (h : ARd W x A B) => rnot_any x A c B d hsz W h)
  have SV := Lib.hid (fromV_small x (fun s => rdOf false x.acc (s : Int)))
  have SN := Lib.hid (fromV_small x (fun s => !rdOf false x.acc (s : Int)))
  generalize fromV x 0 (fun s => rdOf false x.acc (s : Int)) = V at *
  generalize fromV x 0 (fun s => !rdOf false x.acc (s : Int)) = N at *
  generalize lstS x = ls at *
  generalize lstB x = lb at *
  generalize autE x = ee at *
  clear hr hsz
  go_enter Try.func4, Try.ntmps4
  go_wp2_with (refine ld_au _ rfl w.heap.size rfl (H0.out.at 0 rfl) rfl ?_)
  refine (LN.out _ (HR.out.below H0.out.2)).mono ?_
  rintro e w1 ⟨X, xc, Y, yc, rfl, hL⟩
  have S1 := Lib.hid (LwS.mk' HR.out hL)
  have HX1 := Aside0.mk (Kd.R_alloc (Kd.R_lower hL.1 H0.out.2.size) (AB x X xc Y yc))
  clear hL H0 LN
  go_wp2_with (first | ((with_reducible refine gate_st (t := 25) rfl ?_); refine st_au_new (y := x) (A := X) (c := xc) (B := Y) (d := yc) _ _ rfl rfl rfl rfl rfl ?_) | ((with_reducible refine gate_ld (t := 25) rfl ?_); refine ld_au (y := x) _ rfl w1.heap.size rfl S1.out.lent rfl ?_))
  refine (LS1.out X xc Y yc _ S1.out.ard).mono ?_
  rintro e w2 ⟨rfl, hb⟩
  have S2 := Lib.hid (S1.out.keep hb); have HX2 := Aside0.mk (Kd.R_below HX1.out hb)
  clear hb S1 HX1 LS1
  go_wp2_with ((with_reducible refine gate_ld (t := 25) rfl ?_); refine ld_au (y := x) _ rfl w.heap.size rfl S2.out.arg rfl ?_)
  refine (LR.out _ S2.out.rd).mono ?_
  rintro e w3 ⟨rfl, hb⟩
  have S3 := Lib.hid (S2.out.keep hb); have HX3 := Aside0.mk (Kd.R_below HX2.out hb)
  clear hb S2 HX2 LR
  go_wp2_with ((with_reducible refine gate_ld (t := 25) rfl ?_); refine ld_au (y := x) _ rfl w1.heap.size rfl S3.out.lent rfl ?_)
  refine (RE.out X xc Y yc _ S3.out.ard).mono ?_
  rintro e w4 ⟨vn, va, rfl, hn, ha, hb⟩
  have SXb := Aside0.mk (sep_base HX3.out hn)
  obtain ⟨Ab, cb, rfl⟩ := Kd.R_slice hn
  obtain ⟨Bb, eb, rfl⟩ := Kd.R_slice ha
  have Rb4 := Aside0.mk (RsA.new (base := w.heap.size) hn ha S3.out.bel.size)
  have S4 := Lib.hid ((S3.out.keep hb).alloc (AB V Ab cb Bb eb)); have HX4 := Aside0.mk (Kd.R_alloc (Kd.R_below HX3.out hb) (AB V Ab cb Bb eb))
  clear hn ha hb S3 HX3
  go_wp2_with (first | ((with_reducible refine gate_st (t := 25) rfl ?_); refine st_au_new (y := V) (A := Ab) (c := cb) (B := Bb) (d := eb) _ _ rfl rfl rfl rfl rfl ?_) | ((with_reducible refine gate_ld (t := 25) rfl ?_); refine ld_au (y := x) _ rfl w1.heap.size rfl S4.out.lent rfl ?_))
  refine (RE.out X xc Y yc _ S4.out.ard).mono ?_
  rintro e w5 ⟨vn, va, rfl, hn, ha, hb⟩
  have SXc := Aside0.mk (sep_base HX4.out hn)
  have Sbc := Aside0.mk (sep_base Rb4.out.own hn)
  obtain ⟨Ac, cc, rfl⟩ := Kd.R_slice hn
  obtain ⟨Bc, ec, rfl⟩ := Kd.R_slice ha
  have Rc5 := Aside0.mk (RsA.new (base := w.heap.size) hn ha S4.out.bel.size)
  have S5 := Lib.hid ((S4.out.keep hb).alloc (AB V Ac cc Bc ec)); have HX5 := Aside0.mk (Kd.R_alloc (Kd.R_below HX4.out hb) (AB V Ac cc Bc ec))
  have Rb5 := Aside0.mk ((Rb4.out.keep hb).alloc (AB V Ac cc Bc ec))
  clear hn ha hb S4 HX4 Rb4 RE
  go_wp2_with (first | ((with_reducible refine gate_st (t := 25) rfl ?_); refine st_au_new (y := V) (A := Ac) (c := cc) (B := Bc) (d := ec) _ _ rfl rfl rfl rfl rfl ?_) | ((with_reducible refine gate_ld (t := 25) rfl ?_); refine ld_au (y := x) _ rfl w.heap.size rfl S5.out.arg rfl ?_))
  refine (RR.out _ S5.out.rd).mono ?_
  rintro e w6 ⟨vn, va, rfl, hn, ha, hb⟩
  have SXd := Aside0.mk (sep_base HX5.out hn)
  have Sbd := Aside0.mk (sep_base Rb5.out.own hn)
  have Scd := Aside0.mk (sep_base Rc5.out.own hn)
  obtain ⟨Ad, cd, rfl⟩ := Kd.R_slice hn
  obtain ⟨Bd, ed, rfl⟩ := Kd.R_slice ha
  have Rd6 := Aside0.mk (RsA.new (base := w.heap.size) hn ha S5.out.bel.size)
  have S6 := Lib.hid ((S5.out.keep hb).alloc (AB V Ad cd Bd ed)); have HX6 := Aside0.mk (Kd.R_alloc (Kd.R_below HX5.out hb) (AB V Ad cd Bd ed))
  have Rb6 := Aside0.mk ((Rb5.out.keep hb).alloc (AB V Ad cd Bd ed))
  have Rc6 := Aside0.mk ((Rc5.out.keep hb).alloc (AB V Ad cd Bd ed))
  clear hn ha hb S5 HX5 Rb5 Rc5 RR
  go_wp2_with (first | ((with_reducible refine gate_st (t := 25) rfl ?_); refine st_au_new (y := V) (A := Ad) (c := cd) (B := Bd) (d := ed) _ _ rfl rfl rfl rfl rfl ?_) | ((with_reducible refine gate_ld (t := 25) rfl ?_); refine ld_au (y := x) _ rfl w1.heap.size rfl S6.out.lent rfl ?_))
  refine (NT.out X xc Y yc _ S6.out.ard).mono ?_
  rintro e w7 ⟨vn, va, rfl, hn, ha, hb⟩
  have SXn := Aside0.mk (sep_base HX6.out hn)
  have Sbn := Aside0.mk (sep_base Rb6.out.own hn)
  have Scn := Aside0.mk (sep_base Rc6.out.own hn)
  have Sdn := Aside0.mk (sep_base Rd6.out.own hn)
  obtain ⟨An, cn, rfl⟩ := Kd.R_slice hn
  obtain ⟨Bn, en, rfl⟩ := Kd.R_slice ha
  have Rn7 := Aside0.mk (RsA.new (base := w.heap.size) hn ha S6.out.bel.size)
  have S7 := Lib.hid ((S6.out.keep hb).alloc (AB N An cn Bn en)); have HX7 := Aside0.mk (Kd.R_alloc (Kd.R_below HX6.out hb) (AB N An cn Bn en))
  have Rb7 := Aside0.mk ((Rb6.out.keep hb).alloc (AB N An cn Bn en))
  have Rc7 := Aside0.mk ((Rc6.out.keep hb).alloc (AB N An cn Bn en))
  have Rd7 := Aside0.mk ((Rd6.out.keep hb).alloc (AB N An cn Bn en))
  clear hn ha hb S6 HX6 Rb6 Rc6 Rd6 NT
  go_wp2_with (first | ((with_reducible refine gate_st (t := 25) rfl ?_); refine st_au_new (y := N) (A := An) (c := cn) (B := Bn) (d := en) _ _ rfl rfl rfl rfl rfl ?_) | ((with_reducible refine gate_ld (t := 25) rfl ?_); refine ld_au (y := x) _ rfl w.heap.size rfl S7.out.arg rfl ?_))
  refine (NR.out _ S7.out.rd).mono ?_
  rintro e w8 ⟨vn, va, rfl, hn, ha, hb⟩
  have SXo := Aside0.mk (sep_base HX7.out hn)
  have Sbo := Aside0.mk (sep_base Rb7.out.own hn)
  have Sco := Aside0.mk (sep_base Rc7.out.own hn)
  have Sdo := Aside0.mk (sep_base Rd7.out.own hn)
  have Sno := Aside0.mk (sep_base Rn7.out.own hn)
  obtain ⟨Ao, co, rfl⟩ := Kd.R_slice hn
  obtain ⟨Bo, eo, rfl⟩ := Kd.R_slice ha
  have Ro8 := Aside0.mk (RsA.new (base := w.heap.size) hn ha S7.out.bel.size)
  have S8 := Lib.hid ((S7.out.keep hb).alloc (AB N Ao co Bo eo)); have HX8 := Aside0.mk (Kd.R_alloc (Kd.R_below HX7.out hb) (AB N Ao co Bo eo))
  have Rb8 := Aside0.mk ((Rb7.out.keep hb).alloc (AB N Ao co Bo eo))
  have Rc8 := Aside0.mk ((Rc7.out.keep hb).alloc (AB N Ao co Bo eo))
  have Rd8 := Aside0.mk ((Rd7.out.keep hb).alloc (AB N Ao co Bo eo))
  have Rn8 := Aside0.mk ((Rn7.out.keep hb).alloc (AB N Ao co Bo eo))
  clear hn ha hb S7 HX7 Rb7 Rc7 Rd7 Rn7 NR
  go_wp2_with ((with_reducible refine gate_st (t := 25) rfl ?_); refine st_au_new (y := N) (A := Ao) (c := co) (B := Bo) (d := eo) _ _ rfl rfl rfl rfl rfl ?_)
  refine (num8_any _ _).mono ?_
  rintro e w' ⟨rfl, rfl⟩
  go_wp2_with fail
  refine (num8_any _ _).mono ?_
  rintro e w' ⟨rfl, rfl⟩
  go_wp2_with fail
  refine (num8_any _ _).mono ?_
  rintro e w' ⟨rfl, rfl⟩
  have hself : ∀ V : AutV, sameV V V = true := fun V => decide_eq_true ⟨rfl, rfl, rfl⟩
  have HSELF := Aside0.mk hself
  clear hself
  go_wp2_with (first | ((with_reducible refine gate_ld (t := 25) rfl ?_); refine ld_au (y := V) _ rfl w4.heap.size rfl Rb8.out.blk rfl ?_) | ((with_reducible refine gate_ld (t := 25) rfl ?_); refine ld_au (y := V) _ rfl w6.heap.size rfl Rd8.out.blk rfl ?_))
  have SM := samea_any V V Ab cb Bb eb Ad cd Bd ed _ Rb8.out.ard Rd8.out.ard
  rw [HSELF.out] at SM
  refine SM.mono ?_
  rintro e w9 ⟨rfl, hb⟩
  have S9 := Lib.hid (S8.out.keep hb); have HX9 := Aside0.mk (Kd.R_below HX8.out hb)
  have Rb9 := Aside0.mk (Rb8.out.keep hb)
  have Rc9 := Aside0.mk (Rc8.out.keep hb)
  have Rd9 := Aside0.mk (Rd8.out.keep hb)
  have Rn9 := Aside0.mk (Rn8.out.keep hb)
  have Ro9 := Aside0.mk (Ro8.out.keep hb)
  clear hb SM S8 HX8 Rb8 Rc8 Rd8 Rn8 Ro8
  go_wp2_with (first | ((with_reducible refine gate_ld (t := 25) rfl ?_); refine ld_au (y := V) _ rfl w5.heap.size rfl Rc9.out.blk rfl ?_) | ((with_reducible refine gate_ld (t := 25) rfl ?_); refine ld_au (y := V) _ rfl w6.heap.size rfl Rd9.out.blk rfl ?_))
  have SM := samea_any V V Ac cc Bc ec Ad cd Bd ed _ Rc9.out.ard Rd9.out.ard
  rw [HSELF.out] at SM
  refine SM.mono ?_
  rintro e w10 ⟨rfl, hb⟩
  have S10 := Lib.hid (S9.out.keep hb); have HX10 := Aside0.mk (Kd.R_below HX9.out hb)
  have Rb10 := Aside0.mk (Rb9.out.keep hb)
  have Rc10 := Aside0.mk (Rc9.out.keep hb)
  have Rd10 := Aside0.mk (Rd9.out.keep hb)
  have Rn10 := Aside0.mk (Rn9.out.keep hb)
  have Ro10 := Aside0.mk (Ro9.out.keep hb)
  clear hb SM S9 HX9 Rb9 Rc9 Rd9 Rn9 Ro9
  go_wp2_with (first | ((with_reducible refine gate_ld (t := 25) rfl ?_); refine ld_au (y := N) _ rfl w7.heap.size rfl Rn10.out.blk rfl ?_) | ((with_reducible refine gate_ld (t := 25) rfl ?_); refine ld_au (y := N) _ rfl w8.heap.size rfl Ro10.out.blk rfl ?_))
  have SM := samea_any N N An cn Bn en Ao co Bo eo _ Rn10.out.ard Ro10.out.ard
  rw [HSELF.out] at SM
  refine SM.mono ?_
  rintro e w11 ⟨rfl, hb⟩
  have S11 := Lib.hid (S10.out.keep hb); have HX11 := Aside0.mk (Kd.R_below HX10.out hb)
  have Rb11 := Aside0.mk (Rb10.out.keep hb)
  have Rc11 := Aside0.mk (Rc10.out.keep hb)
  have Rd11 := Aside0.mk (Rd10.out.keep hb)
  have Rn11 := Aside0.mk (Rn10.out.keep hb)
  have Ro11 := Aside0.mk (Ro10.out.keep hb)
  clear hb SM S10 HX10 Rb10 Rc10 Rd10 Rn10 Ro10
  go_wp2_with (first | ((with_reducible refine gate_ld (t := 25) rfl ?_); refine ld_au (y := x) _ rfl w1.heap.size rfl S11.out.lent rfl ?_) | ((with_reducible refine gate_ld (t := 25) rfl ?_); refine ld_au (y := x) _ rfl w.heap.size rfl S11.out.arg rfl ?_))
  refine (stay8_any x X xc Y yc A c B d HZ.out _ S11.out.nx S11.out.xcl S11.out.ac S11.out.ycl S11.out.rd).mono ?_
  rintro e w12 ⟨rfl, hb⟩
  have S12 := Lib.hid (S11.out.keep hb); have HX12 := Aside0.mk (Kd.R_below HX11.out hb)
  have Rb12 := Aside0.mk (Rb11.out.keep hb)
  have Rc12 := Aside0.mk (Rc11.out.keep hb)
  have Rd12 := Aside0.mk (Rd11.out.keep hb)
  have Rn12 := Aside0.mk (Rn11.out.keep hb)
  have Ro12 := Aside0.mk (Ro11.out.keep hb)
  clear hb S11 HX11 Rb11 Rc11 Rd11 Rn11 Ro11
  have qb : w12.cell? ⟨w4.heap.size, 1, none⟩ = some (.slice Ab V.next.length cb) := by rw [cell_of_row _ _ _ _ _ _ Rb12.out.blk]; rfl
  have qc : w12.cell? ⟨w5.heap.size, 1, none⟩ = some (.slice Ac V.next.length cc) := by rw [cell_of_row _ _ _ _ _ _ Rc12.out.blk]; rfl
  have qn : w12.cell? ⟨w7.heap.size, 1, none⟩ = some (.slice An N.next.length cn) := by rw [cell_of_row _ _ _ _ _ _ Rn12.out.blk]; rfl
  have qx : w12.cell? ⟨w1.heap.size, 1, none⟩ = some (.slice X x.next.length xc) := by rw [cell_of_row _ _ _ _ _ _ S12.out.lent]; rfl
  go_wp2_with fail
  have AP := apart4 Ab Ac An X V.next.length V.next.length N.next.length x.next.length cb cc cn xc Rb12.out.own Rc12.out.own Rn12.out.own (Kd.R_take (m := x.next.length) HX12.out (by simp)) SV.out SV.out SN.out (by have := HZ.out.2.2.1; omega) Sbc.out Sbn.out (sep_len SXb.out).symm Scn.out (sep_len SXc.out).symm (sep_len SXn.out).symm S12.out.bel.size
  refine AP.mono ?_
  rintro e w13 ⟨rfl, hb⟩
  have HB13 := Lib.hid (S12.out.bel.trans hb)
  clear AP hb S12 HX12 Rb12 Rc12 Rd12 Rn12 Ro12 qb qc qn qx
  go_wp2_with fail
  refine (live8_any _).mono ?_
  rintro e w14 ⟨rfl, hb⟩
  have HB14 := Lib.hid (bl_then HB13.out hb)
  clear hb
  go_wp2
  go_ret
  exact ⟨rfl, HB14.out⟩
end Go.Proofs.Ytjckidjljkjhfaa
