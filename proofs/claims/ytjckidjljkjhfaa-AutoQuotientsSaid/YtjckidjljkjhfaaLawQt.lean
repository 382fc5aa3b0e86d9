/- The walk of the statement AutoQuotients. -/
import Derived.Test.YtjckidjljkjhfaaQtW
import Derived.Test.YtjckidjljkjhfaaQtB
import Derived.Test.YtjckidjljkjhfaaRsA
namespace Go.Proofs.Ytjckidjljkjhfaa
open Go.RowKit Go.Proofs.YtjckidjljkjhfaaW.PrintWords
set_option linter.unusedSimpArgs false
set_option linter.unusedVariables false
theorem LentA.ard {x : AutV} {w w' : World} {X : Option Addr} {xc : Nat} {Y : Option Addr} {yc : Nat} (h : LentA x w w' X xc Y yc) : ARd w' x X Y := ⟨by
  have := Kd.C_take (m := x.next.length) (Kd.R_reads' h.1).2.2 (by simp)
  simpa using this, (Kd.R_reads' h.2.1).2.2⟩
set_option maxRecDepth 100000 in
set_option maxHeartbeats 2000000 in
theorem autoQuotients_any (w : World) (x : AutV) (A : Option Addr) (c : Nat) (B : Option Addr) (d : Nat) (hr : ARd w x A B) (hsz : AutSz x c d) (u : ByteArray) (hu : u.size ≤ 140737488351232) (v : ByteArray) (hv : v.size ≤ 140737488351232) :
    Calls Try.prog 6 #[.agg (ac x A c B d), .string u, .string v] w fun e w' => e = .returned (.bool true) ∧ Below w.heap.size w w' := by
  have HR := Aside0.mk hr
  have HA0 := Lib.hid (show (w.alloc (AB x A c B d)).heap[w.heap.size]? = some (AB x A c B d) ∧ Below w.heap.size w (w.alloc (AB x A c B d)) from ⟨hp_new rfl, bl_alloc (Below.refl _ _) _⟩)
  have LN := Aside0.mk (fun (W : World) (h : ARd W x A B) => lenta_any x A c B d hsz W h)
  have AH := Aside0.mk (fun (X : Option Addr) (xc : Nat) (Y : Option Addr) (yc : Nat) (W : World) (h : ARd W x X Y) => ahead_any x X xc Y yc u (by omega) W h)
  have RA := Aside0.mk (fun (W : World) (h : ARd W x A B) => rahead_any x A c B d hsz u hu W h)
  have BH := Aside0.mk (fun (X : Option Addr) (xc : Nat) (Y : Option Addr) (yc : Nat) (W : World) (h : ARd W x X Y) => behind_any x X xc Y yc v (by omega) W h)
  have RB := Aside0.mk (fun (W : World) (h : ARd W x A B) => rbehind_any x A c B d hsz v hv W h)
  have AUV := Aside0.mk (fun (hu0 : runE x 0 u = 0) (hv0 : runE x 0 v = 0) (W : World) (h : ARd W x A B) => (by
    have h1 := ahead_any x A c B d (u ++ v) (by rw [ByteArray.size_append]; omega) W h
    rw [(ah_ah hu0 hv0).2.1] at h1
    exact h1 : Calls Try.prog 32 #[.agg (ac x A c B d), .string (u ++ v)] W fun e w' => ∃ vn va, e = .returned (.tuple #[.agg #[.int .i64 (ahV x (u ++ v)).k, vn, va], .int .i64 0]) ∧ Own w' W.heap.size vn (ahV x (u ++ v)).next ∧ Kd.R Kd.bool 4 w' W.heap.size (fun _ => True) va (ahV x (u ++ v)).acc ∧ Below W.heap.size W w'))
  have APV := Aside0.mk (fun (hu0 : runE x 0 u = 0) (hv0 : runE x 0 v = 0) (X : Option Addr) (xc : Nat) (Y : Option Addr) (yc : Nat) (W : World) (h : ARd W (ahV x u) X Y) => (by
    have h1 := ahead_any (ahV x u) X xc Y yc v (by omega) W h
    rw [(ah_ah hu0 hv0).1, (ah_ah hu0 hv0).2.2] at h1
    exact h1 : Calls Try.prog 32 #[.agg (ac (ahV x u) X xc Y yc), .string v] W fun e w' => ∃ vn va, e = .returned (.tuple #[.agg #[.int .i64 (ahV x (u ++ v)).k, vn, va], .int .i64 0]) ∧ Own w' W.heap.size vn (ahV x (u ++ v)).next ∧ Kd.R Kd.bool 4 w' W.heap.size (fun _ => True) va (ahV x (u ++ v)).acc ∧ Below W.heap.size W w'))
  have BUV := Aside0.mk (fun (hu0 : runE x 0 u = 0) (hv0 : runE x 0 v = 0) (W : World) (h : ARd W x A B) => (by
    have h1 := behind_any x A c B d (u ++ v) (by rw [ByteArray.size_append]; omega) W h
    rw [(ah_ah hu0 hv0).2.1] at h1
    exact h1 : Calls Try.prog 34 #[.agg (ac x A c B d), .string (u ++ v)] W fun e w' => ∃ vn va, e = .returned (.tuple #[.agg #[.int .i64 (bhV x (u ++ v)).k, vn, va], .int .i64 0]) ∧ Own w' W.heap.size vn (bhV x (u ++ v)).next ∧ Kd.R Kd.bool 4 w' W.heap.size (fun _ => True) va (bhV x (u ++ v)).acc ∧ Below W.heap.size W w'))
  have BRU := Aside0.mk (fun (hu0 : runE x 0 u = 0) (hv0 : runE x 0 v = 0) (X : Option Addr) (xc : Nat) (Y : Option Addr) (yc : Nat) (W : World) (h : ARd W (bhV x v) X Y) => (by
    have h1 := behind_any (bhV x v) X xc Y yc u (by omega) W h
    rw [(bh_bh hu0 hv0).1, (bh_bh hu0 hv0).2] at h1
    exact h1 : Calls Try.prog 34 #[.agg (ac (bhV x v) X xc Y yc), .string u] W fun e w' => ∃ vn va, e = .returned (.tuple #[.agg #[.int .i64 (bhV x (u ++ v)).k, vn, va], .int .i64 0]) ∧ Own w' W.heap.size vn (bhV x (u ++ v)).next ∧ Kd.R Kd.bool 4 w' W.heap.size (fun _ => True) va (bhV x (u ++ v)).acc ∧ Below W.heap.size W w'))
  have hself : ∀ V : AutV, sameV V V = true := fun V => decide_eq_true ⟨rfl, rfl, rfl⟩
  have HSELF := Aside0.mk hself
  generalize ahV x (u ++ v) = PQ at *
  generalize bhV x (u ++ v) = RS at *
  generalize ahV x u = P at *
  generalize bhV x v = Q at *
  generalize runE x 0 u = eu at *
  generalize runE x 0 v = ev at *
  clear hr hsz hself
  go_enter Try.func6, Try.ntmps6
  go_wp2_with ((with_reducible refine gate_ld (t := 25) rfl ?_); refine ld_au (y := x) _ rfl w.heap.size rfl HA0.out.1 rfl ?_)
  refine (LN.out _ (HR.out.below HA0.out.2)).mono ?_
  rintro e w1 ⟨X, xc, Y, yc, rfl, hL⟩
  have hb := hL.2.2
  have HA1 := Lib.hid (show w1.heap[w.heap.size]? = some (AB x A c B d) ∧ Below w.heap.size w w1 from ⟨hp_below' hb HA0.out.1, bl_then HA0.out.2 hb⟩)
  have HLA := Aside0.mk hL.ard
  clear hb HA0 hL
  go_wp2_with fail
  refine (AH.out X xc Y yc _ HLA.out).mono ?_
  rintro e w2 ⟨vn, va, rfl, hn, ha, hb⟩
  obtain ⟨Ap, cp, rfl⟩ := Kd.R_slice hn
  obtain ⟨Bp, ep, rfl⟩ := Kd.R_slice ha
  have Rp2 := Aside0.mk (RsA.new (base := w.heap.size) hn ha HA1.out.2.size)
  have HA2 := Lib.hid (show (w2.alloc (AB P Ap cp Bp ep)).heap[w.heap.size]? = some (AB x A c B d) ∧ Below w.heap.size w (w2.alloc (AB P Ap cp Bp ep)) from ⟨hp_old (hp_below' hb HA1.out.1), bl_alloc (bl_then HA1.out.2 hb) _⟩)
  clear hb HA1 hn ha
  clear AH HLA
  go_wp2_with (first | ((with_reducible refine gate_st (t := 25) rfl ?_); refine st_au_new (y := P) (A := Ap) (c := cp) (B := Bp) (d := ep) _ _ rfl rfl rfl rfl rfl ?_) | ((with_reducible refine gate_ld (t := 25) rfl ?_); refine ld_au (y := x) _ rfl w.heap.size rfl HA2.out.1 rfl ?_))
  refine (RA.out _ (HR.out.below HA2.out.2)).mono ?_
  rintro e w3 ⟨vn, va, rfl, hn, ha, hb⟩
  obtain ⟨Aq, cq, rfl⟩ := Kd.R_slice hn
  obtain ⟨Bq, eq, rfl⟩ := Kd.R_slice ha
  have Rq3 := Aside0.mk (RsA.new (base := w.heap.size) hn ha HA2.out.2.size)
  have HA3 := Lib.hid (show (w3.alloc (AB P Aq cq Bq eq)).heap[w.heap.size]? = some (AB x A c B d) ∧ Below w.heap.size w (w3.alloc (AB P Aq cq Bq eq)) from ⟨hp_old (hp_below' hb HA2.out.1), bl_alloc (bl_then HA2.out.2 hb) _⟩)
  have Rp3 := Aside0.mk ((Rp2.out.keep hb).alloc (AB P Aq cq Bq eq))
  clear hb HA2 Rp2 hn ha
  clear RA
  go_wp2_with (first | ((with_reducible refine gate_st (t := 25) rfl ?_); refine st_au_new (y := P) (A := Aq) (c := cq) (B := Bq) (d := eq) _ _ rfl rfl rfl rfl rfl ?_) | ((with_reducible refine gate_ld (t := 25) rfl ?_); refine ld_au (y := x) _ rfl w.heap.size rfl HA3.out.1 rfl ?_))
  refine (LN.out _ (HR.out.below HA3.out.2)).mono ?_
  rintro e w4 ⟨X, xc, Y, yc, rfl, hL⟩
  have hb := hL.2.2
  have HA4 := Lib.hid (show w4.heap[w.heap.size]? = some (AB x A c B d) ∧ Below w.heap.size w w4 from ⟨hp_below' hb HA3.out.1, bl_then HA3.out.2 hb⟩)
  have HLA := Aside0.mk hL.ard
  have Rp4 := Aside0.mk (Rp3.out.keep hb)
  have Rq4 := Aside0.mk (Rq3.out.keep hb)
  clear hb HA3 Rp3 Rq3 hL
  go_wp2_with fail
  refine (BH.out X xc Y yc _ HLA.out).mono ?_
  rintro e w5 ⟨vn, va, rfl, hn, ha, hb⟩
  obtain ⟨Ar, cr, rfl⟩ := Kd.R_slice hn
  obtain ⟨Br, er, rfl⟩ := Kd.R_slice ha
  have Rr5 := Aside0.mk (RsA.new (base := w.heap.size) hn ha HA4.out.2.size)
  have HA5 := Lib.hid (show (w5.alloc (AB Q Ar cr Br er)).heap[w.heap.size]? = some (AB x A c B d) ∧ Below w.heap.size w (w5.alloc (AB Q Ar cr Br er)) from ⟨hp_old (hp_below' hb HA4.out.1), bl_alloc (bl_then HA4.out.2 hb) _⟩)
  have Rp5 := Aside0.mk ((Rp4.out.keep hb).alloc (AB Q Ar cr Br er))
  have Rq5 := Aside0.mk ((Rq4.out.keep hb).alloc (AB Q Ar cr Br er))
  clear hb HA4 Rp4 Rq4 hn ha
  clear BH HLA
  go_wp2_with (first | ((with_reducible refine gate_st (t := 25) rfl ?_); refine st_au_new (y := Q) (A := Ar) (c := cr) (B := Br) (d := er) _ _ rfl rfl rfl rfl rfl ?_) | ((with_reducible refine gate_ld (t := 25) rfl ?_); refine ld_au (y := x) _ rfl w.heap.size rfl HA5.out.1 rfl ?_))
  refine (RB.out _ (HR.out.below HA5.out.2)).mono ?_
  rintro e w6 ⟨vn, va, rfl, hn, ha, hb⟩
  obtain ⟨As, cs, rfl⟩ := Kd.R_slice hn
  obtain ⟨Bs, es, rfl⟩ := Kd.R_slice ha
  have Rs6 := Aside0.mk (RsA.new (base := w.heap.size) hn ha HA5.out.2.size)
  have HA6 := Lib.hid (show (w6.alloc (AB Q As cs Bs es)).heap[w.heap.size]? = some (AB x A c B d) ∧ Below w.heap.size w (w6.alloc (AB Q As cs Bs es)) from ⟨hp_old (hp_below' hb HA5.out.1), bl_alloc (bl_then HA5.out.2 hb) _⟩)
  have Rp6 := Aside0.mk ((Rp5.out.keep hb).alloc (AB Q As cs Bs es))
  have Rq6 := Aside0.mk ((Rq5.out.keep hb).alloc (AB Q As cs Bs es))
  have Rr6 := Aside0.mk ((Rr5.out.keep hb).alloc (AB Q As cs Bs es))
  clear hb HA5 Rp5 Rq5 Rr5 hn ha
  clear RB
  go_wp2_with (first | ((with_reducible refine gate_st (t := 25) rfl ?_); refine st_au_new (y := Q) (A := As) (c := cs) (B := Bs) (d := es) _ _ rfl rfl rfl rfl rfl ?_) | ((with_reducible refine gate_ld (t := 25) rfl ?_); refine ld_au (y := P) _ rfl w2.heap.size rfl Rp6.out.blk rfl ?_) | ((with_reducible refine gate_ld (t := 25) rfl ?_); refine ld_au (y := P) _ rfl w3.heap.size rfl Rq6.out.blk rfl ?_))
  have SM := samea_any P P Ap cp Bp ep Aq cq Bq eq _ Rp6.out.ard Rq6.out.ard
  rw [HSELF.out] at SM
  refine SM.mono ?_
  rintro e w7 ⟨rfl, hb⟩
  have HA7 := Lib.hid (show w7.heap[w.heap.size]? = some (AB x A c B d) ∧ Below w.heap.size w w7 from ⟨hp_below' hb HA6.out.1, bl_then HA6.out.2 hb⟩)
  have Rp7 := Aside0.mk (Rp6.out.keep hb)
  have Rq7 := Aside0.mk (Rq6.out.keep hb)
  have Rr7 := Aside0.mk (Rr6.out.keep hb)
  have Rs7 := Aside0.mk (Rs6.out.keep hb)
  clear hb HA6 Rp6 Rq6 Rr6 Rs6 SM
  go_wp2_with fail
  refine (num8_any _ _).mono ?_
  rintro e w' ⟨rfl, rfl⟩
  go_wp2_with (first | ((with_reducible refine gate_ld (t := 25) rfl ?_); refine ld_au (y := Q) _ rfl w5.heap.size rfl Rr7.out.blk rfl ?_) | ((with_reducible refine gate_ld (t := 25) rfl ?_); refine ld_au (y := Q) _ rfl w6.heap.size rfl Rs7.out.blk rfl ?_))
  have SM := samea_any Q Q Ar cr Br er As cs Bs es _ Rr7.out.ard Rs7.out.ard
  rw [HSELF.out] at SM
  refine SM.mono ?_
  rintro e w8 ⟨rfl, hb⟩
  have HA8 := Lib.hid (show w8.heap[w.heap.size]? = some (AB x A c B d) ∧ Below w.heap.size w w8 from ⟨hp_below' hb HA7.out.1, bl_then HA7.out.2 hb⟩)
  have Rp8 := Aside0.mk (Rp7.out.keep hb)
  have Rq8 := Aside0.mk (Rq7.out.keep hb)
  have Rr8 := Aside0.mk (Rr7.out.keep hb)
  have Rs8 := Aside0.mk (Rs7.out.keep hb)
  clear hb HA7 Rp7 Rq7 Rr7 Rs7 SM
  go_wp2_with fail
  refine (num8_any _ _).mono ?_
  rintro e w' ⟨rfl, rfl⟩
  go_wp2_with fail
  refine (num8_any _ _).mono ?_
  rintro e w' ⟨rfl, rfl⟩
  by_cases h00 : eu = 0 ∧ ev = 0
  · obtain ⟨hu0, hv0⟩ := h00
    replace AUV := Aside0.mk (AUV.out hu0 hv0)
    replace APV := Aside0.mk (APV.out hu0 hv0)
    replace BUV := Aside0.mk (BUV.out hu0 hv0)
    replace BRU := Aside0.mk (BRU.out hu0 hv0)
    subst hu0
    subst hv0
    go_wp2_with fail
    refine (num8_any _ _).mono ?_
    rintro e w' ⟨rfl, rfl⟩
    have hsz : u.size + v.size ≤ 9223372036854775807 := by omega
    go_wp2_with ((with_reducible refine gate_ld (t := 25) rfl ?_); refine ld_au (y := x) _ rfl w.heap.size rfl HA8.out.1 rfl ?_)
    refine (AUV.out _ (HR.out.below HA8.out.2)).mono ?_
    rintro e w9 ⟨vn, va, rfl, hn, ha, hb⟩
    obtain ⟨Af, cf, rfl⟩ := Kd.R_slice hn
    obtain ⟨Bf, ef, rfl⟩ := Kd.R_slice ha
    have Rf9 := Aside0.mk (RsA.new (base := w.heap.size) hn ha HA8.out.2.size)
    have HA9 := Lib.hid (show (w9.alloc (AB PQ Af cf Bf ef)).heap[w.heap.size]? = some (AB x A c B d) ∧ Below w.heap.size w (w9.alloc (AB PQ Af cf Bf ef)) from ⟨hp_old (hp_below' hb HA8.out.1), bl_alloc (bl_then HA8.out.2 hb) _⟩)
    have Rp9 := Aside0.mk ((Rp8.out.keep hb).alloc (AB PQ Af cf Bf ef))
    have Rq9 := Aside0.mk ((Rq8.out.keep hb).alloc (AB PQ Af cf Bf ef))
    have Rr9 := Aside0.mk ((Rr8.out.keep hb).alloc (AB PQ Af cf Bf ef))
    have Rs9 := Aside0.mk ((Rs8.out.keep hb).alloc (AB PQ Af cf Bf ef))
    clear hb HA8 Rp8 Rq8 Rr8 Rs8 hn ha
    go_wp2_with (first | ((with_reducible refine gate_st (t := 25) rfl ?_); refine st_au_new (y := PQ) (A := Af) (c := cf) (B := Bf) (d := ef) _ _ rfl rfl rfl rfl rfl ?_) | ((with_reducible refine gate_ld (t := 25) rfl ?_); refine ld_au (y := P) _ rfl w2.heap.size rfl Rp9.out.blk rfl ?_))
    refine (APV.out Ap cp Bp ep _ Rp9.out.ard).mono ?_
    rintro e w10 ⟨vn, va, rfl, hn, ha, hb⟩
    obtain ⟨Ag, cg, rfl⟩ := Kd.R_slice hn
    obtain ⟨Bg, eg, rfl⟩ := Kd.R_slice ha
    have Rg10 := Aside0.mk (RsA.new (base := w.heap.size) hn ha HA9.out.2.size)
    have HA10 := Lib.hid (show (w10.alloc (AB PQ Ag cg Bg eg)).heap[w.heap.size]? = some (AB x A c B d) ∧ Below w.heap.size w (w10.alloc (AB PQ Ag cg Bg eg)) from ⟨hp_old (hp_below' hb HA9.out.1), bl_alloc (bl_then HA9.out.2 hb) _⟩)
    have Rp10 := Aside0.mk ((Rp9.out.keep hb).alloc (AB PQ Ag cg Bg eg))
    have Rq10 := Aside0.mk ((Rq9.out.keep hb).alloc (AB PQ Ag cg Bg eg))
    have Rr10 := Aside0.mk ((Rr9.out.keep hb).alloc (AB PQ Ag cg Bg eg))
    have Rs10 := Aside0.mk ((Rs9.out.keep hb).alloc (AB PQ Ag cg Bg eg))
    have Rf10 := Aside0.mk ((Rf9.out.keep hb).alloc (AB PQ Ag cg Bg eg))
    clear hb HA9 Rp9 Rq9 Rr9 Rs9 Rf9 hn ha
    go_wp2_with (first | ((with_reducible refine gate_st (t := 25) rfl ?_); refine st_au_new (y := PQ) (A := Ag) (c := cg) (B := Bg) (d := eg) _ _ rfl rfl rfl rfl rfl ?_) | ((with_reducible refine gate_ld (t := 25) rfl ?_); refine ld_au (y := x) _ rfl w.heap.size rfl HA10.out.1 rfl ?_))
    refine (BUV.out _ (HR.out.below HA10.out.2)).mono ?_
    rintro e w11 ⟨vn, va, rfl, hn, ha, hb⟩
    obtain ⟨Ah, ch, rfl⟩ := Kd.R_slice hn
    obtain ⟨Bh, eh, rfl⟩ := Kd.R_slice ha
    have Rh11 := Aside0.mk (RsA.new (base := w.heap.size) hn ha HA10.out.2.size)
    have HA11 := Lib.hid (show (w11.alloc (AB RS Ah ch Bh eh)).heap[w.heap.size]? = some (AB x A c B d) ∧ Below w.heap.size w (w11.alloc (AB RS Ah ch Bh eh)) from ⟨hp_old (hp_below' hb HA10.out.1), bl_alloc (bl_then HA10.out.2 hb) _⟩)
    have Rp11 := Aside0.mk ((Rp10.out.keep hb).alloc (AB RS Ah ch Bh eh))
    have Rq11 := Aside0.mk ((Rq10.out.keep hb).alloc (AB RS Ah ch Bh eh))
    have Rr11 := Aside0.mk ((Rr10.out.keep hb).alloc (AB RS Ah ch Bh eh))
    have Rs11 := Aside0.mk ((Rs10.out.keep hb).alloc (AB RS Ah ch Bh eh))
    have Rf11 := Aside0.mk ((Rf10.out.keep hb).alloc (AB RS Ah ch Bh eh))
    have Rg11 := Aside0.mk ((Rg10.out.keep hb).alloc (AB RS Ah ch Bh eh))
    clear hb HA10 Rp10 Rq10 Rr10 Rs10 Rf10 Rg10 hn ha
    go_wp2_with (first | ((with_reducible refine gate_st (t := 25) rfl ?_); refine st_au_new (y := RS) (A := Ah) (c := ch) (B := Bh) (d := eh) _ _ rfl rfl rfl rfl rfl ?_) | ((with_reducible refine gate_ld (t := 25) rfl ?_); refine ld_au (y := Q) _ rfl w5.heap.size rfl Rr11.out.blk rfl ?_))
    refine (BRU.out Ar cr Br er _ Rr11.out.ard).mono ?_
    rintro e w12 ⟨vn, va, rfl, hn, ha, hb⟩
    obtain ⟨Aj, cj, rfl⟩ := Kd.R_slice hn
    obtain ⟨Bj, ej, rfl⟩ := Kd.R_slice ha
    have Rj12 := Aside0.mk (RsA.new (base := w.heap.size) hn ha HA11.out.2.size)
    have HA12 := Lib.hid (show (w12.alloc (AB RS Aj cj Bj ej)).heap[w.heap.size]? = some (AB x A c B d) ∧ Below w.heap.size w (w12.alloc (AB RS Aj cj Bj ej)) from ⟨hp_old (hp_below' hb HA11.out.1), bl_alloc (bl_then HA11.out.2 hb) _⟩)
    have Rp12 := Aside0.mk ((Rp11.out.keep hb).alloc (AB RS Aj cj Bj ej))
    have Rq12 := Aside0.mk ((Rq11.out.keep hb).alloc (AB RS Aj cj Bj ej))
    have Rr12 := Aside0.mk ((Rr11.out.keep hb).alloc (AB RS Aj cj Bj ej))
    have Rs12 := Aside0.mk ((Rs11.out.keep hb).alloc (AB RS Aj cj Bj ej))
    have Rf12 := Aside0.mk ((Rf11.out.keep hb).alloc (AB RS Aj cj Bj ej))
    have Rg12 := Aside0.mk ((Rg11.out.keep hb).alloc (AB RS Aj cj Bj ej))
    have Rh12 := Aside0.mk ((Rh11.out.keep hb).alloc (AB RS Aj cj Bj ej))
    clear hb HA11 Rp11 Rq11 Rr11 Rs11 Rf11 Rg11 Rh11 hn ha
    go_wp2_with ((with_reducible refine gate_st (t := 25) rfl ?_); refine st_au_new (y := RS) (A := Aj) (c := cj) (B := Bj) (d := ej) _ _ rfl rfl rfl rfl rfl ?_)
    refine (num8_any _ _).mono ?_
    rintro e w' ⟨rfl, rfl⟩
    go_wp2_with fail
    refine (num8_any _ _).mono ?_
    rintro e w' ⟨rfl, rfl⟩
    go_wp2_with fail
    refine (num8_any _ _).mono ?_
    rintro e w' ⟨rfl, rfl⟩
    go_wp2_with fail
    refine (num8_any _ _).mono ?_
    rintro e w' ⟨rfl, rfl⟩
    go_wp2_with (first | ((with_reducible refine gate_ld (t := 25) rfl ?_); refine ld_au (y := PQ) _ rfl w9.heap.size rfl Rf12.out.blk rfl ?_) | ((with_reducible refine gate_ld (t := 25) rfl ?_); refine ld_au (y := PQ) _ rfl w10.heap.size rfl Rg12.out.blk rfl ?_))
    have SM := samea_any PQ PQ Af cf Bf ef Ag cg Bg eg _ Rf12.out.ard Rg12.out.ard
    rw [HSELF.out] at SM
    refine SM.mono ?_
    rintro e w13 ⟨rfl, hb⟩
    have HA13 := Lib.hid (show w13.heap[w.heap.size]? = some (AB x A c B d) ∧ Below w.heap.size w w13 from ⟨hp_below' hb HA12.out.1, bl_then HA12.out.2 hb⟩)
    have Rp13 := Aside0.mk (Rp12.out.keep hb)
    have Rq13 := Aside0.mk (Rq12.out.keep hb)
    have Rr13 := Aside0.mk (Rr12.out.keep hb)
    have Rs13 := Aside0.mk (Rs12.out.keep hb)
    have Rf13 := Aside0.mk (Rf12.out.keep hb)
    have Rg13 := Aside0.mk (Rg12.out.keep hb)
    have Rh13 := Aside0.mk (Rh12.out.keep hb)
    have Rj13 := Aside0.mk (Rj12.out.keep hb)
    clear hb HA12 Rp12 Rq12 Rr12 Rs12 Rf12 Rg12 Rh12 Rj12 SM
    go_wp2_with (first | ((with_reducible refine gate_ld (t := 25) rfl ?_); refine ld_au (y := RS) _ rfl w11.heap.size rfl Rh13.out.blk rfl ?_) | ((with_reducible refine gate_ld (t := 25) rfl ?_); refine ld_au (y := RS) _ rfl w12.heap.size rfl Rj13.out.blk rfl ?_))
    have SM := samea_any RS RS Ah ch Bh eh Aj cj Bj ej _ Rh13.out.ard Rj13.out.ard
    rw [HSELF.out] at SM
    refine SM.mono ?_
    rintro e w14 ⟨rfl, hb⟩
    have HA14 := Lib.hid (show w14.heap[w.heap.size]? = some (AB x A c B d) ∧ Below w.heap.size w w14 from ⟨hp_below' hb HA13.out.1, bl_then HA13.out.2 hb⟩)
    have Rp14 := Aside0.mk (Rp13.out.keep hb)
    have Rq14 := Aside0.mk (Rq13.out.keep hb)
    have Rr14 := Aside0.mk (Rr13.out.keep hb)
    have Rs14 := Aside0.mk (Rs13.out.keep hb)
    have Rf14 := Aside0.mk (Rf13.out.keep hb)
    have Rg14 := Aside0.mk (Rg13.out.keep hb)
    have Rh14 := Aside0.mk (Rh13.out.keep hb)
    have Rj14 := Aside0.mk (Rj13.out.keep hb)
    clear hb HA13 Rp13 Rq13 Rr13 Rs13 Rf13 Rg13 Rh13 Rj13 SM
    go_wp2_with fail
    refine (live8_any _).mono ?_
    rintro e w15 ⟨rfl, hb⟩
    have HF := Lib.hid (bl_then HA14.out.2 hb)
    clear hb
    go_wp2
    go_ret
    exact ⟨rfl, HF.out⟩
  · clear AUV APV BUV BRU
    by_cases hu0 : eu = 0
    · have hv0 : ¬ ev = 0 := fun h => h00 ⟨hu0, h⟩
      clear h00
      subst hu0
      go_wp2_with fail
      refine (num8_any _ _).mono ?_
      rintro e w' ⟨rfl, rfl⟩
      have hb1 : (ev == 0) = false := by rw [beq_eq_false_iff_ne]; exact hv0
      have hb2 : (ev != 0) = true := by rw [bne_iff_ne]; exact hv0
      skip
      go_wp2_with fail
      refine (live8_any _).mono ?_
      rintro e w9 ⟨rfl, hb⟩
      have HF := Lib.hid (bl_then HA8.out.2 hb)
      clear hb
      go_wp2
      go_ret
      exact ⟨rfl, HF.out⟩
    · clear h00
      have hb1 : (eu == 0) = false := by rw [beq_eq_false_iff_ne]; exact hu0
      have hb2 : (eu != 0) = true := by rw [bne_iff_ne]; exact hu0
      skip
      go_wp2_with fail
      refine (live8_any _).mono ?_
      rintro e w9 ⟨rfl, hb⟩
      have HF := Lib.hid (bl_then HA8.out.2 hb)
      clear hb
      go_wp2
      go_ret
      exact ⟨rfl, HF.out⟩
end Go.Proofs.Ytjckidjljkjhfaa
