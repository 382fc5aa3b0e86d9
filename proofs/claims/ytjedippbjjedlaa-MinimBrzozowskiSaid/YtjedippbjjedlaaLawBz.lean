/- The walk of the statement MinimBrzozowski (printed by tools/gen_brz.py). -/
import Derived.Test.YtjedippbjjedlaaGvM
import Derived.Test.YtjedippbjjedlaaBzP
namespace Go.Proofs.Ytjedippbjjedlaa
open Go.RowKit Go.Proofs.YtjedippbjjedlaaW.PrintWords
set_option linter.unusedSimpArgs false
set_option linter.unusedVariables false
theorem rv_is {x : AutV} (h : rvE x = 0) : AutOk x := by
  unfold rvE at h
  by_cases h0 : autE x = 0
  · exact autE_is h0
  · rw [if_neg h0] at h; cases h
set_option maxRecDepth 100000 in
set_option maxHeartbeats 2000000 in
theorem minimBrzozowski_any (w : World) (x : AutV) (A : Option Addr) (c : Nat) (B : Option Addr) (d : Nat) (hr : ARd w x A B) (hsz : AutSz x c d) :
    Calls Try.prog 12 #[.agg (ac x A c B d)] w fun e w' => e = .returned (.bool true) ∧ Below w.heap.size w w' := by
  have h00 := (Hp.start w).alloc (AB x A c B d)
  have Gx0 := Aside0.mk ((⟨h00.at 0 rfl, hr.below h00.2⟩ : GvA x A c B d w.heap.size (w.alloc (AB x A c B d))))
  have BE0 := Lib.hid (h00.2)
  have RX := fun (W : World) (h : ARd W x A B) => reverse_any x A c B d W h
  by_cases h0 : rvE x = 0
  · have hx := rv_is h0
    obtain ⟨q1, q2⟩ := rv_rv hx h0
    have RR := fun (X : Option Addr) (xc : Nat) (Y : Option Addr) (yc : Nat) (W : World) (h : ARd W (rvV x) X Y) => reverse_any (rvV x) X xc Y yc W h
    have MX := fun (W : World) (h : ARd W x A B) => minimal_any x A c B d hx W h
    rw [h0] at RX
    rw [q1, q2] at RR
    have hself : ∀ V : AutV, sameV V V = true := fun V => decide_eq_true ⟨rfl, rfl, rfl⟩
    have HSELF := Aside0.mk hself
    have hmk : x.k = (mAut x).k := rfl
    rw [hmk] at MX
    replace RX := Aside0.mk RX; replace RR := Aside0.mk RR; replace MX := Aside0.mk MX
    clear q1 q2 h0 h00 hr hsz hself hx hmk
    generalize mTo x = T at *
    generalize rvV x = R at *
    generalize mAut x = M at *
    go_enter Try.func12, Try.ntmps12
    go_wp2_with (((with_reducible refine gate_ld (t := 25) rfl ?_); first | (refine ld_au (y := x) (A := A) (c := c) (B := B) (d := d) _ rfl (w.heap.size) rfl Gx0.out.blk rfl ?_)))
    refine (RX.out _ Gx0.out.ard).mono ?_
    rintro e w1 ⟨vn, va, rfl, hn, ha, hb⟩
    obtain ⟨ARr, cRr, rfl⟩ := Kd.R_slice hn
    obtain ⟨BRr, eRr, rfl⟩ := Kd.R_slice ha
    have Rr1 := Aside0.mk (RsA.new (V := R) (base := w.heap.size) hn ha BE0.out.size)
    clear hn ha
    have Gx1 := Aside0.mk ((Gx0.out.keep hb).alloc (AB R ARr cRr BRr eRr))
    have BE1 := Lib.hid (bl_alloc (bl_then BE0.out hb) (AB R ARr cRr BRr eRr))
    clear hb Gx0 BE0
    go_wp2_with (first | ((with_reducible refine gate_st (t := 25) rfl ?_); refine st_au_new (y := R) (A := ARr) (c := cRr) (B := BRr) (d := eRr) _ _ rfl rfl rfl rfl rfl ?_) | ((with_reducible refine gate_ld (t := 25) rfl ?_); first | (refine ld_au (y := x) (A := A) (c := c) (B := B) (d := d) _ rfl (w.heap.size) rfl Gx1.out.blk rfl ?_) | (refine ld_au (y := R) (A := ARr) (c := cRr) (B := BRr) (d := eRr) _ rfl (w1.heap.size) rfl Rr1.out.blk rfl ?_)))
    refine (numM_any _ _).mono ?_
    rintro e w' ⟨rfl, rfl⟩
    go_wp2_with (((with_reducible refine gate_ld (t := 25) rfl ?_); first | (refine ld_au (y := x) (A := A) (c := c) (B := B) (d := d) _ rfl (w.heap.size) rfl Gx1.out.blk rfl ?_) | (refine ld_au (y := R) (A := ARr) (c := cRr) (B := BRr) (d := eRr) _ rfl (w1.heap.size) rfl Rr1.out.blk rfl ?_)))
    refine (RR.out ARr cRr BRr eRr _ Rr1.out.ard).mono ?_
    rintro e w2 ⟨vn, va, rfl, hn, ha, hb⟩
    obtain ⟨ARb, cRb, rfl⟩ := Kd.R_slice hn
    obtain ⟨BRb, eRb, rfl⟩ := Kd.R_slice ha
    have Rb2 := Aside0.mk (RsA.new (V := M) (base := w.heap.size) hn ha BE1.out.size)
    clear hn ha
    have Gx2 := Aside0.mk ((Gx1.out.keep hb).alloc (AB M ARb cRb BRb eRb))
    have Rr2 := Aside0.mk ((Rr1.out.keep hb).alloc (AB M ARb cRb BRb eRb))
    have BE2 := Lib.hid (bl_alloc (bl_then BE1.out hb) (AB M ARb cRb BRb eRb))
    clear hb Gx1 Rr1 BE1
    go_wp2_with (first | ((with_reducible refine gate_st (t := 25) rfl ?_); refine st_au_new (y := M) (A := ARb) (c := cRb) (B := BRb) (d := eRb) _ _ rfl rfl rfl rfl rfl ?_) | ((with_reducible refine gate_ld (t := 25) rfl ?_); first | (refine ld_au (y := x) (A := A) (c := c) (B := B) (d := d) _ rfl (w.heap.size) rfl Gx2.out.blk rfl ?_) | (refine ld_au (y := R) (A := ARr) (c := cRr) (B := BRr) (d := eRr) _ rfl (w1.heap.size) rfl Rr2.out.blk rfl ?_) | (refine ld_au (y := M) (A := ARb) (c := cRb) (B := BRb) (d := eRb) _ rfl (w2.heap.size) rfl Rb2.out.blk rfl ?_)))
    refine (MX.out _ Gx2.out.ard).mono ?_
    rintro e w3 ⟨vn, va, vt, rfl, hn, ha, ht, hs, hb⟩
    obtain ⟨ARm, cRm, rfl⟩ := Kd.R_slice hn
    obtain ⟨BRm, eRm, rfl⟩ := Kd.R_slice ha
    obtain ⟨TRm, tRm, rfl⟩ := Kd.R_slice ht
    clear hs
    have Rm3 := Aside0.mk (RsA.new (V := M) (base := w.heap.size) hn ha BE2.out.size)
    clear hn ha ht
    have Gx3 := Aside0.mk ((Gx2.out.keep hb).alloc (AB M ARm cRm BRm eRm))
    have Rr3 := Aside0.mk ((Rr2.out.keep hb).alloc (AB M ARm cRm BRm eRm))
    have Rb3 := Aside0.mk ((Rb2.out.keep hb).alloc (AB M ARm cRm BRm eRm))
    have BE3 := Lib.hid (bl_alloc (bl_then BE2.out hb) (AB M ARm cRm BRm eRm))
    clear hb Gx2 Rr2 Rb2 BE2
    go_wp2_with (first | ((with_reducible refine gate_st (t := 25) rfl ?_); refine st_au_new (y := M) (A := ARm) (c := cRm) (B := BRm) (d := eRm) _ _ rfl rfl rfl rfl rfl ?_) | ((with_reducible refine gate_ld (t := 25) rfl ?_); first | (refine ld_au (y := x) (A := A) (c := c) (B := B) (d := d) _ rfl (w.heap.size) rfl Gx3.out.blk rfl ?_) | (refine ld_au (y := R) (A := ARr) (c := cRr) (B := BRr) (d := eRr) _ rfl (w1.heap.size) rfl Rr3.out.blk rfl ?_) | (refine ld_au (y := M) (A := ARb) (c := cRb) (B := BRb) (d := eRb) _ rfl (w2.heap.size) rfl Rb3.out.blk rfl ?_) | (refine ld_au (y := M) (A := ARm) (c := cRm) (B := BRm) (d := eRm) _ rfl (w3.heap.size) rfl Rm3.out.blk rfl ?_)))
    refine (numM_any _ _).mono ?_
    rintro e w' ⟨rfl, rfl⟩
    go_wp2_with fail
    refine (numM_any _ _).mono ?_
    rintro e w' ⟨rfl, rfl⟩
    go_wp2_with (((with_reducible refine gate_ld (t := 25) rfl ?_); first | (refine ld_au (y := x) (A := A) (c := c) (B := B) (d := d) _ rfl (w.heap.size) rfl Gx3.out.blk rfl ?_) | (refine ld_au (y := R) (A := ARr) (c := cRr) (B := BRr) (d := eRr) _ rfl (w1.heap.size) rfl Rr3.out.blk rfl ?_) | (refine ld_au (y := M) (A := ARb) (c := cRb) (B := BRb) (d := eRb) _ rfl (w2.heap.size) rfl Rb3.out.blk rfl ?_) | (refine ld_au (y := M) (A := ARm) (c := cRm) (B := BRm) (d := eRm) _ rfl (w3.heap.size) rfl Rm3.out.blk rfl ?_)))
    have SM := samea_any M M ARb cRb BRb eRb ARm cRm BRm eRm _ Rb3.out.ard Rm3.out.ard
    rw [HSELF.out] at SM
    refine SM.mono ?_
    rintro e w4 ⟨rfl, hb⟩
    clear SM
    have Gx4 := Aside0.mk (Gx3.out.keep hb)
    have Rr4 := Aside0.mk (Rr3.out.keep hb)
    have Rb4 := Aside0.mk (Rb3.out.keep hb)
    have Rm4 := Aside0.mk (Rm3.out.keep hb)
    have BE4 := Lib.hid (bl_then BE3.out hb)
    clear hb Gx3 Rr3 Rb3 Rm3 BE3
    go_wp2_with fail
    refine (liveM_any _).mono ?_
    rintro e wz ⟨rfl, hb⟩
    have HF := Lib.hid (bl_then BE4.out hb)
    clear hb
    go_wp2
    go_ret
    exact ⟨rfl, HF.out⟩
  · have hb2 : (rvE x != 0) = true := by rw [bne_iff_ne]; exact h0
    replace RX := Aside0.mk RX
    clear h0 h00 hr hsz
    generalize rvE x = ee at *
    generalize rvV x = R at *
    go_enter Try.func12, Try.ntmps12
    go_wp2_with (((with_reducible refine gate_ld (t := 25) rfl ?_); first | (refine ld_au (y := x) (A := A) (c := c) (B := B) (d := d) _ rfl (w.heap.size) rfl Gx0.out.blk rfl ?_)))
    refine (RX.out _ Gx0.out.ard).mono ?_
    rintro e w1 ⟨vn, va, rfl, hn, ha, hb⟩
    obtain ⟨ARr, cRr, rfl⟩ := Kd.R_slice hn
    obtain ⟨BRr, eRr, rfl⟩ := Kd.R_slice ha
    have Rr1 := Aside0.mk (RsA.new (V := R) (base := w.heap.size) hn ha BE0.out.size)
    clear hn ha
    have Gx1 := Aside0.mk ((Gx0.out.keep hb).alloc (AB R ARr cRr BRr eRr))
    have BE1 := Lib.hid (bl_alloc (bl_then BE0.out hb) (AB R ARr cRr BRr eRr))
    clear hb Gx0 BE0
    go_wp2_with (first | ((with_reducible refine gate_st (t := 25) rfl ?_); refine st_au_new (y := R) (A := ARr) (c := cRr) (B := BRr) (d := eRr) _ _ rfl rfl rfl rfl rfl ?_) | ((with_reducible refine gate_ld (t := 25) rfl ?_); first | (refine ld_au (y := x) (A := A) (c := c) (B := B) (d := d) _ rfl (w.heap.size) rfl Gx1.out.blk rfl ?_) | (refine ld_au (y := R) (A := ARr) (c := cRr) (B := BRr) (d := eRr) _ rfl (w1.heap.size) rfl Rr1.out.blk rfl ?_)))
    refine (numM_any _ _).mono ?_
    rintro e w' ⟨rfl, rfl⟩
    go_wp2_with fail
    refine (liveM_any _).mono ?_
    rintro e wz ⟨rfl, hb⟩
    have HF := Lib.hid (bl_then BE1.out hb)
    clear hb
    go_wp2
    go_ret
    exact ⟨rfl, HF.out⟩
end Go.Proofs.Ytjedippbjjedlaa
