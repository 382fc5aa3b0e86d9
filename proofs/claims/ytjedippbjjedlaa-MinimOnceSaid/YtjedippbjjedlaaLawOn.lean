/- The walk of the statement MinimOnce (printed by tools/gen_once.py). -/
import Derived.Test.YtjedippbjjedlaaGvM
import Derived.Test.YtjedippbjjedlaaOnP
import Derived.BigQuiet
namespace Go.Proofs.Ytjedippbjjedlaa
open Go.RowKit Go.Proofs.YtjedippbjjedlaaW.PrintWords
set_option linter.unusedSimpArgs false
set_option linter.unusedVariables false
theorem min_not {x : AutV} (h : ¬ autE x = 0) : minV x = ⟨0, [], []⟩ := by unfold minV; rw [if_neg h]
theorem min_yes {x : AutV} (h : AutOk x) : minV x = mAut x ∧ minT x = mTo x := ⟨by unfold minV; rw [if_pos (autE_ok h)], by unfold minT; rw [if_pos (autE_ok h)]⟩
theorem range_get {n i : Nat} (h : i < n) : rd ((List.range n).map (fun (n : Nat) => (n : Int))) (i : Int) = (i : Int) := by
  unfold rd
  rw [Int.toNat_natCast, List.getD_eq_getElem?_getD, List.getElem?_map, List.getElem?_range h]
  rfl
theorem flip_get {l : List Bool} {i : Nat} (h : i < l.length) : rdOf false (l.map fun b => !b) (i : Int) = !rdOf false l (i : Int) := by
  unfold rdOf
  rw [Int.toNat_natCast, List.getD_eq_getElem?_getD, List.getElem?_map, List.getD_eq_getElem?_getD, List.getElem?_eq_getElem h]
  rfl
set_option maxRecDepth 100000 in
set_option maxHeartbeats 2000000 in
theorem minimOnce_any (w : World) (x : AutV) (A : Option Addr) (c : Nat) (B : Option Addr) (d : Nat) (hr : ARd w x A B) (hsz : AutSz x c d) :
    Calls Try.prog 13 #[.agg (ac x A c B d)] w fun e w' => e = .returned (.bool true) ∧ Below w.heap.size w w' := by
  have h00 := (Hp.start w).alloc (AB x A c B d)
  have Gx0 := Aside0.mk ((⟨h00.at 0 rfl, hr.below h00.2⟩ : GvA x A c B d w.heap.size (w.alloc (AB x A c B d))))
  have BE0 := Lib.hid (h00.2)
  have MX := fun (W : World) (h : ARd W x A B) => minimalv_any x A c B d W h
  by_cases h0 : AutOk x
  · obtain ⟨o1, o2, o3, o4, o5, o6, o7⟩ := once_laws h0
    have e0 := autE_ok h0
    have e1 := autE_ok o1
    have e5 := autE_ok o5
    rw [(min_yes h0).1, (min_yes h0).2, e0] at MX
    have MM := fun (X : Option Addr) (xc : Nat) (Y : Option Addr) (yc : Nat) (W : World) (h : ARd W (mAut x) X Y) => minimalv_any (mAut x) X xc Y yc W h
    rw [(min_yes o1).1, (min_yes o1).2, o2, o3, e1] at MM
    have IM := fun (X : Option Addr) (xc : Nat) (Y : Option Addr) (yc : Nat) (W : World) (h : ARd W (mAut x) X Y) => isv_any (mAut x) X xc Y yc W h
    rw [o4, e1] at IM
    have NX := fun (W : World) (h : ARd W x A B) => not_any x A c B d W h
    rw [e0] at NX
    have MN := fun (X : Option Addr) (xc : Nat) (Y : Option Addr) (yc : Nat) (W : World) (h : ARd W (fromV x 0 (fun s => !rdOf false x.acc (s : Int))) X Y) => minimalv_any (fromV x 0 (fun s => !rdOf false x.acc (s : Int))) X xc Y yc W h
    rw [(min_yes o5).1, (min_yes o5).2, e5] at MN
    have hself : ∀ V : AutV, sameV V V = true := fun V => decide_eq_true ⟨rfl, rfl, rfl⟩
    have HSELF := Aside0.mk hself
    have hml := o1.2.2.2.1
    have HX6 := Lib.hid o6; have HX7 := Lib.hid o7
    replace MX := Aside0.mk MX; replace MM := Aside0.mk MM; replace IM := Aside0.mk IM; replace NX := Aside0.mk NX; replace MN := Aside0.mk MN
    clear o1 o2 o3 o4 o5 o6 o7 e0 e1 e5 h0 h00 hr hsz hself
    generalize mTo x = T at *
    generalize mTo (fromV x 0 (fun s => !rdOf false x.acc (s : Int))) = T2 at *
    generalize mAut (fromV x 0 (fun s => !rdOf false x.acc (s : Int))) = O at *
    generalize fromV x 0 (fun s => !rdOf false x.acc (s : Int)) = N at *
    generalize mAut x = M at *
    have HX8 : Hid (O.acc.length = M.acc.length) := Lib.hid (by rw [HX7.out, List.length_map])
    go_enter Try.func13, Try.ntmps13
    go_wp2_with (((with_reducible refine gate_ld (t := 25) rfl ?_); first | (refine ld_au (y := x) (A := A) (c := c) (B := B) (d := d) _ rfl (w.heap.size) rfl Gx0.out.blk rfl ?_)))
    refine (MX.out _ Gx0.out.ard).mono ?_
    rintro e w1 ⟨vn, va, vt, rfl, hn, ha, ht, hs, hb⟩
    obtain ⟨ARm, cRm, rfl⟩ := Kd.R_slice hn
    obtain ⟨BRm, eRm, rfl⟩ := Kd.R_slice ha
    obtain ⟨TRm, tRm, rfl⟩ := Kd.R_slice ht
    clear hs
    have Rm1 := Aside0.mk (RsA.new (V := M) (base := w.heap.size) hn ha BE0.out.size)
    clear hn ha ht
    have Gx1 := Aside0.mk ((Gx0.out.keep hb).alloc (AB M ARm cRm BRm eRm))
    have BE1 := Lib.hid (bl_alloc (bl_then BE0.out hb) (AB M ARm cRm BRm eRm))
    clear hb Gx0 BE0
    go_wp2_with (first | ((with_reducible refine gate_st (t := 25) rfl ?_); refine st_au_new (y := M) (A := ARm) (c := cRm) (B := BRm) (d := eRm) _ _ rfl rfl rfl rfl rfl ?_) | ((with_reducible refine gate_ld (t := 25) rfl ?_); first | (refine ld_au (y := x) (A := A) (c := c) (B := B) (d := d) _ rfl (w.heap.size) rfl Gx1.out.blk rfl ?_) | (refine ld_au (y := M) (A := ARm) (c := cRm) (B := BRm) (d := eRm) _ rfl (w1.heap.size) rfl Rm1.out.blk rfl ?_)))
    refine (numM_any _ _).mono ?_
    rintro e w' ⟨rfl, rfl⟩
    go_wp2_with (((with_reducible refine gate_ld (t := 25) rfl ?_); first | (refine ld_au (y := x) (A := A) (c := c) (B := B) (d := d) _ rfl (w.heap.size) rfl Gx1.out.blk rfl ?_) | (refine ld_au (y := M) (A := ARm) (c := cRm) (B := BRm) (d := eRm) _ rfl (w1.heap.size) rfl Rm1.out.blk rfl ?_)))
    refine (MM.out ARm cRm BRm eRm _ Rm1.out.ard).mono ?_
    rintro e w2 ⟨vn, va, vt, rfl, hn, ha, ht, hs, hb⟩
    obtain ⟨ARn, cRn, rfl⟩ := Kd.R_slice hn
    obtain ⟨BRn, eRn, rfl⟩ := Kd.R_slice ha
    obtain ⟨TRn, tRn, rfl⟩ := Kd.R_slice ht
    clear hs
    have Rn2 := Aside0.mk (RsA.new (V := M) (base := w.heap.size) hn ha BE1.out.size)
    have TT2 := Aside0.mk (Kd.C_alloc (Kd.R_reads' ht).2.2 (AB M ARn cRn BRn eRn))
    clear hn ha ht
    have Gx2 := Aside0.mk ((Gx1.out.keep hb).alloc (AB M ARn cRn BRn eRn))
    have Rm2 := Aside0.mk ((Rm1.out.keep hb).alloc (AB M ARn cRn BRn eRn))
    have BE2 := Lib.hid (bl_alloc (bl_then BE1.out hb) (AB M ARn cRn BRn eRn))
    clear hb Gx1 Rm1 BE1
    go_wp2_with (first | ((with_reducible refine gate_st (t := 25) rfl ?_); refine st_au_new (y := M) (A := ARn) (c := cRn) (B := BRn) (d := eRn) _ _ rfl rfl rfl rfl rfl ?_) | ((with_reducible refine gate_ld (t := 25) rfl ?_); first | (refine ld_au (y := x) (A := A) (c := c) (B := B) (d := d) _ rfl (w.heap.size) rfl Gx2.out.blk rfl ?_) | (refine ld_au (y := M) (A := ARm) (c := cRm) (B := BRm) (d := eRm) _ rfl (w1.heap.size) rfl Rm2.out.blk rfl ?_) | (refine ld_au (y := M) (A := ARn) (c := cRn) (B := BRn) (d := eRn) _ rfl (w2.heap.size) rfl Rn2.out.blk rfl ?_)))
    refine (IM.out ARm cRm BRm eRm _ Rm2.out.ard).mono ?_
    rintro e w3 ⟨rfl, hb⟩
    have Gx3 := Aside0.mk (Gx2.out.keep hb)
    have Rm3 := Aside0.mk (Rm2.out.keep hb)
    have Rn3 := Aside0.mk (Rn2.out.keep hb)
    have TT3 := Aside0.mk (Kd.C_below (TT2.out) hb)
    have BE3 := Lib.hid (bl_then BE2.out hb)
    clear hb Gx2 Rm2 Rn2 TT2 BE2
    go_wp2_with (((with_reducible refine gate_ld (t := 25) rfl ?_); first | (refine ld_au (y := x) (A := A) (c := c) (B := B) (d := d) _ rfl (w.heap.size) rfl Gx3.out.blk rfl ?_) | (refine ld_au (y := M) (A := ARm) (c := cRm) (B := BRm) (d := eRm) _ rfl (w1.heap.size) rfl Rm3.out.blk rfl ?_) | (refine ld_au (y := M) (A := ARn) (c := cRn) (B := BRn) (d := eRn) _ rfl (w2.heap.size) rfl Rn3.out.blk rfl ?_)))
    refine (NX.out _ Gx3.out.ard).mono ?_
    rintro e w4 ⟨vn, va, rfl, hn, ha, hb⟩
    obtain ⟨ARo, cRo, rfl⟩ := Kd.R_slice hn
    obtain ⟨BRo, eRo, rfl⟩ := Kd.R_slice ha
    have Ro4 := Aside0.mk (RsA.new (V := N) (base := w.heap.size) hn ha BE3.out.size)
    clear hn ha
    have Gx4 := Aside0.mk ((Gx3.out.keep hb).alloc (AB N ARo cRo BRo eRo))
    have Rm4 := Aside0.mk ((Rm3.out.keep hb).alloc (AB N ARo cRo BRo eRo))
    have Rn4 := Aside0.mk ((Rn3.out.keep hb).alloc (AB N ARo cRo BRo eRo))
    have TT4 := Aside0.mk (Kd.C_alloc (Kd.C_below (TT3.out) hb) ((AB N ARo cRo BRo eRo)))
    have BE4 := Lib.hid (bl_alloc (bl_then BE3.out hb) (AB N ARo cRo BRo eRo))
    clear hb Gx3 Rm3 Rn3 TT3 BE3
    go_wp2_with (first | ((with_reducible refine gate_st (t := 25) rfl ?_); refine st_au_new (y := N) (A := ARo) (c := cRo) (B := BRo) (d := eRo) _ _ rfl rfl rfl rfl rfl ?_) | ((with_reducible refine gate_ld (t := 25) rfl ?_); first | (refine ld_au (y := x) (A := A) (c := c) (B := B) (d := d) _ rfl (w.heap.size) rfl Gx4.out.blk rfl ?_) | (refine ld_au (y := M) (A := ARm) (c := cRm) (B := BRm) (d := eRm) _ rfl (w1.heap.size) rfl Rm4.out.blk rfl ?_) | (refine ld_au (y := M) (A := ARn) (c := cRn) (B := BRn) (d := eRn) _ rfl (w2.heap.size) rfl Rn4.out.blk rfl ?_) | (refine ld_au (y := N) (A := ARo) (c := cRo) (B := BRo) (d := eRo) _ rfl (w4.heap.size) rfl Ro4.out.blk rfl ?_)))
    refine (MN.out ARo cRo BRo eRo _ Ro4.out.ard).mono ?_
    rintro e w5 ⟨vn, va, vt, rfl, hn, ha, ht, hs, hb⟩
    obtain ⟨ARp, cRp, rfl⟩ := Kd.R_slice hn
    obtain ⟨BRp, eRp, rfl⟩ := Kd.R_slice ha
    obtain ⟨TRp, tRp, rfl⟩ := Kd.R_slice ht
    clear hs
    have Rp5 := Aside0.mk (RsA.new (V := O) (base := w.heap.size) hn ha BE4.out.size)
    clear hn ha ht
    have Gx5 := Aside0.mk ((Gx4.out.keep hb).alloc (AB O ARp cRp BRp eRp))
    have Rm5 := Aside0.mk ((Rm4.out.keep hb).alloc (AB O ARp cRp BRp eRp))
    have Rn5 := Aside0.mk ((Rn4.out.keep hb).alloc (AB O ARp cRp BRp eRp))
    have Ro5 := Aside0.mk ((Ro4.out.keep hb).alloc (AB O ARp cRp BRp eRp))
    have TT5 := Aside0.mk (Kd.C_alloc (Kd.C_below (TT4.out) hb) ((AB O ARp cRp BRp eRp)))
    have BE5 := Lib.hid (bl_alloc (bl_then BE4.out hb) (AB O ARp cRp BRp eRp))
    clear hb Gx4 Rm4 Rn4 Ro4 TT4 BE4
    go_wp2_with (first | ((with_reducible refine gate_st (t := 25) rfl ?_); refine st_au_new (y := O) (A := ARp) (c := cRp) (B := BRp) (d := eRp) _ _ rfl rfl rfl rfl rfl ?_) | ((with_reducible refine gate_ld (t := 25) rfl ?_); first | (refine ld_au (y := x) (A := A) (c := c) (B := B) (d := d) _ rfl (w.heap.size) rfl Gx5.out.blk rfl ?_) | (refine ld_au (y := M) (A := ARm) (c := cRm) (B := BRm) (d := eRm) _ rfl (w1.heap.size) rfl Rm5.out.blk rfl ?_) | (refine ld_au (y := M) (A := ARn) (c := cRn) (B := BRn) (d := eRn) _ rfl (w2.heap.size) rfl Rn5.out.blk rfl ?_) | (refine ld_au (y := N) (A := ARo) (c := cRo) (B := BRo) (d := eRo) _ rfl (w4.heap.size) rfl Ro5.out.blk rfl ?_) | (refine ld_au (y := O) (A := ARp) (c := cRp) (B := BRp) (d := eRp) _ rfl (w5.heap.size) rfl Rp5.out.blk rfl ?_)))
    refine (numM_any _ _).mono ?_
    rintro e w' ⟨rfl, rfl⟩
    go_wp2_with fail
    refine (numM_any _ _).mono ?_
    rintro e w' ⟨rfl, rfl⟩
    go_wp2_with fail
    refine (numM_any _ _).mono ?_
    rintro e w' ⟨rfl, rfl⟩
    go_wp2_with fail
    refine (numM_any _ _).mono ?_
    rintro e w' ⟨rfl, rfl⟩
    go_wp2_with (((with_reducible refine gate_ld (t := 25) rfl ?_); first | (refine ld_au (y := x) (A := A) (c := c) (B := B) (d := d) _ rfl (w.heap.size) rfl Gx5.out.blk rfl ?_) | (refine ld_au (y := M) (A := ARm) (c := cRm) (B := BRm) (d := eRm) _ rfl (w1.heap.size) rfl Rm5.out.blk rfl ?_) | (refine ld_au (y := M) (A := ARn) (c := cRn) (B := BRn) (d := eRn) _ rfl (w2.heap.size) rfl Rn5.out.blk rfl ?_) | (refine ld_au (y := N) (A := ARo) (c := cRo) (B := BRo) (d := eRo) _ rfl (w4.heap.size) rfl Ro5.out.blk rfl ?_) | (refine ld_au (y := O) (A := ARp) (c := cRp) (B := BRp) (d := eRp) _ rfl (w5.heap.size) rfl Rp5.out.blk rfl ?_)))
    have SM := samea_any M M ARn cRn BRn eRn ARm cRm BRm eRm _ Rn5.out.ard Rm5.out.ard
    rw [HSELF.out] at SM
    refine SM.mono ?_
    rintro e w6 ⟨rfl, hb⟩
    clear SM
    have Gx6 := Aside0.mk (Gx5.out.keep hb)
    have Rm6 := Aside0.mk (Rm5.out.keep hb)
    have Rn6 := Aside0.mk (Rn5.out.keep hb)
    have Ro6 := Aside0.mk (Ro5.out.keep hb)
    have Rp6 := Aside0.mk (Rp5.out.keep hb)
    have TT6 := Aside0.mk (Kd.C_below (TT5.out) hb)
    have BE6 := Lib.hid (bl_then BE5.out hb)
    clear hb Gx5 Rm5 Rn5 Ro5 Rp5 TT5 BE5
    have q1Rm : w6.cell? ⟨w1.heap.size, 1, none⟩ = some (.slice ARm (M).next.length cRm) := by rw [cell_of_row _ _ _ _ _ _ Rm6.out.blk]; rfl
    have q2Rm : w6.cell? ⟨w1.heap.size, 2, none⟩ = some (.slice BRm (M).acc.length eRm) := by rw [cell_of_row _ _ _ _ _ _ Rm6.out.blk]; rfl
    have q1Rp : w6.cell? ⟨w5.heap.size, 1, none⟩ = some (.slice ARp (O).next.length cRp) := by rw [cell_of_row _ _ _ _ _ _ Rp6.out.blk]; rfl
    have q2Rp : w6.cell? ⟨w5.heap.size, 2, none⟩ = some (.slice BRp (O).acc.length eRp) := by rw [cell_of_row _ _ _ _ _ _ Rp6.out.blk]; rfl
    go_wp2_with fail
    have SI := same_any ARp cRp O.next ARm cRm M.next _ Rp6.out.ard.next Rm6.out.ard.next
    rw [decide_eq_true HX6.out] at SI
    refine SI.mono ?_
    rintro e w7 ⟨rfl, hb⟩
    clear SI
    clear q1Rm q2Rm q1Rp q2Rp
    have Gx7 := Aside0.mk (Gx6.out.keep hb)
    have Rm7 := Aside0.mk (Rm6.out.keep hb)
    have Rn7 := Aside0.mk (Rn6.out.keep hb)
    have Ro7 := Aside0.mk (Ro6.out.keep hb)
    have Rp7 := Aside0.mk (Rp6.out.keep hb)
    have TT7 := Aside0.mk (Kd.C_below (TT6.out) hb)
    have BE7 := Lib.hid (bl_then BE6.out hb)
    clear hb Gx6 Rm6 Rn6 Ro6 Rp6 TT6 BE6
    have q1Rm : w7.cell? ⟨w1.heap.size, 1, none⟩ = some (.slice ARm (M).next.length cRm) := by rw [cell_of_row _ _ _ _ _ _ Rm7.out.blk]; rfl
    have q2Rm : w7.cell? ⟨w1.heap.size, 2, none⟩ = some (.slice BRm (M).acc.length eRm) := by rw [cell_of_row _ _ _ _ _ _ Rm7.out.blk]; rfl
    have q1Rp : w7.cell? ⟨w5.heap.size, 1, none⟩ = some (.slice ARp (O).next.length cRp) := by rw [cell_of_row _ _ _ _ _ _ Rp7.out.blk]; rfl
    have q2Rp : w7.cell? ⟨w5.heap.size, 2, none⟩ = some (.slice BRp (O).acc.length eRp) := by rw [cell_of_row _ _ _ _ _ _ Rp7.out.blk]; rfl
    have hol := HX8.out
    have hol2 : ((O.acc.length : Int) != (M.acc.length : Int)) = false := by rw [bne_eq_false_iff_eq, hol]
    clear hol
    go_wp2_with fail
    go_loopw [16] (fun i wr => ∃ q : Nat, q ≤ M.acc.length ∧ i = .int .i64 q ∧ Hid (Below w7.heap.size w7 wr)) (fun i _ => M.acc.length - (intOf i).toNat)
    case atStart => exact ⟨0, Nat.zero_le _, rfl, Lib.hid (Below.refl _ _)⟩
    case round =>
      obtain ⟨i, hi, rfl, H⟩ := hrel
      clear q1Rm q2Rm q1Rp q2Rp hol2
      by_cases hil : i < M.acc.length
      · have zz := Kd.C_below (TT7.out) H.out
        obtain ⟨ad, hA, cell1⟩ := Kd.at_int zz (i : Int) (by omega) (by rw [List.length_map, List.length_range]; omega)
        rw [range_get hil, Int.toNat_natCast] at cell1
        have y1 := (Rm7.out.keep H.out)
        have y2 := (Rp7.out.keep H.out)
        obtain ⟨bd, hB, cell2⟩ := Kd.at_bool y1.ard.acc (i : Int) (by omega) (by omega)
        obtain ⟨cd, hC, cell3⟩ := Kd.at_bool y2.ard.acc (i : Int) (by omega) (by rw [HX8.out]; omega)
        rw [HX7.out, flip_get hil] at cell3
        rw [Int.toNat_natCast] at cell2 cell3
        have k2 : wr.cell? ⟨w1.heap.size, 2, none⟩ = some (.slice BRm (M).acc.length eRm) := by rw [cell_of_row _ _ _ _ _ _ y1.blk]; rfl
        have k3 : wr.cell? ⟨w5.heap.size, 2, none⟩ = some (.slice BRp (O).acc.length eRp) := by rw [cell_of_row _ _ _ _ _ _ y2.blk]; rfl
        have hoi : i < O.acc.length := by rw [HX8.out]; exact hil
        have hne : ∀ b : Bool, ((!b) == b) = false := by decide
        have hnq := hne (rdOf false M.acc (i : Int))
        clear zz y1 y2 hne
        generalize rdOf false M.acc (i : Int) = b at *
        generalize M.acc.length = ml at *
        generalize O.acc.length = ol at *
        subst hA
        subst hB
        subst hC
        go_wp2
        go_quiet (fail)
        go_wp2
        go_roundw
        case rel => exact ⟨i + 1, by omega, by go_num, Lib.hid (bl_drewN H.out _)⟩
        case measure => simp [intOf]; omega
      · have hie : i = M.acc.length := by omega
        have HBE := Lib.hid (bl_then BE7.out H.out)
        clear hie
        go_wp2_with fail
        refine (liveM_any _).mono ?_
        rintro e wz ⟨rfl, hb⟩
        have HF := Lib.hid (bl_then HBE.out hb)
        clear hb
        go_wp2
        go_ret
        exact ⟨rfl, HF.out⟩
  · have hne : ¬ autE x = 0 := fun h => h0 (autE_is h)
    have hb2 : (autE x != 0) = true := by rw [bne_iff_ne]; exact hne
    rw [min_not hne] at MX
    replace MX := Aside0.mk MX
    clear h0 h00 hr hsz hne
    generalize autE x = ee at *
    go_enter Try.func13, Try.ntmps13
    go_wp2_with (((with_reducible refine gate_ld (t := 25) rfl ?_); first | (refine ld_au (y := x) (A := A) (c := c) (B := B) (d := d) _ rfl (w.heap.size) rfl Gx0.out.blk rfl ?_)))
    refine (MX.out _ Gx0.out.ard).mono ?_
    rintro e w1 ⟨vn, va, vt, rfl, hn, ha, ht, hs, hb⟩
    obtain ⟨ARm, cRm, rfl⟩ := Kd.R_slice hn
    obtain ⟨BRm, eRm, rfl⟩ := Kd.R_slice ha
    obtain ⟨TRm, tRm, rfl⟩ := Kd.R_slice ht
    clear hs
    have Rm1 := Aside0.mk (RsA.new (V := (⟨0, [], []⟩ : AutV)) (base := w.heap.size) hn ha BE0.out.size)
    clear hn ha ht
    have Gx1 := Aside0.mk ((Gx0.out.keep hb).alloc (AB (⟨0, [], []⟩ : AutV) ARm cRm BRm eRm))
    have BE1 := Lib.hid (bl_alloc (bl_then BE0.out hb) (AB (⟨0, [], []⟩ : AutV) ARm cRm BRm eRm))
    clear hb Gx0 BE0
    go_wp2_with (first | ((with_reducible refine gate_st (t := 25) rfl ?_); refine st_au_new (y := (⟨0, [], []⟩ : AutV)) (A := ARm) (c := cRm) (B := BRm) (d := eRm) _ _ rfl rfl rfl rfl rfl ?_) | ((with_reducible refine gate_ld (t := 25) rfl ?_); first | (refine ld_au (y := x) (A := A) (c := c) (B := B) (d := d) _ rfl (w.heap.size) rfl Gx1.out.blk rfl ?_) | (refine ld_au (y := (⟨0, [], []⟩ : AutV)) (A := ARm) (c := cRm) (B := BRm) (d := eRm) _ rfl (w1.heap.size) rfl Rm1.out.blk rfl ?_)))
    refine (numM_any _ _).mono ?_
    rintro e w' ⟨rfl, rfl⟩
    have q2 : (w1.alloc (AB (⟨0, [], []⟩ : AutV) ARm cRm BRm eRm)).cell? ⟨w1.heap.size, 2, none⟩ = some (.slice BRm 0 eRm) := by rw [cell_of_row _ _ _ _ _ _ Rm1.out.blk]; rfl
    go_wp2_with fail
    refine (liveM_any _).mono ?_
    rintro e wz ⟨rfl, hb⟩
    have HF := Lib.hid (bl_then BE1.out hb)
    clear hb
    go_wp2
    go_ret
    exact ⟨rfl, HF.out⟩
end Go.Proofs.Ytjedippbjjedlaa
