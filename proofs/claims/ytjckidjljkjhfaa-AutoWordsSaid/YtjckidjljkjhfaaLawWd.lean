/- The walk of the statement AutoWords. -/
import Derived.Test.YtjckidjljkjhfaaWdW
import Derived.Test.YtjckidjljkjhfaaWdR
namespace Go.Proofs.Ytjckidjljkjhfaa
open Go.RowKit Go.Proofs.YtjckidjljkjhfaaW.PrintWords
set_option linter.unusedSimpArgs false
set_option linter.unusedVariables false
set_option maxRecDepth 100000 in
set_option maxHeartbeats 1000000 in
theorem autoWords_any (w : World) (k : Int) (_ : -9223372036854775808 ≤ k ∧ k ≤ 9223372036854775807) (v : ByteArray) (hv : v.size ≤ 140737488351232) :
    Calls Try.prog 5 #[.int .i64 k, .string v] w fun e w' => e = .returned (.bool true) ∧ Below w.heap.size w w' := by
  have WA := Aside0.mk (fun W => auto_word_any k v (by omega) W)
  have WR := Aside0.mk (fun W => rword_any k v hv W)
  generalize wrV k v = V at *
  generalize wrE k v = E at *
  go_enter Try.func5, Try.ntmps5
  go_wp2_with fail
  refine (WA.out _).mono ?_
  rintro e w1 ⟨vn, va, rfl, hn, ha, hb⟩
  obtain ⟨An, cn, rfl⟩ := Kd.R_slice hn
  obtain ⟨Aa, ca, rfl⟩ := Kd.R_slice ha
  have H1 := Lib.hid (hp_new (w := w1) (o := AB V An cn Aa ca) rfl)
  have B1 := Lib.hid (bl_alloc hb (AB V An cn Aa ca))
  have R1 := Aside0.mk (ARd.below (x := V) ⟨(Kd.R_reads' hn).2.2, (Kd.R_reads' ha).2.2⟩ (bl_alloc (Below.refl _ _) (AB V An cn Aa ca)))
  clear hn ha hb WA
  go_wp2_with ((with_reducible refine gate_st (t := 25) rfl ?_); refine st_au_new (y := V) (A := An) (c := cn) (B := Aa) (d := ca) _ _ rfl rfl rfl rfl rfl ?_)
  refine (WR.out _).mono ?_
  rintro e w2 ⟨vn, va, rfl, hn, ha, hb⟩
  obtain ⟨Cn, dn, rfl⟩ := Kd.R_slice hn
  obtain ⟨Ca, da, rfl⟩ := Kd.R_slice ha
  have H2 := Lib.hid (hp_new (w := w2) (o := AB V Cn dn Ca da) rfl)
  have H1' := Lib.hid (hp_old (o := AB V Cn dn Ca da) (hp_below' hb H1.out))
  have B2 := Lib.hid (bl_alloc (bl_then B1.out hb) (AB V Cn dn Ca da))
  have R2 := Aside0.mk (ARd.below (x := V) ⟨(Kd.R_reads' hn).2.2, (Kd.R_reads' ha).2.2⟩ (bl_alloc (Below.refl _ _) (AB V Cn dn Ca da)))
  have R1' := Aside0.mk ((R1.out.below hb).below (bl_alloc (Below.refl _ _) (AB V Cn dn Ca da)))
  clear hn ha hb WR H1 B1 R1
  go_wp2_with (first | ((with_reducible refine gate_st (t := 25) rfl ?_); refine st_au_new (y := V) (A := Cn) (c := dn) (B := Ca) (d := da) _ _ rfl rfl rfl rfl rfl ?_) | ((with_reducible refine gate_ld (t := 25) rfl ?_); refine ld_au (y := V) _ rfl w1.heap.size rfl H1'.out rfl ?_) | ((with_reducible refine gate_ld (t := 25) rfl ?_); refine ld_au (y := V) _ rfl w2.heap.size rfl H2.out rfl ?_))
  have SM := samea_any V V An cn Aa ca Cn dn Ca da _ R1'.out R2.out
  rw [show sameV V V = true from decide_eq_true ⟨rfl, rfl, rfl⟩] at SM
  refine SM.mono ?_
  rintro e w3 ⟨rfl, hb⟩
  have B3 := Lib.hid (bl_then B2.out hb)
  clear hb SM B2 H1' H2 R1' R2
  go_wp2_with fail
  refine (num8_any _ _).mono ?_
  rintro e w' ⟨rfl, rfl⟩
  go_wp2_with fail
  refine (live8_any _).mono ?_
  rintro e w4 ⟨rfl, hb⟩
  have B4 := Lib.hid (bl_then B3.out hb)
  clear hb B3
  go_wp2
  go_ret
  exact ⟨rfl, B4.out⟩
end Go.Proofs.Ytjckidjljkjhfaa
