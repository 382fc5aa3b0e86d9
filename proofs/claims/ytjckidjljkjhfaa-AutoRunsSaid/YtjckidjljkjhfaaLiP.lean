/- The walks of eggboxlaw08.Plain and live. -/
import Derived.Test.YtjckidjljkjhfaaLsA
import Derived.Test.YtjckidjljkjhfaaPlR
import Derived.Test.YtjckidjljkjhfaaAcc
namespace Go.Proofs.Ytjckidjljkjhfaa
open Go.RowKit Go.Proofs.YtjckidjljkjhfaaW.PrintWords
set_option linter.unusedSimpArgs false
set_option linter.unusedVariables false
theorem C_blk {α : Type} {en : α → Value} {e1 : ∀ x, (en x).oneCell' = true} (z : α) {w : World} {g : Nat} {cs : Array Value} {t : TypeId} {fr : Nat × Nat} (l : List α) (h : w.heap[g]? = some (.cells cs t fr)) (hmax : l.length ≤ 9223372036854775807)
    (hc : ∀ j, j < l.length → cs[j]? = some (en (l.getD j z))) : (Kd.scalar en e1).C w (some ⟨g, 0, none⟩) l.length l := by
  refine Kd.C_of_reads (enc := en) (d := z) (h1 := e1) ⟨rfl, hmax, fun _ => ⟨⟨g, 0, none⟩, rfl, fun j hj => ?_⟩⟩
  rw [add_plain, cell_of_row _ _ _ _ _ _ h, hc j hj]
set_option maxRecDepth 100000 in
set_option maxHeartbeats 400000 in
theorem num8_any (n : Int) (w : World) : Calls Try.prog 17 #[.int .i64 n] w fun e w' => e = .returned (.int .i64 n) ∧ w = w' := by
  go_enter Try.func17, Try.ntmps17
  go_wp2
  go_ret
  exact ⟨rfl, rfl⟩
set_option maxRecDepth 100000 in
set_option maxHeartbeats 400000 in
theorem plain_any (w : World) : Calls Try.prog 56 #[] w fun e w' => ∃ A B, e = .returned (.agg (ac plainV A 4 B 2)) ∧ ARd w' plainV A B ∧ Below w.heap.size w w' := by
  have h0 := (((Hp.start w).alloc (.cells #[.int .i64 0, .slice none 0 0, .slice none 0 0] 25)).alloc (.cells #[.int .i64 1, .int .i64 0, .int .i64 1, .int .i64 1] 3)).alloc (.cells #[.bool true, .bool false] 4)
  rw [World.size_alloc, World.size_alloc] at h0
  have H0 := Lib.hid h0
  clear h0
  go_enter Try.func56, Try.ntmps56
  go_wp2_with ((with_reducible refine gate_st (t := 25) rfl ?_); refine wpList_store_row rfl 25 _ _ rfl w.heap.size (ac plainV (some ⟨w.heap.size + 1, 0, none⟩) 4 (some ⟨w.heap.size + 1 + 1, 0, none⟩) 2) rfl rfl 25 _ (H0.out.at 2 rfl) (by show _ = some 3; kernel_rfl) rfl (by simp [Value.oneCell']) ?_)
  have k1 : ((((w.alloc (.cells #[.int .i64 0, .slice none 0 0, .slice none 0 0] 25)).alloc (.cells #[.int .i64 1, .int .i64 0, .int .i64 1, .int .i64 1] 3)).alloc (.cells #[.bool true, .bool false] 4)).setRow w.heap.size (ac plainV (some ⟨w.heap.size + 1, 0, none⟩) 4 (some ⟨w.heap.size + 1 + 1, 0, none⟩) 2)).heap[w.heap.size + 1]? = _ := hp_row (by omega) (H0.out.at 1 rfl)
  have k2 : ((((w.alloc (.cells #[.int .i64 0, .slice none 0 0, .slice none 0 0] 25)).alloc (.cells #[.int .i64 1, .int .i64 0, .int .i64 1, .int .i64 1] 3)).alloc (.cells #[.bool true, .bool false] 4)).setRow w.heap.size (ac plainV (some ⟨w.heap.size + 1, 0, none⟩) 4 (some ⟨w.heap.size + 1 + 1, 0, none⟩) 2)).heap[w.heap.size + 1 + 1]? = _ := hp_row (by omega) (H0.out.at 0 rfl)
  refine bodyPost_ret (v := .agg (ac plainV (some ⟨w.heap.size + 1, 0, none⟩) 4 (some ⟨w.heap.size + 1 + 1, 0, none⟩) 2)) ?_ rfl ⟨_, _, rfl, ⟨C_blk (0 : Int) plainV.next k1 (by decide) (fun j hj => ?_), C_blk false plainV.acc k2 (by decide) (fun j hj => ?_)⟩, bl_row H0.out.2 (Nat.le_refl _) _⟩
  · exact results_cell_row rfl _ _ w.heap.size 25 _ _ _ rfl (setRow_heap _ _ _ _ _ _ (H0.out.at 2 rfl)) Try.underlying25 rfl (by show _ = some 3; kernel_rfl)
  · have : j < 4 := hj
    have h : j = 0 ∨ j = 1 ∨ j = 2 ∨ j = 3 := by omega
    rcases h with rfl | rfl | rfl | rfl <;> rfl
  · have : j < 2 := hj
    have h : j = 0 ∨ j = 1 := by omega
    rcases h with rfl | rfl <;> rfl
/-- The words over two letters that are not in b*: the least one. -/
def notV : AutV := ⟨2, [1, 0, 1, 1], [false, true]⟩
theorem notV_ok : AutOk notV := by
  refine ⟨by decide, by decide, by decide, by decide, by decide, fun i hi => ?_⟩
  have : i = 0 ∨ i = 1 ∨ i = 2 ∨ i = 3 := by simp [notV] at hi; omega
  rcases this with rfl | rfl | rfl | rfl <;> decide
theorem least_not : lstS notV = ⟨#[97]⟩ ∧ lstB notV = true := by
  have hc : Closed 2 (stp notV) 0 2 := by unfold Closed; decide +kernel
  have e : lstO notV = some [0] := by
    unfold lstO
    rw [show notV.k.toNat = 2 from rfl, fnd_stay (by decide) _ hc (by decide)]
    decide +kernel
  unfold lstS lstB
  rw [if_pos (autE_ok notV_ok), if_pos (autE_ok notV_ok), e]
  exact ⟨rfl, rfl⟩
set_option maxRecDepth 100000 in
set_option maxHeartbeats 400000 in
theorem live8_any (w : World) : Calls Try.prog 21 #[] w fun e w' => e = .returned (.bool true) ∧ Below w.heap.size w w' := by
  go_enter Try.func21, Try.ntmps21
  go_wp2_with fail
  refine (plain_any _).mono ?_
  rintro e w1 ⟨A1, B1, rfl, r1, hb1⟩
  have R1 := Aside0.mk r1; have HB1 := Lib.hid hb1
  clear r1 hb1
  go_wp2_with fail
  have RN := run_any plainV A1 4 B1 2 0 ⟨#[98, 98, 97]⟩ (by decide) w1 R1.out
  rw [run_plain.1, run_plain.2] at RN
  refine RN.mono ?_
  rintro e w2 ⟨rfl, hb2⟩
  have HB2 := Lib.hid (bl_then HB1.out hb2)
  clear hb2 RN HB1
  go_wp2_with fail
  refine (plain_any _).mono ?_
  rintro e w3 ⟨A2, B2, rfl, r2, hb3⟩
  have R2 := Aside0.mk r2; have HB3 := Lib.hid (bl_then HB2.out hb3)
  clear r2 hb3 HB2
  go_wp2_with fail
  have NT := not_any plainV A2 4 B2 2 w3 R2.out
  rw [not_plain, autE_ok plain_ok] at NT
  refine NT.mono ?_
  rintro e w4 ⟨vn, va, rfl, hn, ha, hb4⟩
  clear NT
  obtain ⟨An, cn, rfl, ln, hCn⟩ := Kd.R_reads hn
  obtain ⟨Aa, ca, rfl, la, hCa⟩ := Kd.R_reads ha
  have HB5 := Lib.hid (bl_alloc (bl_then HB3.out hb4) (AB notV An cn Aa ca))
  have HN5 := Lib.hid (hp_new (w := w4) (o := AB notV An cn Aa ca) rfl)
  have HR5 := Aside0.mk (ARd.below (x := notV) ⟨hCn, hCa⟩ (bl_alloc (Below.refl _ _) (AB notV An cn Aa ca)))
  clear hb4 hn ha hCn hCa HB3
  go_wp2_with (first | ((with_reducible refine gate_st (t := 25) rfl ?_); refine st_au_new (y := notV) (A := An) (c := cn) (B := Aa) (d := ca) _ _ rfl rfl rfl rfl rfl ?_) | ((with_reducible refine gate_ld (t := 25) rfl ?_); refine ld_au (y := notV) _ rfl w4.heap.size rfl HN5.out rfl ?_))
  have LE := least_any notV An cn Aa ca _ HR5.out
  rw [least_not.1, least_not.2, autE_ok notV_ok] at LE
  refine LE.mono ?_
  rintro e w5 ⟨rfl, hb5⟩
  have HB6 := Lib.hid (bl_then HB5.out hb5)
  clear hb5 LE HB5
  go_wp2_with fail
  refine (num8_any _ _).mono ?_
  rintro e w' ⟨rfl, rfl⟩
  go_wp2_with fail
  refine (num8_any _ _).mono ?_
  rintro e w' ⟨rfl, rfl⟩
  go_wp2_with fail
  refine (num8_any _ _).mono ?_
  rintro e w' ⟨rfl, rfl⟩
  go_wp2
  go_ret
  exact ⟨rfl, HB6.out⟩
end Go.Proofs.Ytjckidjljkjhfaa
