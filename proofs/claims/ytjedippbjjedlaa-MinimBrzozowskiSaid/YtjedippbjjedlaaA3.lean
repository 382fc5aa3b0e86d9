/- Merged by tools/merge2.py out of: XLiM (a claim bears 60 files at most). -/
import Derived.Test.YtjedippbjjedlaaA2
import Derived.Test.YtjedippbjjedlaaB1
import Derived.Test.YtjedippbjjedlaaA1
namespace Go.Proofs.Ytjedippbjjedlaa
open Go.RowKit Go.Proofs.YtjedippbjjedlaaW.PrintWords
set_option linter.unusedSimpArgs false
set_option linter.unusedVariables false
/-- The example. -/
def exA : AutV := ⟨1, [1, 2, 3, 2], [false, true, false, true]⟩
theorem exA_ok : AutOk exA := by
  refine ⟨by decide, by decide, by decide, by decide, by decide, fun i hi => ?_⟩
  have : i < 4 := hi
  have h : i = 0 ∨ i = 1 ∨ i = 2 ∨ i = 3 := by omega
  rcases h with rfl | rfl | rfl | rfl <;> decide
theorem exA_min : (mAut exA).next = [1, 0] ∧ (mAut exA).acc = [false, true] ∧ mTo exA = [0, 1, 0, 1] := by decide +kernel
theorem C_blk {α : Type} {en : α → Value} {e1 : ∀ x, (en x).oneCell' = true} (z : α) {w : World} {g : Nat} {cs : Array Value} {t : TypeId} {fr : Nat × Nat} (l : List α) (h : w.heap[g]? = some (.cells cs t fr)) (hmax : l.length ≤ 9223372036854775807)
    (hc : ∀ j, j < l.length → cs[j]? = some (en (l.getD j z))) : (Kd.scalar en e1).C w (some ⟨g, 0, none⟩) l.length l := by
  refine Kd.C_of_reads (enc := en) (d := z) (h1 := e1) ⟨rfl, hmax, fun _ => ⟨⟨g, 0, none⟩, rfl, fun j hj => ?_⟩⟩
  rw [add_plain, cell_of_row _ _ _ _ _ _ h, hc j hj]
/-- A literal list of numbers. -/
theorem C_lit (l : List Int) (hl : l.length ≤ 1000) (W : World) {cs : Array Value} (hcs : cs = (l.map (Value.int .i64)).toArray) (w' : World) (hb : Below (W.alloc (.cells cs 3)).heap.size (W.alloc (.cells cs 3)) w') : Kd.C (Kd.int .i64) w' (some ⟨W.heap.size, 0, none⟩) l.length l := by
  have k := (hb.block W.heap.size (by simp)).trans (hp_new (w := W) (o := .cells cs 3) rfl)
  refine C_blk (0 : Int) l k (by omega) (fun j hj => ?_)
  subst hcs
  simp [List.getD_eq_getElem?_getD, hj]
set_option maxRecDepth 100000 in
set_option maxHeartbeats 400000 in
theorem numM_any (n : Int) (w : World) : Calls Try.prog 31 #[.int .i64 n] w fun e w' => e = .returned (.int .i64 n) ∧ w = w' := by
  go_enter Try.func31, Try.ntmps31
  go_wp2
  go_ret
  exact ⟨rfl, rfl⟩
set_option maxRecDepth 100000 in
set_option maxHeartbeats 400000 in
theorem liveM_any (w : World) : Calls Try.prog 34 #[] w fun e w' => e = .returned (.bool true) ∧ Below w.heap.size w w' := by
  have H0 := Lib.hid (((Hp.start w).alloc (.cells #[.int .i64 1, .int .i64 2, .int .i64 3, .int .i64 2] 3)).alloc (.cells #[.bool false, .bool true, .bool false, .bool true] 4))
  have hC : ∀ w' : World, Below (w.heap.size + 2) ((w.alloc (.cells #[.int .i64 1, .int .i64 2, .int .i64 3, .int .i64 2] 3)).alloc (.cells #[.bool false, .bool true, .bool false, .bool true] 4)) w' → ARd w' exA (some ⟨w.heap.size, 0, none⟩) (some ⟨w.heap.size + 1, 0, none⟩) := fun w' hb => by
    have k0 := (hb.block w.heap.size (by omega)).trans (H0.out.at 1 rfl)
    have k1 := (hb.block (w.heap.size + 1) (by omega)).trans (hp_new (o := .cells #[.bool false, .bool true, .bool false, .bool true] 4) (by simp))
    refine ⟨C_blk (0 : Int) exA.next k0 (by decide) (fun j hj => ?_), C_blk false exA.acc k1 (by decide) (fun j hj => ?_)⟩
    · have : j < 4 := hj
      have h : j = 0 ∨ j = 1 ∨ j = 2 ∨ j = 3 := by omega
      rcases h with rfl | rfl | rfl | rfl <;> rfl
    · have : j < 4 := hj
      have h : j = 0 ∨ j = 1 ∨ j = 2 ∨ j = 3 := by omega
      rcases h with rfl | rfl | rfl | rfl <;> rfl
  have HC := Aside0.mk hC
  have MN := Aside0.mk (fun (W : World) (h : ARd W exA (some ⟨w.heap.size, 0, none⟩) (some ⟨w.heap.size + 1, 0, none⟩)) => minimal_any exA (some ⟨w.heap.size, 0, none⟩) 4 (some ⟨w.heap.size + 1, 0, none⟩) 4 exA_ok W h)
  rw [exA_min.1, exA_min.2.1, exA_min.2.2] at MN
  clear hC
  go_enter Try.func34, Try.ntmps34
  have H1 := Lib.hid (H0.out.alloc (AB exA (some ⟨w.heap.size, 0, none⟩) 4 (some ⟨w.heap.size + 1, 0, none⟩) 4))
  rw [World.size_alloc, World.size_alloc] at H1
  go_wp2_with (first | ((with_reducible refine gate_st (t := 25) rfl ?_); refine st_au_new (y := exA) (A := some ⟨w.heap.size, 0, none⟩) (c := 4) (B := some ⟨w.heap.size + 1, 0, none⟩) (d := 4) _ _ rfl rfl rfl rfl rfl ?_) | ((with_reducible refine gate_ld (t := 25) rfl ?_); refine ld_au (y := exA) _ rfl (w.heap.size + 1 + 1) rfl (H1.out.at 0 rfl) rfl ?_))
  have hsz : ((w.alloc (.cells #[.int .i64 1, .int .i64 2, .int .i64 3, .int .i64 2] 3)).alloc (.cells #[.bool false, .bool true, .bool false, .bool true] 4)).heap.size = w.heap.size + 2 := by simp
  refine (MN.out _ (HC.out _ ((Below.refl _ _).alloc (by rw [hsz]; exact Nat.le_refl _) _))).mono ?_
  rintro e w2 ⟨vn, va, vt, rfl, hn, ha, ht, hs, hb⟩
  have H2 := Lib.hid (H1.out.keep hb)
  have hbs : w.heap.size ≤ w.heap.size + 1 + 1 + 1 := by omega
  have hsz2 := hb.size
  obtain ⟨An, cn, rfl, lcn, hCn⟩ := Kd.R_reads hn
  obtain ⟨ga, ca, rfl, lga, lga2, hca⟩ := own_form false ha (by decide)
  obtain ⟨At, ct, rfl, lct, hCt⟩ := Kd.R_reads ht
  have HCN := Aside0.mk hCn; have HCT := Aside0.mk hCt
  have hc1 := (hca 1 (by decide)).1
  have HA1 := Lib.hid hc1
  clear hb hn ha ht hs hCn hCt hca hsz MN HC H0 H1 hc1 lga
  have H3 := Lib.hid (H2.out.alloc (AB ⟨1, [1, 0], [false, true]⟩ An cn (some ⟨ga, 0, none⟩) ca))
  have c1 : (w2.alloc (AB ⟨1, [1, 0], [false, true]⟩ An cn (some ⟨ga, 0, none⟩) ca)).cell? ⟨w2.heap.size, 1, none⟩ = some (.slice An 2 cn) := by rw [cell_of_row _ _ _ _ _ _ (H3.out.at 0 rfl)]; rfl
  go_wp2_with ((with_reducible refine gate_st (t := 25) rfl ?_); refine st_au_new (y := ⟨1, [1, 0], [false, true]⟩) (A := An) (c := cn) (B := some ⟨ga, 0, none⟩) (d := ca) _ _ rfl rfl rfl rfl rfl ?_)
  refine (numM_any _ _).mono ?_
  rintro e w' ⟨rfl, rfl⟩
  go_wp2_with fail
  have hCN2 := Kd.C_below (Kd.C_below HCN.out (bl_alloc (Below.refl _ _) (AB ⟨1, [1, 0], [false, true]⟩ An cn (some ⟨ga, 0, none⟩) ca))) (bl_alloc (Below.refl _ _) (.cells #[.int .i64 1, .int .i64 0] 3))
  have SM := same_any An cn [1, 0] (some ⟨(w2.alloc (AB ⟨1, [1, 0], [false, true]⟩ An cn (some ⟨ga, 0, none⟩) ca)).heap.size, 0, none⟩) 2 [1, 0] _ hCN2 (C_lit [1, 0] (by decide) (w2.alloc (AB ⟨1, [1, 0], [false, true]⟩ An cn (some ⟨ga, 0, none⟩) ca)) rfl _ (Below.refl _ _))
  rw [decide_eq_true rfl, World.size_alloc] at SM
  refine SM.mono ?_
  rintro e w3 ⟨rfl, hb⟩
  clear SM
  have H4 := Lib.hid ((H3.out.alloc (.cells #[.int .i64 1, .int .i64 0] 3)).keep hb)
  have HCT3 := Aside0.mk (Kd.C_below (Kd.C_below (Kd.C_below HCT.out (bl_alloc (Below.refl _ _) (AB ⟨1, [1, 0], [false, true]⟩ An cn (some ⟨ga, 0, none⟩) ca))) (bl_alloc (Below.refl _ _) (.cells #[.int .i64 1, .int .i64 0] 3))) hb)
  have c2 : w3.cell? ⟨w2.heap.size, 2, none⟩ = some (.slice (some ⟨ga, 0, none⟩) 2 ca) := by rw [cell_of_row _ _ _ _ _ _ (H4.out.at 1 rfl)]; rfl
  have c3 : w3.cell? ⟨ga, 1, none⟩ = some (.bool true) := (hb.cell (by simp; omega)).trans (alloc_cell (alloc_cell HA1.out))
  clear hb H3 hCN2 c1 hsz2 hbs
  go_wp2_with fail
  have hCT2 := Kd.C_below HCT3.out (bl_alloc (Below.refl _ _) (.cells #[.int .i64 0, .int .i64 1, .int .i64 0, .int .i64 1] 3))
  have SM := same_any At ct [0, 1, 0, 1] (some ⟨w3.heap.size, 0, none⟩) 4 [0, 1, 0, 1] _ hCT2 (C_lit [0, 1, 0, 1] (by decide) w3 rfl _ (Below.refl _ _))
  rw [decide_eq_true rfl] at SM
  refine SM.mono ?_
  rintro e w4 ⟨rfl, hb⟩
  clear SM
  have H5 := Lib.hid ((H4.out.alloc (.cells #[.int .i64 0, .int .i64 1, .int .i64 0, .int .i64 1] 3)).keep hb)
  clear hb hCT2 H4
  go_wp2
  go_ret
  exact ⟨rfl, H5.out.2⟩
end Go.Proofs.Ytjedippbjjedlaa

