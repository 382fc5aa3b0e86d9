/- The walk of the reference's Put. -/
import Derived.Test.YtpebnldoimoahaaTabC
namespace Go.Proofs.Ytpebnldoimoahaa
open Go.RowKit Go.Proofs.YtpebnldoimoahaaW.PrintWords
set_option linter.unusedSimpArgs false
set_option linter.unusedVariables false
set_option maxRecDepth 100000
variable {w : World} {base : Nat} {c : Nat → Nat} {i g : Nat} {sl : Value} {n : Int} {L : List (Int × List Nat)}
def RputR (w : World) (base : Nat) (c : Nat → Nat) (i : Nat) (x : Value) (n : Int) (r : Nat × Bool × Int × List (Int × List Nat)) (e : Ending) (w' : World) : Prop :=
  e = .returned (.tuple #[.int .i64 ((r.1 : Nat) : Int), .bool r.2.1, .int .i64 r.2.2.1]) ∧ RTab w' base c i x n r.2.2.2 ∧ Fr w w' base (fun k => c k = i ∨ c k = i + 1)
/-- What is no transformation, or one of other points. -/
theorem rput_no1 (h : RTabAt w base c i g sl n L) (hL : LOk n L) (hbase : base ≤ w.heap.size) (x : Int × List Nat) (hx : okT x) (hg : goodT x.1 x.2 = false) :
    Calls Try.prog 62 #[.pointer (some ⟨g, 0, none⟩), .agg (tvv x.1 x.2)] w (RputR w base c i (.pointer (some ⟨g, 0, none⟩)) n (putR n L x)) := by
  rw [show putR n L x = (0, false, 130, L) by unfold putR; rw [hg]; rw [if_neg (by simp)]]
  have H := Lib.hid (h.below (bl_alloc (Below.refl w.heap.size w) (TR x.1 x.2)))
  have HX := Lib.hid hx
  have HT := Lib.hid h
  have HBS := Lib.hid hbase
  have hlt := hp_lt h.var
  have HCK := Aside0.mk (rcheck_any x.1 x.2 hx.1 (Lib.hid hx.2.1))
  rw [hg] at HCK
  clear h hL hx hg hbase
  go_enter Try.func62, Try.ntmps62
  go_wp2
  refine wp_region_held_drew (S := fun w' => w'.heap[w.heap.size]? = some (TR x.1 x.2) ∧ Below w.heap.size w w') (by kernel_rfl) ⟨hp_new rfl, (bl_alloc (Below.refl _ _) _).drew⟩ (fun hS => ?_)
  refine any_take (i := 0) rfl (by kernel_rfl) (by kernel_rfl) (by kernel_rfl) (fun _ _ _ h => h) hS (yi_row _ _ rfl (by rfl) (w.heap.size) rfl ((tvv x.1 x.2)) _ Try.underlying26 rfl ((tr_z _ _ HX.out.1)) (fun w' h' => ⟨_, _, h'.1⟩)) ?_
  (try simp only [Act.put, List.setIfInBounds_toArray, List.set_cons_zero, List.set_cons_succ])
  refine any_call (i := 1) rfl (by kernel_rfl) (by rfl) 19 #[.agg (tvv x.1 x.2)] ?x2 (HCK.out _) ?_
  case x2 => (simp [go_sem])
  (try simp only [Act.put, List.setIfInBounds_toArray, List.set_cons_zero, List.set_cons_succ])
  rintro e w2 ⟨rfl, hb⟩
  have hS2 : w2.heap[w.heap.size]? = some (TR x.1 x.2) ∧ Below w.heap.size w w2 := ⟨hp_below' hb hS.1, bl_then hS.2 hb⟩
  refine ⟨_, rfl, hS2, ?_⟩
  (try simp only [Act.put, List.setIfInBounds_toArray, List.set_cons_zero, List.set_cons_succ])
  refine any_take (i := 2) (v := .bool true) rfl (by kernel_rfl) (by kernel_rfl) (by kernel_rfl) (fun _ _ _ h => h) hS2 (yi_val (by rfl) (fun w' h' => ?y5)) ?_
  case y5 => first | rfl | (go_simp; done) | (go_simp; omega)
  (try simp only [Act.put, List.setIfInBounds_toArray, List.set_cons_zero, List.set_cons_succ])
  refine any_take (i := 3) (v := ?v7) rfl (by kernel_rfl) (by kernel_rfl) (by kernel_rfl) (fun _ _ _ h => h) hS2 (.inl ⟨by rfl, ?y7⟩) ?_
  case y7 => (intro w' h'; go_simp; with_reducible rfl)
  (try simp only [Act.put, List.setIfInBounds_toArray, List.set_cons_zero, List.set_cons_succ])
  refine any_take (i := 4) (v := undef) rfl (by kernel_rfl) (by kernel_rfl) (by kernel_rfl) (fun _ _ _ h => h) hS2 (.inr ⟨by rfl, rfl⟩) ?_
  (try simp only [Act.put, List.setIfInBounds_toArray, List.set_cons_zero, List.set_cons_succ])
  refine any_take (i := 5) (v := undef) rfl (by kernel_rfl) (by kernel_rfl) (by kernel_rfl) (fun _ _ _ h => h) hS2 (.inr ⟨by rfl, rfl⟩) ?_
  (try simp only [Act.put, List.setIfInBounds_toArray, List.set_cons_zero, List.set_cons_succ])
  refine any_take (i := 6) (v := undef) rfl (by kernel_rfl) (by kernel_rfl) (by kernel_rfl) (fun _ _ _ h => h) hS2 (.inr ⟨by rfl, rfl⟩) ?_
  (try simp only [Act.put, List.setIfInBounds_toArray, List.set_cons_zero, List.set_cons_succ])
  refine any_take (i := 7) (v := undef) rfl (by kernel_rfl) (by kernel_rfl) (by kernel_rfl) (fun _ _ _ h => h) hS2 (.inr ⟨by rfl, rfl⟩) ?_
  (try simp only [Act.put, List.setIfInBounds_toArray, List.set_cons_zero, List.set_cons_succ])
  refine any_take (i := 8) (v := undef) rfl (by kernel_rfl) (by kernel_rfl) (by kernel_rfl) (fun _ _ _ h => h) hS2 (.inr ⟨by rfl, rfl⟩) ?_
  (try simp only [Act.put, List.setIfInBounds_toArray, List.set_cons_zero, List.set_cons_succ])
  refine any_take (i := 9) (v := undef) rfl (by kernel_rfl) (by kernel_rfl) (by kernel_rfl) (fun _ _ _ h => h) hS2 (.inr ⟨by rfl, rfl⟩) ?_
  (try simp only [Act.put, List.setIfInBounds_toArray, List.set_cons_zero, List.set_cons_succ])
  refine any_take (i := 10) (v := undef) rfl (by kernel_rfl) (by kernel_rfl) (by kernel_rfl) (fun _ _ _ h => h) hS2 (.inr ⟨by rfl, rfl⟩) ?_
  (try simp only [Act.put, List.setIfInBounds_toArray, List.set_cons_zero, List.set_cons_succ])
  refine any_take (i := 11) (v := ?v10) rfl (by kernel_rfl) (by kernel_rfl) (by kernel_rfl) (fun _ _ _ h => h) hS2 (.inl ⟨by rfl, ?y10⟩) ?_
  case y10 => (intro w' h'; go_simp; with_reducible rfl)
  (try simp only [Act.put, List.setIfInBounds_toArray, List.set_cons_zero, List.set_cons_succ])
  refine wpAnyH_done (by kernel_rfl) ?_ _
  have HB2 := Lib.hid hS2.2
  clear hS hS2 hb HCK
  go_wp2
  go_ret3
  exact ⟨rfl, ⟨_, _, rfl, HT.out.below HB2.out⟩, Fr.of_below HB2.out HBS.out⟩
theorem rput_no2 (h : RTabAt w base c i g sl n L) (hL : LOk n L) (hbase : base ≤ w.heap.size) (x : Int × List Nat) (hx : okT x) (hg : goodT x.1 x.2 = true) (hn : x.1 ≠ n) :
    Calls Try.prog 62 #[.pointer (some ⟨g, 0, none⟩), .agg (tvv x.1 x.2)] w (RputR w base c i (.pointer (some ⟨g, 0, none⟩)) n (putR n L x)) := by
  rw [show putR n L x = (0, false, 130, L) by unfold putR; rw [if_neg (fun e => hn e.2)]]
  have H := Lib.hid (h.below (bl_alloc (Below.refl w.heap.size w) (TR x.1 x.2)))
  have HX := Lib.hid hx
  have HT := Lib.hid h
  have HBS := Lib.hid hbase
  have HV := Lib.hid h.var
  have HN : Hid ((x.1 != n) = true) := Lib.hid (by rw [bne_iff_ne]; exact hn)
  have hlt := hp_lt h.var
  have HCK := Aside0.mk (rcheck_any x.1 x.2 hx.1 (Lib.hid hx.2.1))
  rw [hg] at HCK
  clear h hL hx hg hbase hn
  go_enter Try.func62, Try.ntmps62
  go_wp2
  refine wp_region_held_drew (S := fun w' => w'.heap[w.heap.size]? = some (TR x.1 x.2) ∧ w'.heap[g]? = some (.cells #[.int .i64 n, sl] 118 (0, 0)) ∧ Below w.heap.size w w') (by kernel_rfl) ⟨hp_new rfl, hp_old HV.out, (bl_alloc (Below.refl _ _) _).drew⟩ (fun hS => ?_)
  refine any_take (i := 0) rfl (by kernel_rfl) (by kernel_rfl) (by kernel_rfl) (fun _ _ _ h => h) hS (yi_row _ _ rfl (by rfl) (w.heap.size) rfl ((tvv x.1 x.2)) _ Try.underlying26 rfl ((tr_z _ _ HX.out.1)) (fun w' h' => ⟨_, _, h'.1⟩)) ?_
  (try simp only [Act.put, List.setIfInBounds_toArray, List.set_cons_zero, List.set_cons_succ])
  refine any_call (i := 1) rfl (by kernel_rfl) (by rfl) 19 #[.agg (tvv x.1 x.2)] ?x13 (HCK.out _) ?_
  case x13 => (simp [go_sem])
  (try simp only [Act.put, List.setIfInBounds_toArray, List.set_cons_zero, List.set_cons_succ])
  rintro e w2 ⟨rfl, hb⟩
  have hS2 : w2.heap[w.heap.size]? = some (TR x.1 x.2) ∧ w2.heap[g]? = some (.cells #[.int .i64 n, sl] 118 (0, 0)) ∧ Below w.heap.size w w2 := ⟨hp_below' hb hS.1, hp_below' hb hS.2.1, bl_then hS.2.2 hb⟩
  refine ⟨_, rfl, hS2, ?_⟩
  (try simp only [Act.put, List.setIfInBounds_toArray, List.set_cons_zero, List.set_cons_succ])
  refine any_take (i := 2) (v := .bool false) rfl (by kernel_rfl) (by kernel_rfl) (by kernel_rfl) (fun _ _ _ h => h) hS2 (yi_val (by rfl) (fun w' h' => ?y16)) ?_
  case y16 => first | rfl | (go_simp; done) | (go_simp; omega)
  (try simp only [Act.put, List.setIfInBounds_toArray, List.set_cons_zero, List.set_cons_succ])
  refine any_take (i := 3) (v := ?v18) rfl (by kernel_rfl) (by kernel_rfl) (by kernel_rfl) (fun _ _ _ h => h) hS2 (.inl ⟨by rfl, ?y18⟩) ?_
  case y18 => (intro w' h'; go_simp; with_reducible rfl)
  (try simp only [Act.put, List.setIfInBounds_toArray, List.set_cons_zero, List.set_cons_succ])
  refine any_take (i := 4) (v := ?v19) rfl (by kernel_rfl) (by kernel_rfl) (by kernel_rfl) (fun _ _ _ h => h) hS2 (.inl ⟨by rfl, ?y19⟩) ?_
  case y19 => (intro w' h'; go_simp; with_reducible rfl)
  (try simp only [Act.put, List.setIfInBounds_toArray, List.set_cons_zero, List.set_cons_succ])
  refine any_take (i := 5) (v := .int .i64 x.1) rfl (by kernel_rfl) (by kernel_rfl) (by kernel_rfl) (fun _ _ _ h => h) hS2 (yi_cell _ _ rfl (by rfl) ⟨w.heap.size, 0, none⟩ rfl _ Try.underlying3 rfl (fun w' h' => (cell_of_row _ _ _ _ _ _ h'.1).trans (tvv_zero _ _))) ?_
  (try simp only [Act.put, List.setIfInBounds_toArray, List.set_cons_zero, List.set_cons_succ])
  refine any_take (i := 6) (v := ?v22) rfl (by kernel_rfl) (by kernel_rfl) (by kernel_rfl) (fun _ _ _ h => h) hS2 (.inl ⟨by rfl, ?y22⟩) ?_
  case y22 => (intro w' h'; go_simp; with_reducible rfl)
  (try simp only [Act.put, List.setIfInBounds_toArray, List.set_cons_zero, List.set_cons_succ])
  refine any_take (i := 7) (v := ?v23) rfl (by kernel_rfl) (by kernel_rfl) (by kernel_rfl) (fun _ _ _ h => h) hS2 (.inl ⟨by rfl, ?y23⟩) ?_
  case y23 => (intro w' h'; go_simp; with_reducible rfl)
  (try simp only [Act.put, List.setIfInBounds_toArray, List.set_cons_zero, List.set_cons_succ])
  refine any_take (i := 8) (v := ?v24) rfl (by kernel_rfl) (by kernel_rfl) (by kernel_rfl) (fun _ _ _ h => h) hS2 (.inl ⟨by rfl, ?y24⟩) ?_
  case y24 => (intro w' h'; go_simp; with_reducible rfl)
  (try simp only [Act.put, List.setIfInBounds_toArray, List.set_cons_zero, List.set_cons_succ])
  refine any_take (i := 9) (v := .int .i64 n) rfl (by kernel_rfl) (by kernel_rfl) (by kernel_rfl) (fun _ _ _ h => h) hS2 (yi_cell _ _ rfl (by rfl) ⟨g, 0, none⟩ rfl _ Try.underlying3 rfl (fun w' h' => (by rw [cell_of_row _ _ _ _ _ _ h'.2.1]; rfl))) ?_
  (try simp only [Act.put, List.setIfInBounds_toArray, List.set_cons_zero, List.set_cons_succ])
  have hne := HN.out
  refine any_take (i := 10) (v := .bool true) rfl (by kernel_rfl) (by kernel_rfl) (by kernel_rfl) (fun _ _ _ h => h) hS2 (yi_val (by rfl) (fun w' h' => ?y26)) ?_
  case y26 => first | rfl | (go_simp; done) | (go_simp; omega)
  (try simp only [Act.put, List.setIfInBounds_toArray, List.set_cons_zero, List.set_cons_succ])
  refine any_take (i := 11) (v := ?v28) rfl (by kernel_rfl) (by kernel_rfl) (by kernel_rfl) (fun _ _ _ h => h) hS2 (.inl ⟨by rfl, ?y28⟩) ?_
  case y28 => (intro w' h'; go_simp; with_reducible rfl)
  (try simp only [Act.put, List.setIfInBounds_toArray, List.set_cons_zero, List.set_cons_succ])
  refine wpAnyH_done (by kernel_rfl) ?_ _
  have HB2 := Lib.hid hS2.2.2
  clear hS hS2 hb HCK hne HV
  go_wp2
  go_ret3
  exact ⟨rfl, ⟨_, _, rfl, HT.out.below HB2.out⟩, Fr.of_below HB2.out HBS.out⟩
theorem rput_end (h : RTabAt w base c i g sl n L) {w2 w1 : World} {v1 : Value} {x : Int × List Nat} (hb2 : Below w.heap.size w w2) (hb : Below base w w1) (hg : w2.drew.grownBy w1 sl.ownBlock)
    (ho : trKd.R 26 w1 base (fun k => c k = i) v1 (L ++ [x])) (hv : w1.heap[g]? = some (.cells #[.int .i64 n, sl] 118 (0, 0))) :
    RTabAt (w1.setCell ⟨g, 1, none⟩ v1) base c i g v1 n (L ++ [x]) ∧ Fr w (w1.setCell ⟨g, 1, none⟩ v1) base (fun k => c k = i ∨ c k = i + 1) := by
  have hown : ∀ k, sl.ownBlock = some k → c k = i := h.row.1
  refine ⟨⟨?_, ?_, h.cg, h.bg⟩, ?_, ?_, ?_⟩
  · rw [heap_setCell_same _ _ _ _ _ _ hv]; rfl
  · exact Kd.R_far ho (p := ⟨g, 1, none⟩) (fun k hk => by rintro rfl; have := h.cg; show False; omega) v1
  · exact hb.setCell (p := ⟨g, 1, none⟩) h.bg v1
  · exact Nat.le_trans hb2.size (Nat.le_trans hg.size (by simp))
  · intro k hk hM
    have hkg : k ≠ g := by rintro rfl; exact hM (.inr h.cg)
    rw [heap_setCell_other _ _ _ _ (by show k ≠ g; exact hkg)]
    exact (hg.block k (Nat.lt_of_lt_of_le hk hb2.size) (fun e => hM (.inl (hown k e.symm)))).trans (hb2.block k hk)
/-- A transformation of n points. -/
theorem rput_yes (h : RTabAt w base c i g sl n L) (hL : LOk n L) (hbase : base ≤ w.heap.size) (hf : ∀ k, w.heap.size ≤ k → c k = i) (x : Int × List Nat) (hx : okT x) (hg : goodT x.1 x.2 = true) (hn : x.1 = n) :
    Calls Try.prog 62 #[.pointer (some ⟨g, 0, none⟩), .agg (tvv x.1 x.2)] w (RputR w base c i (.pointer (some ⟨g, 0, none⟩)) n (putR n L x)) := by
  have HR : Hid (putR n L x = if x ∈ L then (fndN L x, false, 0, L) else if 512 ≤ L.length then (0, false, 2, L) else (L.length, true, 0, L ++ [x])) := Lib.hid (by unfold putR; rw [if_pos ⟨hg, hn⟩])
  generalize putR n L x = R at *
  have H := Lib.hid (h.below (bl_alloc (Below.refl w.heap.size w) (TR x.1 x.2)))
  have HX := Lib.hid hx
  have HL := Lib.hid hL
  have HF := Lib.hid hf
  have HT := Lib.hid h
  have HBS := Lib.hid hbase
  have HV := Lib.hid h.var
  have HN : Hid ((x.1 != n) = false) := Lib.hid (by rw [bne_eq_false_iff_eq]; exact hn)
  have hlt := hp_lt h.var
  have HCK := Aside0.mk (rcheck_any x.1 x.2 hx.1 (Lib.hid hx.2.1))
  rw [hg] at HCK
  clear h hL hx hg hbase hn hf
  go_enter Try.func62, Try.ntmps62
  go_wp2
  refine wp_region_held_drew (S := fun w' => w'.heap[w.heap.size]? = some (TR x.1 x.2) ∧ w'.heap[g]? = some (.cells #[.int .i64 n, sl] 118 (0, 0)) ∧ Below w.heap.size w w') (by kernel_rfl) ⟨hp_new rfl, hp_old HV.out, (bl_alloc (Below.refl _ _) _).drew⟩ (fun hS => ?_)
  refine any_take (i := 0) rfl (by kernel_rfl) (by kernel_rfl) (by kernel_rfl) (fun _ _ _ h => h) hS (yi_row _ _ rfl (by rfl) (w.heap.size) rfl ((tvv x.1 x.2)) _ Try.underlying26 rfl ((tr_z _ _ HX.out.1)) (fun w' h' => ⟨_, _, h'.1⟩)) ?_
  (try simp only [Act.put, List.setIfInBounds_toArray, List.set_cons_zero, List.set_cons_succ])
  refine any_call (i := 1) rfl (by kernel_rfl) (by rfl) 19 #[.agg (tvv x.1 x.2)] ?x31 (HCK.out _) ?_
  case x31 => (simp [go_sem])
  (try simp only [Act.put, List.setIfInBounds_toArray, List.set_cons_zero, List.set_cons_succ])
  rintro e w2 ⟨rfl, hb⟩
  have hS2 : w2.heap[w.heap.size]? = some (TR x.1 x.2) ∧ w2.heap[g]? = some (.cells #[.int .i64 n, sl] 118 (0, 0)) ∧ Below w.heap.size w w2 := ⟨hp_below' hb hS.1, hp_below' hb hS.2.1, bl_then hS.2.2 hb⟩
  refine ⟨_, rfl, hS2, ?_⟩
  (try simp only [Act.put, List.setIfInBounds_toArray, List.set_cons_zero, List.set_cons_succ])
  refine any_take (i := 2) (v := .bool false) rfl (by kernel_rfl) (by kernel_rfl) (by kernel_rfl) (fun _ _ _ h => h) hS2 (yi_val (by rfl) (fun w' h' => ?y34)) ?_
  case y34 => first | rfl | (go_simp; done) | (go_simp; omega)
  (try simp only [Act.put, List.setIfInBounds_toArray, List.set_cons_zero, List.set_cons_succ])
  refine any_take (i := 3) (v := ?v36) rfl (by kernel_rfl) (by kernel_rfl) (by kernel_rfl) (fun _ _ _ h => h) hS2 (.inl ⟨by rfl, ?y36⟩) ?_
  case y36 => (intro w' h'; go_simp; with_reducible rfl)
  (try simp only [Act.put, List.setIfInBounds_toArray, List.set_cons_zero, List.set_cons_succ])
  refine any_take (i := 4) (v := ?v37) rfl (by kernel_rfl) (by kernel_rfl) (by kernel_rfl) (fun _ _ _ h => h) hS2 (.inl ⟨by rfl, ?y37⟩) ?_
  case y37 => (intro w' h'; go_simp; with_reducible rfl)
  (try simp only [Act.put, List.setIfInBounds_toArray, List.set_cons_zero, List.set_cons_succ])
  refine any_take (i := 5) (v := .int .i64 x.1) rfl (by kernel_rfl) (by kernel_rfl) (by kernel_rfl) (fun _ _ _ h => h) hS2 (yi_cell _ _ rfl (by rfl) ⟨w.heap.size, 0, none⟩ rfl _ Try.underlying3 rfl (fun w' h' => (cell_of_row _ _ _ _ _ _ h'.1).trans (tvv_zero _ _))) ?_
  (try simp only [Act.put, List.setIfInBounds_toArray, List.set_cons_zero, List.set_cons_succ])
  refine any_take (i := 6) (v := ?v40) rfl (by kernel_rfl) (by kernel_rfl) (by kernel_rfl) (fun _ _ _ h => h) hS2 (.inl ⟨by rfl, ?y40⟩) ?_
  case y40 => (intro w' h'; go_simp; with_reducible rfl)
  (try simp only [Act.put, List.setIfInBounds_toArray, List.set_cons_zero, List.set_cons_succ])
  refine any_take (i := 7) (v := ?v41) rfl (by kernel_rfl) (by kernel_rfl) (by kernel_rfl) (fun _ _ _ h => h) hS2 (.inl ⟨by rfl, ?y41⟩) ?_
  case y41 => (intro w' h'; go_simp; with_reducible rfl)
  (try simp only [Act.put, List.setIfInBounds_toArray, List.set_cons_zero, List.set_cons_succ])
  refine any_take (i := 8) (v := ?v42) rfl (by kernel_rfl) (by kernel_rfl) (by kernel_rfl) (fun _ _ _ h => h) hS2 (.inl ⟨by rfl, ?y42⟩) ?_
  case y42 => (intro w' h'; go_simp; with_reducible rfl)
  (try simp only [Act.put, List.setIfInBounds_toArray, List.set_cons_zero, List.set_cons_succ])
  refine any_take (i := 9) (v := .int .i64 n) rfl (by kernel_rfl) (by kernel_rfl) (by kernel_rfl) (fun _ _ _ h => h) hS2 (yi_cell _ _ rfl (by rfl) ⟨g, 0, none⟩ rfl _ Try.underlying3 rfl (fun w' h' => (by rw [cell_of_row _ _ _ _ _ _ h'.2.1]; rfl))) ?_
  (try simp only [Act.put, List.setIfInBounds_toArray, List.set_cons_zero, List.set_cons_succ])
  have hne := HN.out
  refine any_take (i := 10) (v := .bool false) rfl (by kernel_rfl) (by kernel_rfl) (by kernel_rfl) (fun _ _ _ h => h) hS2 (yi_val (by rfl) (fun w' h' => ?y44)) ?_
  case y44 => first | rfl | (go_simp; done) | (go_simp; omega)
  (try simp only [Act.put, List.setIfInBounds_toArray, List.set_cons_zero, List.set_cons_succ])
  refine any_take (i := 11) (v := ?v46) rfl (by kernel_rfl) (by kernel_rfl) (by kernel_rfl) (fun _ _ _ h => h) hS2 (.inl ⟨by rfl, ?y46⟩) ?_
  case y46 => (intro w' h'; go_simp; with_reducible rfl)
  (try simp only [Act.put, List.setIfInBounds_toArray, List.set_cons_zero, List.set_cons_succ])
  refine wpAnyH_done (by kernel_rfl) ?_ _
  have HB2 := Lib.hid hS2.2.2
  have HX2 := Lib.hid hS2.1
  have HT2 := Lib.hid (HT.out.below hS2.2.2)
  clear hS hS2 hb HCK hne HV HN H
  have HFD := Aside0.mk (rfind_alive HT2.out HL.out x HX.out)
  by_cases hm : x ∈ L
  · obtain rfl : R = (fndN L x, false, 0, L) := by rw [HR.out, if_pos hm]
    rw [decide_eq_true hm] at HFD
    clear hm HR
    generalize fndN L x = f at *
    go_wp2_with (refine ld2 _ rfl w.heap.size rfl HX.out.1 HX2.out rfl ?_)
    refine HFD.out.mono ?_
    rintro e w3 ⟨rfl, hb3⟩
    have HB3 := Lib.hid (bl_then HB2.out hb3)
    clear hb3 HFD
    go_wp2
    go_ret3
    exact ⟨rfl, ⟨_, _, rfl, HT.out.below HB3.out⟩, Fr.of_below HB3.out HBS.out⟩
  · rw [decide_eq_false hm, show fndN L x = 0 by unfold fndN; rw [if_neg hm]] at HFD
    have HM := Lib.hid hm
    clear hm
    go_wp2_with (refine ld2 _ rfl w.heap.size rfl HX.out.1 HX2.out rfl ?_)
    refine HFD.out.mono ?_
    rintro e w3 ⟨rfl, hb3⟩
    have HB3 := Lib.hid (bl_then HB2.out hb3)
    have HX3 := Lib.hid (hp_below' hb3 HX2.out)
    have HT3 := Lib.hid (HT2.out.below hb3)
    obtain ⟨A, cap, hsl, _⟩ := HT3.out.len
    have c2 : w3.cell? ⟨g, 1, none⟩ = some (.slice A L.length cap) := by rw [cell_of_row _ _ _ _ _ _ HT3.out.var, ← hsl]; rfl
    have hmx := HL.out.max
    have HSL := Lib.hid hsl
    clear hb3 HFD hsl
    by_cases hfull : L.length = 512
    · obtain rfl : R = (0, false, 2, L) := by rw [HR.out, if_neg HM.out, if_pos (by omega)]
      have hq : ((L.length : Int) == 512) = true := by rw [beq_iff_eq]; omega
      clear HR hfull
      go_wp2
      go_ret3
      exact ⟨rfl, ⟨_, _, rfl, HT.out.below HB3.out⟩, Fr.of_below HB3.out HBS.out⟩
    · obtain rfl : R = (L.length, true, 0, L ++ [x]) := by rw [HR.out, if_neg HM.out, if_neg (by omega)]
      have hq : ((L.length : Int) == 512) = false := by rw [beq_eq_false_iff_ne]; omega
      clear HR
      go_wp2
      have hinfo : (Try.prog.info? 26).map (fun i => (i.zero, i.size, i.bytes)) = some (some (.agg #[.int .i64 0, .int .u64 0, .int .u64 0, .int .u64 0, .int .u64 0, .int .u64 0, .int .u64 0, .int .u64 0]), 8, 64) := by kernel_rfl
      have hrow4 : trKd.R 26 w3.drew base (fun k => c k = i) sl L := Kd.R_drew HT3.out.row
      have hbel4 : Below base w w3.drew := (HB3.out.mono HBS.out).drew
      have hbase4 : base ≤ w3.drew.heap.size := Nat.le_trans HBS.out HB3.out.size
      have hfr : ∀ k, w3.drew.heap.size ≤ k → c k = i := fun k hk => HF.out k (Nat.le_trans HB3.out.size hk)
      have hbx1 : w.heap.size < w3.drew.heap.size := hp_lt HX3.out
      have hbx2 : some w.heap.size ≠ sl.ownBlock := fun e => Nat.lt_irrefl _ (Kd.R_lt HT.out.row _ e.symm)
      have hgo : some g ≠ sl.ownBlock := fun e => by have h1 := HT.out.row.1 g e.symm; have h2 := HT.out.cg; omega
      clear c2 hq
      refine wp_region_held_drew (S := fun w' => w'.heap[w.heap.size]? = some (TR x.1 x.2)) (by kernel_rfl) HX3.out (fun hS => ?_)
      refine any_take (i := 0) (v := ?v49) rfl (by kernel_rfl) (by kernel_rfl) (by kernel_rfl) (fun _ _ _ h => h) hS (.inl ⟨by rfl, ?y49⟩) ?_
      case y49 => (intro w' h'; go_simp; with_reducible rfl)
      (try simp only [Act.put, List.setIfInBounds_toArray, List.set_cons_zero, List.set_cons_succ])
      refine any_take (i := 1) (v := ?v50) rfl (by kernel_rfl) (by kernel_rfl) (by kernel_rfl) (fun _ _ _ h => h) hS (.inl ⟨by rfl, ?y50⟩) ?_
      case y50 => (intro w' h'; go_simp; with_reducible rfl)
      (try simp only [Act.put, List.setIfInBounds_toArray, List.set_cons_zero, List.set_cons_succ])
      refine any_take (i := 2) (v := ?v51) rfl (by kernel_rfl) (by kernel_rfl) (by kernel_rfl) (fun _ _ _ h => h) hS (.inl ⟨by rfl, ?y51⟩) ?_
      case y51 => (intro w' h'; go_simp; with_reducible rfl)
      (try simp only [Act.put, List.setIfInBounds_toArray, List.set_cons_zero, List.set_cons_succ])
      refine any_take (i := 3) (v := ?v52) rfl (by kernel_rfl) (by kernel_rfl) (by kernel_rfl) (fun _ _ _ h => h) hS (.inl ⟨by rfl, ?y52⟩) ?_
      case y52 => (intro w' h'; go_simp; with_reducible rfl)
      (try simp only [Act.put, List.setIfInBounds_toArray, List.set_cons_zero, List.set_cons_succ])
      refine any_take (i := 5) rfl (by kernel_rfl) (by kernel_rfl) (by kernel_rfl) (fun _ _ _ h => h) hS (yi_row _ _ rfl (by rfl) (w.heap.size) rfl ((tvv x.1 x.2)) _ Try.underlying26 rfl ((tr_z _ _ HX.out.1)) (fun w' h' => ⟨_, _, h'⟩)) ?_
      (try simp only [Act.put, List.setIfInBounds_toArray, List.set_cons_zero, List.set_cons_succ])
      refine any_two (i := 4) (j := 6) (by kernel_rfl) rfl rfl (by rfl) (by rfl) ?_ ?_
      · refine wp_load1 53 _ rfl ⟨g, 1, none⟩ rfl _ Try.underlying53 rfl (v := sl) (by rw [cell_of_row _ _ _ _ _ _ (show w3.drew.heap[g]? = _ from HT3.out.var)]; rfl) ⟨HX3.out, ?_⟩
        (try simp only [Act.put, List.setIfInBounds_toArray, List.set_cons_zero, List.set_cons_succ])
        refine any_one (i := 6) rfl (by kernel_rfl) (by rfl) (wp_row1 _ rfl rfl HX.out.1 ⟨hp_old HX3.out, ?_⟩)
        (try simp only [Act.put, List.setIfInBounds_toArray, List.set_cons_zero, List.set_cons_succ])
        refine any_append trKd (w0 := w) (W := w3.drew) base (i := 7) rfl (by kernel_rfl) (by rfl) _ _ 53 26 _ 64 rfl Try.underlying53 hinfo (by kernel_rfl) (by decide) (by decide) sl L x (tvv x.1 x.2).toList (fun k => c k = i) (fun _ => False) rfl rfl ⟨HX.out, rfl⟩ (fun _ hk => hk.elim) hfr hrow4 hbel4 hbase4 (by omega) (fun v1 w1 ho hb hg => ?_)
        have HX5 : w1.heap[w.heap.size]? = some (TR x.1 x.2) := (hg.block _ hbx1 hbx2).trans HX3.out
        have HV5 : w1.heap[g]? = some (.cells #[.int .i64 n, sl] 118 (0, 0)) := (hg.block _ (hp_lt HT3.out.var) hgo).trans HT3.out.var
        have hval := Kd.R_val ho
        refine ⟨HX5, ?_⟩
        (try simp only [Act.put, List.setIfInBounds_toArray, List.set_cons_zero, List.set_cons_succ])
        refine any_take (i := 8) (v := ?v59) rfl (by kernel_rfl) (by kernel_rfl) (by kernel_rfl) (fun _ _ _ h => h) HX5 (.inl ⟨by rfl, ?y59⟩) ?_
        case y59 => (intro w' h'; go_simp; with_reducible rfl)
        (try simp only [Act.put, List.setIfInBounds_toArray, List.set_cons_zero, List.set_cons_succ])
        refine any_take (i := 9) (v := ?v60) rfl (by kernel_rfl) (by kernel_rfl) (by kernel_rfl) (fun _ _ _ h => h) HX5 (.inl ⟨by rfl, ?y60⟩) ?_
        case y60 => (intro w' h'; go_simp; with_reducible rfl)
        (try simp only [Act.put, List.setIfInBounds_toArray, List.set_cons_zero, List.set_cons_succ])
        refine any_one (i := 10) rfl (by kernel_rfl) (by rfl) (wp_store1 53 _ _ rfl g 1 v1 sl rfl rfl (by kernel_rfl) (Array.ext' hval.1) hval.2 (by rw [cell_of_row _ _ _ _ _ _ HV5]; rfl) (frozen_of_row _ _ _ _ _ HV5) ⟨hp_cell (by show w.heap.size ≠ g; omega) HX5, ?_⟩)
        (try simp only [Act.put, List.setIfInBounds_toArray, List.set_cons_zero, List.set_cons_succ])
        refine wpAnyH_done (by kernel_rfl) ?_ _
        have hE := rput_end HT.out HB3.out hb hg ho HV5
        obtain ⟨A', cap', hv1, _⟩ := hE.1.len
        have c2 : (w1.setCell ⟨g, 1, none⟩ v1).cell? ⟨g, 1, none⟩ = some (.slice A' (L.length + 1) cap') := by
          rw [cell_of_row _ _ _ _ _ _ hE.1.var]
          rw [hv1, List.length_append, List.length_singleton]; rfl
        have HFIN := Lib.hid hE
        clear hb hg ho hval HX5 HV5 hE hv1
        go_wp2
        go_ret3
        exact ⟨by simp, ⟨_, _, rfl, HFIN.out.1⟩, HFIN.out.2⟩
      · refine wp_row1 _ rfl rfl HX.out.1 ⟨hp_old HX3.out, ?_⟩
        (try simp only [Act.put, List.setIfInBounds_toArray, List.set_cons_zero, List.set_cons_succ])
        refine any_one (i := 4) rfl (by kernel_rfl) (by rfl) (wp_load1 53 _ rfl ⟨g, 1, none⟩ rfl _ Try.underlying53 rfl (v := sl) (by rw [cell_of_row _ _ _ _ _ _ (hp_old (show w3.drew.heap[g]? = _ from HT3.out.var))]; rfl) ⟨hp_old HX3.out, ?_⟩)
        (try simp only [Act.put, List.setIfInBounds_toArray, List.set_cons_zero, List.set_cons_succ])
        refine any_append trKd (w0 := w) (W := w3.drew) base (i := 7) rfl (by kernel_rfl) (by rfl) _ _ 53 26 _ 64 rfl Try.underlying53 hinfo (by kernel_rfl) (by decide) (by decide) sl L x (tvv x.1 x.2).toList (fun k => c k = i) (fun _ => False) rfl rfl ⟨HX.out, rfl⟩ (fun _ hk => hk.elim) hfr hrow4 hbel4 hbase4 (by omega) (fun v1 w1 ho hb hg => ?_)
        have HX5 : w1.heap[w.heap.size]? = some (TR x.1 x.2) := (hg.block _ hbx1 hbx2).trans HX3.out
        have HV5 : w1.heap[g]? = some (.cells #[.int .i64 n, sl] 118 (0, 0)) := (hg.block _ (hp_lt HT3.out.var) hgo).trans HT3.out.var
        have hval := Kd.R_val ho
        refine ⟨HX5, ?_⟩
        (try simp only [Act.put, List.setIfInBounds_toArray, List.set_cons_zero, List.set_cons_succ])
        refine any_take (i := 8) (v := ?v67) rfl (by kernel_rfl) (by kernel_rfl) (by kernel_rfl) (fun _ _ _ h => h) HX5 (.inl ⟨by rfl, ?y67⟩) ?_
        case y67 => (intro w' h'; go_simp; with_reducible rfl)
        (try simp only [Act.put, List.setIfInBounds_toArray, List.set_cons_zero, List.set_cons_succ])
        refine any_take (i := 9) (v := ?v68) rfl (by kernel_rfl) (by kernel_rfl) (by kernel_rfl) (fun _ _ _ h => h) HX5 (.inl ⟨by rfl, ?y68⟩) ?_
        case y68 => (intro w' h'; go_simp; with_reducible rfl)
        (try simp only [Act.put, List.setIfInBounds_toArray, List.set_cons_zero, List.set_cons_succ])
        refine any_one (i := 10) rfl (by kernel_rfl) (by rfl) (wp_store1 53 _ _ rfl g 1 v1 sl rfl rfl (by kernel_rfl) (Array.ext' hval.1) hval.2 (by rw [cell_of_row _ _ _ _ _ _ HV5]; rfl) (frozen_of_row _ _ _ _ _ HV5) ⟨hp_cell (by show w.heap.size ≠ g; omega) HX5, ?_⟩)
        (try simp only [Act.put, List.setIfInBounds_toArray, List.set_cons_zero, List.set_cons_succ])
        refine wpAnyH_done (by kernel_rfl) ?_ _
        have hE := rput_end HT.out HB3.out hb hg ho HV5
        obtain ⟨A', cap', hv1, _⟩ := hE.1.len
        have c2 : (w1.setCell ⟨g, 1, none⟩ v1).cell? ⟨g, 1, none⟩ = some (.slice A' (L.length + 1) cap') := by
          rw [cell_of_row _ _ _ _ _ _ hE.1.var]
          rw [hv1, List.length_append, List.length_singleton]; rfl
        have HFIN := Lib.hid hE
        clear hb hg ho hval HX5 HV5 hE hv1
        go_wp2
        go_ret3
        exact ⟨by simp, ⟨_, _, rfl, HFIN.out.1⟩, HFIN.out.2⟩
end Go.Proofs.Ytpebnldoimoahaa
