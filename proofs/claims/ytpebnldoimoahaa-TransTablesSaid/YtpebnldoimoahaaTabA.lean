/- The walks of the program's table: good, Len, Find, At. -/
import Derived.Test.YtpebnldoimoahaaTab
namespace Go.Proofs.Ytpebnldoimoahaa
open Go.RowKit Go.Proofs.YtpebnldoimoahaaW.PrintWords
set_option linter.unusedSimpArgs false
set_option linter.unusedVariables false
set_option maxRecDepth 100000
variable {w : World} {base : Nat} {c : Nat → Nat} {i g b : Nat} {sl : Value} {n : Int} {L : List (Int × List Nat)}
theorem good_alive (h : PTabAt w base c i g b sl n L) : Calls Try.prog 67 #[.pointer (some ⟨g, 0, none⟩)] w fun e w' => e = .returned (.bool true) ∧ w = w' := by
  have c1 : w.cell? ⟨g, 1, none⟩ = some (.map (some b)) := by rw [cell_of_row _ _ _ _ _ _ h.var]; rfl
  have hm : ∀ W : World, (binOp .neq 52 (.map (some b)) (.map none)).run Try.prog W = .ok (.bool true) W := fun W => run_neq_map_nil W _ _ _ (some b) Try.underlying52
  clear h
  go_enter Try.func67, Try.ntmps67
  go_wp2
  go_ret
  exact ⟨rfl, rfl⟩
theorem len_alive (h : PTabAt w base c i g b sl n L) : Calls Try.prog 31 #[.pointer (some ⟨g, 0, none⟩)] w fun e w' => e = .returned (.int .i64 L.length) ∧ w = w' := by
  obtain ⟨A, cap, rfl, _⟩ := h.len
  have c2 : w.cell? ⟨g, 2, none⟩ = some (.slice A L.length cap) := by rw [cell_of_row _ _ _ _ _ _ h.var]; rfl
  have H := Lib.hid h
  clear h
  go_enter Try.func31, Try.ntmps31
  go_wp2_with fail
  refine (good_alive H.out).mono ?_
  rintro e w' ⟨rfl, rfl⟩
  go_wp2
  go_ret
  exact ⟨rfl, rfl⟩
theorem find_alive (h : PTabAt w base c i g b sl n L) (hL : LOk n L) (x : Int × List Nat) (hx : okT x) :
    Calls Try.prog 63 #[.pointer (some ⟨g, 0, none⟩), .agg (tvv x.1 x.2)] w fun e w' => e = .returned (.tuple #[.int .i64 ((fndN L x : Nat) : Int), .bool (decide (x ∈ L))]) ∧ Below w.heap.size w w' := by
  have H := Lib.hid (h.below (bl_alloc (Below.refl w.heap.size w) (TR x.1 x.2)))
  have HLK := Lib.hid (look_run hL hx (w := (w.alloc (TR x.1 x.2)).drew) H.out.map)
  have HX := Lib.hid hx
  have hlt := hp_lt h.var
  clear h hL hx
  generalize fndN L x = f at *
  generalize decide (x ∈ L) = d at *
  go_enter Try.func63, Try.ntmps63
  go_wp2_with fail
  refine (good_alive H.out).mono ?_
  rintro e w' ⟨rfl, rfl⟩
  go_wp2
  refine wp_region_held_drew (S := fun w' => w' = (w.alloc (TR x.1 x.2)).drew) (by kernel_rfl) rfl (fun hS => ?_)
  have e0 : (w.alloc (TR x.1 x.2)).drew.heap[g]? = some (.cells #[.int .i64 n, .map (some b), sl] 55 (0, 0)) := H.out.var
  have e1 : (w.alloc (TR x.1 x.2)).drew.heap[w.heap.size]? = some (TR x.1 x.2) := hp_new rfl
  refine any_take (i := 0) (v := ?v2) rfl (by kernel_rfl) (by kernel_rfl) (by kernel_rfl) (fun _ _ _ h => h) hS (.inl ⟨by rfl, ?y2⟩) ?_
  case y2 => (intro w' h'; go_simp; with_reducible rfl)
  (try simp only [Act.put, List.setIfInBounds_toArray, List.set_cons_zero, List.set_cons_succ])
  refine any_take (i := 1) (v := ?v3) rfl (by kernel_rfl) (by kernel_rfl) (by kernel_rfl) (fun _ _ _ h => h) hS (.inl ⟨by rfl, ?y3⟩) ?_
  case y3 => (intro w' h'; go_simp; with_reducible rfl)
  (try simp only [Act.put, List.setIfInBounds_toArray, List.set_cons_zero, List.set_cons_succ])
  refine any_take (i := 2) (v := ?v4) rfl (by kernel_rfl) (by kernel_rfl) (by kernel_rfl) (fun _ _ _ h => h) hS (.inl ⟨by rfl, ?y4⟩) ?_
  case y4 => (intro w' h'; go_simp; with_reducible rfl)
  (try simp only [Act.put, List.setIfInBounds_toArray, List.set_cons_zero, List.set_cons_succ])
  refine any_take (i := 3) (v := .map (some b)) rfl (by kernel_rfl) (by kernel_rfl) (by kernel_rfl) (fun _ _ _ h => h) hS (yi_cell _ _ rfl (by rfl) ⟨g, 1, none⟩ rfl _ Try.underlying52 rfl (fun w' h' => (by rw [h', cell_of_row _ _ _ _ _ _ e0]; rfl))) ?_
  (try simp only [Act.put, List.setIfInBounds_toArray, List.set_cons_zero, List.set_cons_succ])
  refine any_take (i := 4) rfl (by kernel_rfl) (by kernel_rfl) (by kernel_rfl) (fun _ _ _ h => h) hS (yi_row _ _ rfl (by rfl) (w.heap.size) rfl ((tvv x.1 x.2)) _ Try.underlying26 rfl ((tr_z _ _ HX.out.1)) (fun w' h' => ⟨_, _, ((congrArg (fun W : World => W.heap[w.heap.size]?) h').trans e1)⟩)) ?_
  (try simp only [Act.put, List.setIfInBounds_toArray, List.set_cons_zero, List.set_cons_succ])
  refine any_take (i := 5) (v := .tuple #[.int .i64 ((f : Nat) : Int), .bool d]) rfl (by kernel_rfl) (by kernel_rfl) (by kernel_rfl) (fun _ _ _ h => h) hS (yi_look _ _ _ _ rfl (by rfl) (fun w' h' => (by rw [h']; exact HLK.out))) ?_
  (try simp only [Act.put, List.setIfInBounds_toArray, List.set_cons_zero, List.set_cons_succ])
  refine any_take (i := 6) (v := ?v9) rfl (by kernel_rfl) (by kernel_rfl) (by kernel_rfl) (fun _ _ _ h => h) hS (.inl ⟨by rfl, ?y9⟩) ?_
  case y9 => (intro w' h'; go_simp; with_reducible rfl)
  (try simp only [Act.put, List.setIfInBounds_toArray, List.set_cons_zero, List.set_cons_succ])
  refine any_take (i := 7) (v := ?v10) rfl (by kernel_rfl) (by kernel_rfl) (by kernel_rfl) (fun _ _ _ h => h) hS (.inl ⟨by rfl, ?y10⟩) ?_
  case y10 => (intro w' h'; go_simp; with_reducible rfl)
  (try simp only [Act.put, List.setIfInBounds_toArray, List.set_cons_zero, List.set_cons_succ])
  refine any_take (i := 8) (v := ?v11) rfl (by kernel_rfl) (by kernel_rfl) (by kernel_rfl) (fun _ _ _ h => h) hS (.inl ⟨by rfl, ?y11⟩) ?_
  case y11 => (intro w' h'; go_simp; with_reducible rfl)
  (try simp only [Act.put, List.setIfInBounds_toArray, List.set_cons_zero, List.set_cons_succ])
  refine any_take (i := 9) (v := ?v12) rfl (by kernel_rfl) (by kernel_rfl) (by kernel_rfl) (fun _ _ _ h => h) hS (.inl ⟨by rfl, ?y12⟩) ?_
  case y12 => (intro w' h'; go_simp; with_reducible rfl)
  (try simp only [Act.put, List.setIfInBounds_toArray, List.set_cons_zero, List.set_cons_succ])
  refine any_take (i := 10) (v := ?v13) rfl (by kernel_rfl) (by kernel_rfl) (by kernel_rfl) (fun _ _ _ h => h) hS (.inl ⟨by rfl, ?y13⟩) ?_
  case y13 => (intro w' h'; go_simp; with_reducible rfl)
  (try simp only [Act.put, List.setIfInBounds_toArray, List.set_cons_zero, List.set_cons_succ])
  refine wpAnyH_done (by kernel_rfl) ?_ _
  clear hS e0 e1
  go_wp2
  go_ret2
  exact ⟨rfl, (bl_alloc (Below.refl _ _) _).drew⟩
/-- At. -/
theorem at_alive (h : PTabAt w base c i g b sl n L) (hL : LOk n L) (j : Int) :
    Calls Try.prog 65 #[.pointer (some ⟨g, 0, none⟩), .int .i64 j] w fun e w' => e = .returned (.tuple #[.agg (if 0 ≤ j ∧ j < L.length then tvv (L.getD j.toNat (0, zq)).1 (L.getD j.toNat (0, zq)).2 else tvv 0 zq), .bool (decide (0 ≤ j ∧ j < L.length))]) ∧ Below w.heap.size w w' := by
  obtain ⟨A, cap, rfl, hC⟩ := h.len
  have H := Lib.hid (h.below (bl_alloc (Below.refl w.heap.size w) (.cells (tvv 0 zq) 26 (0, 0))))
  have HC := Lib.hid (Kd.C_below hC (bl_alloc (Below.refl w.heap.size w) (.cells (tvv 0 zq) 26 (0, 0))))
  have HL := Lib.hid hL
  have hmx := hL.max
  have HZ := Lib.hid zq_zeros
  have hlt := hp_lt h.var
  clear h hC hL
  by_cases hj : 0 ≤ j ∧ j < L.length
  · rw [if_pos hj, decide_eq_true hj]
    obtain ⟨hj0, hj1⟩ := hj
    obtain ⟨k, rfl⟩ := Int.eq_ofNat_of_zero_le hj0
    have hk : k < L.length := by omega
    obtain ⟨ad, cs, rfl, hcl, ⟨hok, rfl⟩, hcell⟩ := Kd.C_get HC.out (0, zq) k (by omega) (by omega)
    rw [Int.toNat_natCast] at hok hcell hcl
    have c2 : (w.alloc (.cells (tvv 0 zq) 26 (0, 0))).cell? ⟨g, 2, none⟩ = some (.slice (some ad) L.length cap) := by rw [cell_of_row _ _ _ _ _ _ H.out.var]; rfl
    rw [Int.toNat_natCast]
    generalize L.getD k (0, zq) = y at *
    have HE := Lib.hid hcell
    have HOK := Lib.hid hok
    have hd1 : decide ((k : Int) < 0) = false := by simp
    have hd2 : decide ((L.length : Int) ≤ (k : Int)) = false := by simpa using hk
    have hd3 : decide (L.length ≤ k) = false := by simpa using hk
    clear hcell hok hcl
    go_enter Try.func65, Try.ntmps65
    rw [zq_zeros] at H HE HC c2
    go_wp2_with fail
    refine (good_alive H.out).mono ?_
    rintro e w' ⟨rfl, rfl⟩
    go_wp2_with (first | (refine ld3 _ rfl rfl (ad.add (k * 8)) rfl HOK.out.1 (fun j v hv => by rw [Go.Deep.add_add]; exact HE.out j v hv) ?_) | (refine st2 _ _ rfl rfl rfl rfl HOK.out.1 rfl ?_))
    refine bodyPost_ret (v := .tuple #[.agg (tvv y.1 y.2), .bool true]) ?_ rfl ⟨rfl, bl_alloc (Below.refl _ _) _⟩
    refine (results_cell_tmp (p := 4) (t := 5) (by rfl) _ _ w.heap.size 26 (tvv y.1 y.2) (0, 0) _ ?_ (hp_new rfl) Try.underlying26 rfl (tr_z _ _ HOK.out.1)).trans ?_ <;> rfl
  · rw [if_neg hj, decide_eq_false hj]
    have c2 : (w.alloc (.cells (tvv 0 zq) 26 (0, 0))).cell? ⟨g, 2, none⟩ = some (.slice A L.length cap) := by rw [cell_of_row _ _ _ _ _ _ H.out.var]; rfl
    by_cases h0 : j < 0
    · have hd1 : decide (j < 0) = true := by simpa using h0
      go_enter Try.func65, Try.ntmps65
      rw [zq_zeros] at H c2
      go_wp2_with fail
      refine (good_alive H.out).mono ?_
      rintro e w' ⟨rfl, rfl⟩
      go_wp2_with (refine st2 _ _ rfl rfl rfl rfl zq_len rfl ?_)
      refine bodyPost_ret (v := .tuple #[.agg (tvv 0 zq), .bool false]) ?_ rfl ⟨rfl, bl_alloc (Below.refl _ _) _⟩
      refine (results_cell_tmp (p := 4) (t := 5) (by rfl) _ _ w.heap.size 26 (tvv 0 zq) (0, 0) _ ?_ (by rw [HZ.out]; exact hp_new rfl) Try.underlying26 rfl (tr_z _ _ zq_len)).trans ?_ <;> rfl
    · have hd1 : decide (j < 0) = false := by simpa using h0
      have hd2 : decide ((L.length : Int) ≤ j) = true := by simp; omega
      go_enter Try.func65, Try.ntmps65
      rw [zq_zeros] at H c2
      go_wp2_with fail
      refine (good_alive H.out).mono ?_
      rintro e w' ⟨rfl, rfl⟩
      go_wp2_with (refine st2 _ _ rfl rfl rfl rfl zq_len rfl ?_)
      refine bodyPost_ret (v := .tuple #[.agg (tvv 0 zq), .bool false]) ?_ rfl ⟨rfl, bl_alloc (Below.refl _ _) _⟩
      refine (results_cell_tmp (p := 4) (t := 5) (by rfl) _ _ w.heap.size 26 (tvv 0 zq) (0, 0) _ ?_ (by rw [HZ.out]; exact hp_new rfl) Try.underlying26 rfl (tr_z _ _ zq_len)).trans ?_ <;> rfl
end Go.Proofs.Ytpebnldoimoahaa
