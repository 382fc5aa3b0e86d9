/- The walks of a table that is nil or that nobody made, and of the statements' asks at one. -/
import Derived.Test.YtpebnldoimoahaaKd
import Derived.Test.YtpebnldoimoahaaHp
namespace Go.Proofs.Ytpebnldoimoahaa
open Go.RowKit Go.Proofs.YtpebnldoimoahaaW.PrintWords
set_option linter.unusedSimpArgs false
/-- No table, or one that nobody made. -/
def Dead (w : World) (x : Value) : Prop := x = .pointer none ∨ ∃ g, x = .pointer (some ⟨g, 0, none⟩) ∧ w.heap[g]? = some (.cells #[.int .i64 0, .map none, .slice none 0 0] 55 (0, 0))
theorem Dead.below {w w' : World} {x : Value} (h : Dead w x) (hb : Below w.heap.size w w') : Dead w' x := by
  rcases h with h | ⟨g, h, hg⟩
  · exact .inl h
  · exact .inr ⟨g, h, hp_below' hb hg⟩
set_option maxRecDepth 100000 in
theorem good_dead (x : Value) (w : World) (h : Dead w x) : Calls Try.prog 67 #[x] w fun e w' => e = .returned (.bool false) ∧ w = w' := by
  rcases h with rfl | ⟨g, rfl, hg⟩
  · go_enter Try.func67, Try.ntmps67
    go_wp2
    go_ret
    exact ⟨rfl, rfl⟩
  · have c1 : w.cell? ⟨g, 1, none⟩ = some (.map none) := by rw [cell_of_row _ _ _ _ _ _ hg]; rfl
    have hm : ∀ W : World, (binOp .neq 52 (.map none) (.map none)).run Try.prog W = .ok (.bool false) W := fun W => run_neq_map_nil W _ _ _ none Try.underlying52
    clear hg
    go_enter Try.func67, Try.ntmps67
    go_wp2
    go_ret
    exact ⟨rfl, rfl⟩
theorem put_dead (x : Value) (n : Int) (ws : List Nat) (w : World) (h : Dead w x) :
    Calls Try.prog 61 #[x, .agg (tvv n ws)] w fun e w' => e = .returned (.tuple #[.int .i64 0, .bool false, .int .i64 1]) ∧ Below w.heap.size w w' := by
  have HD := Lib.hid (h.below (bl_alloc (Below.refl w.heap.size w) (.cells (tvv n ws) 26)))
  clear h
  go_enter Try.func61, Try.ntmps61
  go_wp2_with fail
  refine (good_dead x _ HD.out).mono ?_
  rintro e w' ⟨rfl, rfl⟩
  go_wp2
  go_ret3
  exact ⟨rfl, bl_alloc (Below.refl _ _) _⟩
theorem find_dead (x : Value) (n : Int) (ws : List Nat) (w : World) (h : Dead w x) :
    Calls Try.prog 63 #[x, .agg (tvv n ws)] w fun e w' => e = .returned (.tuple #[.int .i64 0, .bool false]) ∧ Below w.heap.size w w' := by
  have HD := Lib.hid (h.below (bl_alloc (Below.refl w.heap.size w) (.cells (tvv n ws) 26)))
  clear h
  go_enter Try.func63, Try.ntmps63
  go_wp2_with fail
  refine (good_dead x _ HD.out).mono ?_
  rintro e w' ⟨rfl, rfl⟩
  go_wp2
  go_ret2
  exact ⟨rfl, bl_alloc (Below.refl _ _) _⟩
theorem len_dead (x : Value) (w : World) (h : Dead w x) : Calls Try.prog 31 #[x] w fun e w' => e = .returned (.int .i64 0) ∧ w = w' := by
  have HD := Lib.hid h
  clear h
  go_enter Try.func31, Try.ntmps31
  go_wp2_with fail
  refine (good_dead x _ HD.out).mono ?_
  rintro e w' ⟨rfl, rfl⟩
  go_wp2
  go_ret
  exact ⟨rfl, rfl⟩
/-- The words of no transformation. -/
def zq : List Nat := List.replicate 7 0
theorem zq_len : zq.length = 7 := rfl
theorem zq_zeros : tvv 0 zq = #[.int .i64 0, .int .u64 0, .int .u64 0, .int .u64 0, .int .u64 0, .int .u64 0, .int .u64 0, .int .u64 0] := tvv_zeros 0
set_option maxRecDepth 100000 in
theorem at_dead (x : Value) (i : Int) (w : World) (h : Dead w x) :
    Calls Try.prog 65 #[x, .int .i64 i] w fun e w' => e = .returned (.tuple #[.agg (tvv 0 zq), .bool false]) ∧ Below w.heap.size w w' := by
  have HD := Lib.hid (h.below (bl_alloc (Below.refl w.heap.size w) (.cells (tvv 0 zq) 26)))
  have HZ := Lib.hid (zq_zeros)
  rw [zq_zeros] at HD
  clear h
  go_enter Try.func65, Try.ntmps65
  go_wp2_with fail
  refine (good_dead x _ HD.out).mono ?_
  rintro e w' ⟨rfl, rfl⟩
  go_wp2_with (refine st2 _ _ rfl rfl rfl rfl zq_len rfl ?_)
  refine bodyPost_ret (v := .tuple #[.agg (tvv 0 zq), .bool false]) ?_ rfl ⟨rfl, bl_alloc (Below.refl _ _) _⟩
  refine (results_cell_tmp (p := 4) (t := 5) (by rfl) _ _ w.heap.size 26 (tvv 0 zq) (0, 0) _ ?_ (by rw [HZ.out]; exact hp_new rfl) Try.underlying26 rfl (tr_z _ _ (by rfl))).trans ?_ <;> rfl
theorem rput_nil (n : Int) (ws : List Nat) (w : World) :
    Calls Try.prog 62 #[.pointer none, .agg (tvv n ws)] w fun e w' => e = .returned (.tuple #[.int .i64 0, .bool false, .int .i64 1]) ∧ Below w.heap.size w w' := by
  go_enter Try.func62, Try.ntmps62
  go_wp2
  go_ret3
  exact ⟨rfl, bl_alloc (Below.refl _ _) _⟩
theorem rfind_nil (n : Int) (ws : List Nat) (w : World) :
    Calls Try.prog 64 #[.pointer none, .agg (tvv n ws)] w fun e w' => e = .returned (.tuple #[.int .i64 0, .bool false]) ∧ Below w.heap.size w w' := by
  go_enter Try.func64, Try.ntmps64
  go_wp2
  go_ret2
  exact ⟨rfl, bl_alloc (Below.refl _ _) _⟩
theorem rlen_nil (w : World) : Calls Try.prog 34 #[.pointer none] w fun e w' => e = .returned (.int .i64 0) ∧ w = w' := by
  go_enter Try.func34, Try.ntmps34
  go_wp2
  go_ret
  exact ⟨rfl, rfl⟩
set_option maxRecDepth 100000 in
theorem rat_nil (i : Int) (w : World) :
    Calls Try.prog 66 #[.pointer none, .int .i64 i] w fun e w' => e = .returned (.tuple #[.agg (tvv 0 zq), .bool false]) ∧ Below w.heap.size w w' := by
  have HZ := Lib.hid (zq_zeros)
  go_enter Try.func66, Try.ntmps66
  go_wp2_with (refine st2 _ _ rfl rfl rfl rfl zq_len rfl ?_)
  refine bodyPost_ret (v := .tuple #[.agg (tvv 0 zq), .bool false]) ?_ rfl ⟨rfl, bl_alloc (Below.refl _ _) _⟩
  refine (results_cell_tmp (p := 4) (t := 5) (by rfl) _ _ w.heap.size 26 (tvv 0 zq) (0, 0) _ ?_ (by rw [HZ.out]; exact hp_new rfl) Try.underlying26 rfl (tr_z _ _ (by rfl))).trans ?_ <;> rfl
set_option maxRecDepth 100000 in
/-- asks at a dead table and no table of the reference's. -/
theorem asks_dead (x : Value) (o : OpV) (w : World) (h : Dead w x) (ho : o.ok) :
    Calls Try.prog 30 #[x, .pointer none, .agg o.cells.toArray] w fun e w' => e = .returned (.bool true) ∧ Below w.heap.size w w' := by
  have HD := Lib.hid (h.below (bl_alloc (Below.refl w.heap.size w) (OB o)))
  have HL := Lib.hid ho.1.1
  clear h ho
  have HO := Lib.hid (hp_new (w := w) (o := OB o) rfl)
  have c0 := OB_0 HO.out
  have H0 := Lib.hid (bl_alloc (Below.refl w.heap.size w) (OB o))
  have HD0 := HD; have HO0 := HO
  clear HD HO
  by_cases h1 : o.k = 1
  · have hk1 : (o.k == 1) = true := by simpa using h1
    clear h1
    go_enter Try.func30, Try.ntmps30
    go_wp2_with (refine ld3 _ rfl rfl _ rfl HL.out (OB_t HO0.out) ?_)
    refine (put_dead x o.n o.ws _ HD0.out).mono ?_
    rintro e w1 ⟨rfl, hb⟩
    have HD1 := Lib.hid (HD0.out.below hb); have HO1 := Lib.hid (hp_below' hb HO0.out); have H1 := Lib.hid (bl_then H0.out hb)
    clear hb HD0 HO0 H0 c0
    go_wp2_with (refine ld3 _ rfl rfl _ rfl HL.out (OB_t HO1.out) ?_)
    refine (rput_nil o.n o.ws _).mono ?_
    rintro e w2 ⟨rfl, hb⟩
    have HD2 := Lib.hid (HD1.out.below hb); have HO2 := Lib.hid (hp_below' hb HO1.out); have H2 := Lib.hid (bl_then H1.out hb)
    clear hb HD1 HO1 H1
    go_wp2_with fail
    refine (num_any 1 _).mono ?_
    rintro e w' ⟨rfl, rfl⟩
    go_wp2
    go_ret
    exact ⟨rfl, H2.out⟩
  · have hk1 : (o.k == 1) = false := by simpa using h1
    clear h1
    by_cases h2 : o.k = 2
    · have hk2 : (o.k == 2) = true := by simpa using h2
      clear h2
      go_enter Try.func30, Try.ntmps30
      go_wp2_with (refine ld3 _ rfl rfl _ rfl HL.out (OB_t HO0.out) ?_)
      refine (find_dead x o.n o.ws _ HD0.out).mono ?_
      rintro e w1 ⟨rfl, hb⟩
      have HD1 := Lib.hid (HD0.out.below hb); have HO1 := Lib.hid (hp_below' hb HO0.out); have H1 := Lib.hid (bl_then H0.out hb)
      clear hb HD0 HO0 H0 c0
      go_wp2_with (refine ld3 _ rfl rfl _ rfl HL.out (OB_t HO1.out) ?_)
      refine (rfind_nil o.n o.ws _).mono ?_
      rintro e w2 ⟨rfl, hb⟩
      have HD2 := Lib.hid (HD1.out.below hb); have HO2 := Lib.hid (hp_below' hb HO1.out); have H2 := Lib.hid (bl_then H1.out hb)
      clear hb HD1 HO1 H1
      go_wp2
      go_ret
      exact ⟨rfl, H2.out⟩
    · have hk2 : (o.k == 2) = false := by simpa using h2
      clear h2
      by_cases h3 : o.k = 3
      · have hk3 : (o.k == 3) = true := by simpa using h3
        clear h3
        have c9 := OB_9 HO0.out HL.out
        go_enter Try.func30, Try.ntmps30
        go_wp2_with fail
        refine (at_dead x o.m _ HD0.out).mono ?_
        rintro e w1 ⟨rfl, hb⟩
        have HD1 := Lib.hid (HD0.out.below hb); have HO1 := Lib.hid (hp_below' hb HO0.out); have H1 := Lib.hid (bl_then H0.out hb)
        clear hb HD0 HO0 H0 c0 c9
        have HT1 := Lib.hid (show (w1.alloc (TR 0 zq)).heap[w1.heap.size]? = some (TR 0 zq) from hp_new rfl)
        have c9 : (w1.alloc (TR 0 zq)).cell? ⟨w.heap.size, 9, none⟩ = some (.int .i64 o.m) := OB_9 (hp_old HO1.out) HL.out
        go_wp2_with (refine st2 _ _ rfl rfl rfl rfl zq_len rfl ?_)
        refine (rat_nil o.m _).mono ?_
        rintro e w2 ⟨rfl, hb⟩
        have HT2 := Lib.hid (hp_below' hb HT1.out); have H2 := Lib.hid (bl_then (bl_alloc H1.out _) hb)
        clear hb HT1 H1 c9 HO1 HD1
        go_wp2_with (first | (refine st2 _ _ rfl rfl rfl rfl zq_len rfl ?_) | (refine ld2 _ rfl w2.heap.size rfl zq_len (hp_new rfl) rfl ?_) | (refine ld2 _ rfl w1.heap.size rfl zq_len (hp_old HT2.out) rfl ?_) | (refine eq2 _ _ _ rfl true (sameT_dec _ _) rfl rfl zq_len zq_len rfl ?_))
        go_ret
        exact ⟨rfl, bl_alloc H2.out _⟩
      · have hk3 : (o.k == 3) = false := by simpa using h3
        clear h3
        go_enter Try.func30, Try.ntmps30
        go_wp2_with fail
        refine (len_dead x _ HD0.out).mono ?_
        rintro e w' ⟨rfl, rfl⟩
        go_wp2_with fail
        refine (rlen_nil _).mono ?_
        rintro e w' ⟨rfl, rfl⟩
        go_wp2
        go_ret
        exact ⟨rfl, H0.out⟩
end Go.Proofs.Ytpebnldoimoahaa
