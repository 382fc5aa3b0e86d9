/- Sets of numbers below 64, in the first of eight words; bits.Of. -/
import Derived.Test.YtpebnldoimoahaaHp
namespace Go.Proofs.Ytpebnldoimoahaa
open Go.RowKit Go.Proofs.YtpebnldoimoahaaW.PrintWords
def sv (x : Nat) : Array Value := #[.int .u64 (x : Int), .int .u64 0, .int .u64 0, .int .u64 0, .int .u64 0, .int .u64 0, .int .u64 0, .int .u64 0]
theorem sv_z (x : Nat) : (Try.prog.info? 69).map (·.size) = some (sv x).size := by kernel_rfl
theorem sv_one (x : Nat) : (sv x).all (·.oneCell') = true := by simp [sv, Value.oneCell']
theorem sv_zero : sv 0 = #[.int .u64 0, .int .u64 0, .int .u64 0, .int .u64 0, .int .u64 0, .int .u64 0, .int .u64 0, .int .u64 0] := rfl
theorem sv_at (x : Nat) : (sv x)[0]? = some (.int .u64 x) := by simp [sv]
theorem sv_set (x y : Nat) : (sv x).setIfInBounds 0 (.int .u64 (y : Int)) = sv y := by simp [sv]
section
variable {ops : Array Oper} {rest : List Oper} {o : Oper} {a : Act} {w : World} {Q : Exit → Act → World → Prop}
theorem ld_sv (x : Operand) (ho : o.op = .load 69 x) (g : Nat) (hx : a.eval x = .pointer (some ⟨g, 0, none⟩)) {n : Nat} {t : TypeId} {fr : Nat × Nat} (hg : w.heap[g]? = some (.cells (sv n) t fr)) (hw : Region.wanted o (yielded ops a.tmps) = true)
    (h : wpList Try.prog ops Q rest (a.put o.dst (.agg (sv n))) w) : wpList Try.prog ops Q (o :: rest) a w :=
  wpList_want hw fun _ hK => wp_load_row 69 x ho g hx t _ fr _ hg Try.underlying69 rfl (sv_z n) (hK _ _ h)
theorem st_sv (x y : Operand) (ho : o.op = .store 69 x y) (hgd : o.guard = none) (g : Nat) {n : Nat} {c : Array Value} {t : TypeId}
    (hx : a.eval x = .pointer (some ⟨g, 0, none⟩)) (hy : a.eval y = .agg (sv n)) (hg : w.heap[g]? = some (.cells c t (0, 0))) (hc : c.size = 8) (h : wpList Try.prog ops Q rest (a.put o.dst undef) (w.setRow g (sv n))) : wpList Try.prog ops Q (o :: rest) a w :=
  wpList_store_row hgd 69 x y ho g _ hx hy t c hg (sv_z n) hc (sv_one _) h
theorem st_sv_new (x y : Operand) (ho : o.op = .store 69 x y) (hgd : o.guard = none) {n : Nat} {c : Array Value} {t : TypeId}
    (hx : a.eval x = .pointer (some ⟨w.heap.size, 0, none⟩)) (hy : a.eval y = .agg (sv n)) (hc : c.size = 8) (h : wpList Try.prog ops Q rest (a.put o.dst undef) (w.alloc (.cells (sv n) t))) : wpList Try.prog ops Q (o :: rest) a (w.alloc (.cells c t)) :=
  st_sv x y ho hgd w.heap.size hx hy (hp_new rfl) hc (by rw [World.setRow_alloc_new]; exact h)
end
/-- The word of a list. -/
def bo (l : List Nat) : Nat := l.foldl (fun x i => x ||| 2 ^ i) 0
theorem bo_snoc (l : List Nat) (i : Nat) : bo (l ++ [i]) = bo l ||| 2 ^ i := by simp [bo, List.foldl_append]
theorem bo_lt : ∀ (l : List Nat), (∀ i ∈ l, i < 64) → bo l < 18446744073709551616 := by
  intro l
  have key : ∀ (l : List Nat) (x : Nat), x < 2 ^ 64 → (∀ i ∈ l, i < 64) → l.foldl (fun x i => x ||| 2 ^ i) x < 2 ^ 64 := by
    intro l
    induction l with
    | nil => intro x hx _; exact hx
    | cons i l ih =>
      intro x hx h
      exact ih _ (Nat.or_lt_two_pow hx (Nat.pow_lt_pow_right (by decide) (h i (by simp)))) (fun j hj => h j (List.mem_cons_of_mem _ hj))
  exact key l 0 (by decide)
theorem or_bit (x i : Nat) (hx : x < 18446744073709551616) (hi : i < 64) : bits .or .u64 (x : Int) (IntKind.u64.wrap (2 ^ i)) = ((x ||| 2 ^ i : Nat) : Int) := by
  have h1 : (2 : Nat) ^ i < 2 ^ 64 := Nat.pow_lt_pow_right (by decide) hi
  have e : (2 : Int) ^ i = ((2 ^ i : Nat) : Int) := by push_cast; rfl
  have h2 : (2 : Nat) ^ 64 = 18446744073709551616 := by decide
  have h3 := Nat.pow_pos (n := i) (show 0 < 2 by decide)
  rw [e, IntWalk.u64_in _ ⟨by omega, by omega⟩, bits_or_u64_nat _ _ hx (by omega)]
theorem take_snoc {l : List Nat} {k : Nat} (h : k < l.length) : l.take (k + 1) = l.take k ++ [l.getD k 0] := by
  rw [List.take_succ_eq_append_getElem h]; simp [List.getD_eq_getElem?_getD, List.getElem?_eq_getElem h]
/-- The loop's state: the set so far. -/
def Sw (w wr : World) (x : Nat) : Prop := wr.heap[w.heap.size + 1]? = some (.cells (sv x) 69 (0, 0)) ∧ (∃ c, wr.heap[w.heap.size]? = some (.cells c 69 (0, 0)) ∧ c.size = 8) ∧ Below w.heap.size w wr
theorem fits_any (x : Nat) (hx : x < 64) (w : World) : Calls Try.prog 84 #[.int .i64 x] w fun e w' => e = .returned (.bool true) ∧ w = w' := by
  go_enter Try.func84, Try.ntmps84
  go_wp2
  go_ret
  exact ⟨by simp; omega, rfl⟩
set_option maxRecDepth 100000 in
set_option maxHeartbeats 800000 in
theorem of_any (A : Option Addr) (c : Nat) (l : List Nat) (n : Nat) (hn : l.length = n) (hlt : ∀ i, l.getD i 0 < 64) (hmax : n ≤ 1000000) (w : World) (hr : Kd.C (Kd.int .i64) w A n (zl l)) :
    Calls Try.prog 78 #[.slice A n c] w fun e w' => e = .returned (.tuple #[.agg (sv (bo l)), .int .i64 0]) ∧ Below w.heap.size w w' := by
  have HR := Aside0.mk hr
  have HN := Lib.hid hn
  have HI := Lib.hid hlt
  clear hr hn hlt
  go_enter Try.func78, Try.ntmps78
  go_wp2
  go_loopw [9] (fun i wr => ∃ k : Nat, k ≤ n ∧ i = .int .i64 k ∧ Hid (Sw w wr (bo (l.take k)))) (fun i _ => n - (intOf i).toNat)
  case atStart =>
    exact ⟨0, by omega, rfl, Lib.hid ⟨hp_new (by simp), ⟨_, hp_old (hp_new rfl), rfl⟩, bl_alloc (bl_alloc (Below.refl _ _) _) _⟩⟩
  case round =>
    obtain ⟨k, hk, rfl, H⟩ := hrel
    obtain ⟨g1, ⟨cc, g2, g2'⟩, g3⟩ := H.out
    have G1 := Lib.hid g1; have G2 := Lib.hid g2; have G2' := Lib.hid g2'; have G3 := Lib.hid g3
    clear g1 g2 g2' g3 H
    by_cases hkn : k < n
    · obtain ⟨ad, rfl, hcell⟩ := Kd.at_int (Kd.C_below HR.out G3.out) k (by omega) (by omega)
      rw [Int.toNat_natCast, zl_rd] at hcell
      have HK := Lib.hid (show bo (l.take (k + 1)) = bo (l.take k) ||| 2 ^ (l.getD k 0) by rw [take_snoc (by rw [HN.out]; exact hkn), bo_snoc])
      have HX := Lib.hid (bo_lt (l.take k) (fun i hi => by
        obtain ⟨j, hj, rfl⟩ := List.mem_iff_getElem.1 (List.mem_of_mem_take hi)
        have := HI.out j
        simpa [List.getD_eq_getElem?_getD, List.getElem?_eq_getElem hj] using this))
      have hy := HI.out k
      generalize l.getD k 0 = y at *
      generalize bo (l.take k) = x at *
      have c1 : wr.cell? ⟨w.heap.size + 1, 0, none⟩ = some (.int .u64 x) := by rw [cell_of_row _ _ _ _ _ _ G1.out, sv_at]
      have f1 : wr.frozen? ⟨w.heap.size + 1, 0, none⟩ = false := frozen_of_row _ _ _ _ _ G1.out
      have e1 : (y : Int).tdiv 64 = 0 := by rw [Int.tdiv_eq_ediv_of_nonneg (by omega)]; omega
      have e2 : (y : Int).tmod 64 = y := by rw [Int.tmod_eq_emod_of_nonneg (by omega)]; omega
      have e3 : (y : Int) / 64 = 0 := by omega
      have e4 : (y : Int) % 64 = y := by omega
      have H2 : Hid (Sw w (wr.setCell ⟨w.heap.size + 1, 0, none⟩ (.int .u64 (bits .or .u64 (x : Int) (IntKind.u64.wrap (2 ^ y))))).drew (x ||| 2 ^ y)) := Lib.hid (by
        rw [or_bit x y HX.out hy]
        refine ⟨?_, ⟨cc, hp_cell (by simp) G2.out, G2'.out⟩, (bl_cell G3.out (by simp) _).drew⟩
        rw [heap_drew, heap_setCell_same _ _ _ _ _ _ G1.out, sv_set])
      rw [← HK.out] at H2
      go_wp2_with fail
      refine (fits_any y hy _).mono ?_
      rintro e w' ⟨rfl, rfl⟩
      go_wp2
      go_region
      go_wp2
      go_roundw
      case rel => exact ⟨k + 1, by omega, by go_num, H2⟩
      case measure => simp [intOf]; omega
    · have : k = n := by omega
      subst this
      have HF := Lib.hid (show bo (l.take k) = bo l by rw [← HN.out, List.take_length])
      rw [HF.out] at G1
      go_wp2_with (first | (refine ld_sv _ rfl (w.heap.size + 1) rfl G1.out rfl ?_) | (refine st_sv _ _ rfl rfl w.heap.size rfl rfl G2.out G2'.out ?_))
      refine bodyPost_ret (v := .tuple #[.agg (sv (bo l)), .int .i64 0]) ?_ rfl ⟨rfl, bl_row G3.out (by omega) _⟩
      refine (results_cell_tmp (p := 2) (t := 3) (by rfl) _ _ w.heap.size 69 _ _ _ ?_ (setRow_heap _ _ _ _ _ _ G2.out) Try.underlying69 rfl (sv_z _)).trans ?_ <;> rfl
set_option maxRecDepth 100000 in
set_option maxHeartbeats 800000 in
theorem chosen_any (A : Option Addr) (c : Nat) (l : List Nat) (n : Nat) (hn : l.length = n) (hlt : ∀ i, l.getD i 0 < 64) (hmax : n ≤ 1000000) (w : World) (hr : Kd.C (Kd.int .i64) w A n (zl l)) :
    Calls Try.prog 68 #[.slice A n c] w fun e w' => e = .returned (.agg (sv (bo l))) ∧ Below w.heap.size w w' := by
  have HC := Aside0.mk (of_any A c l n hn hlt hmax)
  have HR := Aside0.mk (Kd.C_alloc hr (.cells (sv 0) 69))
  clear hr hn hlt
  generalize bo l = x at *
  go_enter Try.func68, Try.ntmps68
  go_wp2_with fail
  refine (HC.out _ HR.out).mono ?_
  rintro e w1 ⟨rfl, hb⟩
  have G1 := Lib.hid (hp_below' hb (hp_new (w := w) (o := .cells (sv 0) 69) rfl))
  have HB := Lib.hid (bl_then (bl_alloc (Below.refl _ w) _) hb)
  clear hb
  have G2 := Lib.hid (hp_old (o := .cells (sv x) 69) G1.out)
  go_wp2_with (first | (refine st_sv_new _ _ rfl rfl rfl rfl rfl ?_) | (refine ld_sv _ rfl w1.heap.size rfl (hp_new rfl) rfl ?_) | (refine st_sv _ _ rfl rfl w.heap.size rfl rfl G2.out rfl ?_))
  refine bodyPost_ret (v := .agg (sv x)) ?_ rfl ⟨rfl, bl_row (bl_alloc HB.out _) (by omega) _⟩
  exact results_cell_row rfl _ _ w.heap.size 69 _ _ _ rfl (setRow_heap _ _ _ _ _ _ G2.out) Try.underlying69 rfl (sv_z _)
end Go.Proofs.Ytpebnldoimoahaa
