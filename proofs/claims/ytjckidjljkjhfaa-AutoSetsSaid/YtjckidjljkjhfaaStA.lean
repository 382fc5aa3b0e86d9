/- The walks of states' add and has. -/
import Derived.Test.YtjckidjljkjhfaaStP
import Derived.BigQuiet
import Derived.Laws.Bits64b
namespace Go.Proofs.Ytjckidjljkjhfaa
open Go.RowKit Go.Proofs.YtjckidjljkjhfaaW.PrintWords
set_option linter.unusedSimpArgs false
set_option linter.unusedVariables false
/-- One block was written, no other. -/
structure Wrote (w : World) (g : Nat) (cs : Array Value) (w' : World) : Prop where
  is : w'.heap[g]? = some (.cells cs 88 (0, 0))
  no : ∀ i, i ≠ g → w'.heap[i]? = w.heap[i]?
  bel : ∀ w0, Below w0.heap.size w0 w → w0.heap.size ≤ g → Below w0.heap.size w0 w'
theorem setCell_row (w : World) (g i : Nat) (v : Value) {cs : Array Value} {t : TypeId} {fr : Nat × Nat} (h : w.heap[g]? = some (.cells cs t fr)) : (w.setCell ⟨g, i, none⟩ v).heap[g]? = some (.cells (cs.setIfInBounds i v) t fr) := by
  simp only [World.setCell, Array.getElem?_modify, if_pos, h]
  rfl
theorem or_bit64 (x i : Nat) (hx : x < 18446744073709551616) (hi : i < 64) : bits .or .u64 (x : Int) (IntKind.u64.wrap (2 ^ i)) = ((x ||| 2 ^ i : Nat) : Int) := by
  have h1 : (2 : Nat) ^ i < 2 ^ 64 := Nat.pow_lt_pow_right (by decide) hi
  have e : (2 : Int) ^ i = ((2 ^ i : Nat) : Int) := by push_cast; rfl
  have h2 : (2 : Nat) ^ 64 = 18446744073709551616 := by decide
  have h3 := Nat.pow_pos (n := i) (show 0 < 2 by decide)
  rw [e, IntWalk.u64_in _ ⟨by omega, by omega⟩, bits_or_u64_nat _ _ hx (by omega)]
set_option maxRecDepth 100000 in
set_option maxHeartbeats 400000 in
theorem has_any (m : Sta) (s : Nat) (hs : s < 4096) (g : Nat) (w : World) (hg : w.heap[g]? = some (.cells (ccS m) 88 (0, 0))) :
    Calls Try.prog 83 #[.pointer (some ⟨g, 0, none⟩), .int .i64 (s : Int)] w fun e w' => e = .returned (.bool (m.getLsbD s)) ∧ Below w.heap.size w w' := by
  have c0 : w.cell? ⟨g, s / 64, none⟩ = some (.int .u64 (wdS m (s / 64) : Int)) := by rw [cell_of_row _ _ _ _ _ _ hg]; exact ccS_get (by omega)
  have hd : Int.tdiv (s : Int) 64 = ((s / 64 : Nat) : Int) := rfl
  have hm : Int.tmod (s : Int) 64 = ((s % 64 : Nat) : Int) := rfl
  go_enter Try.func83, Try.ntmps83
  go_wp2
  go_ret
  refine ⟨?_, Below.refl _ _⟩
  have h2 : ((wdS m (s / 64) : Nat) : Int) / 2 ^ (s % 64) = ((wdS m (s / 64) / 2 ^ (s % 64) : Nat) : Int) := by push_cast; rfl
  have h3 := wdS_lt m (s / 64)
  have h4 : wdS m (s / 64) / 2 ^ (s % 64) ≤ wdS m (s / 64) := Nat.div_le_self _ _
  have h5 := bits_and_u64_nat (wdS m (s / 64) / 2 ^ (s % 64)) 1 (by omega) (by omega)
  rw [h2]
  have h6 : ((1 : Nat) : Int) = 1 := rfl
  rw [h6] at h5
  rw [h5, Nat.and_one_is_mod, wdS_has]
  cases m.getLsbD s <;> rfl
set_option maxRecDepth 100000 in
set_option maxHeartbeats 400000 in
theorem add_any (m : Sta) (s : Nat) (hs : s < 4096) (g : Nat) (w : World) (hg : w.heap[g]? = some (.cells (ccS m) 88 (0, 0))) :
    Calls Try.prog 75 #[.pointer (some ⟨g, 0, none⟩), .int .i64 (s : Int)] w fun e w' => e = .returned (.tuple #[]) ∧ Wrote w g (ccS (adS m s)) w' := by
  have c0 : w.cell? ⟨g, s / 64, none⟩ = some (.int .u64 (wdS m (s / 64) : Int)) := by rw [cell_of_row _ _ _ _ _ _ hg]; exact ccS_get (by omega)
  go_enter Try.func75, Try.ntmps75
  have fz : w.frozen? ⟨g, s / 64, none⟩ = false := frozen_of_row _ _ _ _ _ hg
  have hor : bits .or .u64 (wdS m (s / 64) : Int) (IntKind.u64.wrap (2 ^ (s % 64))) = ((wdS m (s / 64) ||| 2 ^ (s % 64) : Nat) : Int) := or_bit64 _ _ (wdS_lt _ _) (by omega)
  have hst := ccS_ad m hs
  go_wp2
  go_region
  go_wp2
  go_end0
  refine ⟨rfl, ?_, fun i hi => heap_setCell_other _ _ _ _ hi, fun w0 hb hle => (bl_cell hb (show w0.heap.size ≤ (⟨g, s / 64, none⟩ : Addr).block from hle) _).drew⟩
  have := setCell_row w g (s / 64) (.int .u64 ((wdS m (s / 64) ||| 2 ^ (s % 64) : Nat) : Int)) hg
  rw [hst] at this
  exact this
end Go.Proofs.Ytjckidjljkjhfaa
