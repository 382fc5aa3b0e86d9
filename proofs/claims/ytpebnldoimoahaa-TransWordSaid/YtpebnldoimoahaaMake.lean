/- 'make([]int, n)' in a walk: a new block of n noughts. -/
import Derived.Test.YtpebnldoimoahaaTrA
namespace Go.Proofs.Ytpebnldoimoahaa
open Go.RowKit
theorem made_img (n : Nat) : madeCells (#[.int .i64 0] : Array Value) n = img (List.replicate n 0) := by
  apply Array.ext (by simp [size_madeCells, img])
  intro i h1 h2
  simp [madeCells, img, Nat.mod_one]
theorem info_int : (Try.prog.info? 3).map (fun i => (i.zero, i.size, i.bytes)) = some (some (.int .i64 0), 1, 8) := by kernel_rfl
theorem wpl_make {ops : Array Oper} {rest : List Oper} {o : Oper} {a : Act} {w : World} {Q : Exit → Act → World → Prop} (n : Nat) (hn : n ≤ 1000000) (hgd : o.guard = none) (l c : Operand) (ho : o.op = .makeSlice 22 l c)
    (hl : a.eval l = .int .i64 n) (hc : a.eval c = .int .i64 n)
    (h : wpList Try.prog ops Q rest (a.put o.dst (.slice (some ⟨w.heap.size, 0, none⟩) n n)) (w.alloc (.cells (img (List.replicate n 0)) 3))) : wpList Try.prog ops Q (o :: rest) a w := by
  obtain ⟨i0, hi, hz0, hz1, hz2⟩ := info_parts info_int
  have hr := run_make (P := Try.prog) w 22 3 i0 (.int .i64 0) Try.underlying22 hi hz0 .i64 .i64 n n (by omega) (Int.le_refl _) (by rw [hz2]; omega) (by omega)
  simp only [Int.toNat_natCast] at hr
  refine wpList_plain hgd fun K hK' => ?_
  unfold Oper.wp
  rw [hz1, Nat.mul_one, show (Value.int IntKind.i64 0).cells = #[.int .i64 0] from rfl, made_img] at hr
  simp [execOp, ho, hl, hc, hr, Result.andThen]
  exact hK' _ _ h
end Go.Proofs.Ytpebnldoimoahaa
