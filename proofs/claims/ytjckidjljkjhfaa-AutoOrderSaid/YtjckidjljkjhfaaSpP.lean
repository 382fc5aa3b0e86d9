/- Pairs of states: their cells, the map's keys. -/
import Derived.Test.YtjckidjljkjhfaaSg
namespace Go.Proofs.Ytjckidjljkjhfaa
open Go.RowKit Go.Proofs.YtjckidjljkjhfaaW.PrintWords Go.ChangeMaps
open Go.Maps (Keyed)
set_option linter.unusedSimpArgs false
def ccP (s : Nat × Nat) : Array Value := #[.int .i64 (s.1 : Int), .int .i64 (s.2 : Int)]
theorem ccP_size (s : Nat × Nat) : (ccP s).size = 2 := rfl
theorem ccP_one (s : Nat × Nat) : ∀ u ∈ (ccP s).toList, u.oneCell' = true := fun u hu => by
  simp only [ccP, List.mem_cons, List.not_mem_nil, or_false] at hu
  rcases hu with rfl | rfl <;> rfl
def enP (s : Nat × Nat) : Value := .agg (ccP s)
theorem enP_inj (s t : Nat × Nat) (h : enP s = enP t) : s = t := by
  unfold enP ccP at h
  injection h with h
  injection h with h
  injection h with h1 h
  injection h with h2 _
  injection h1 with _ h1
  injection h2 with _ h2
  exact Prod.ext (Int.ofNat.inj h1) (Int.ofNat.inj h2)
abbrev kdP : Kd (Nat × Nat) := flatK (fun s => (ccP s).toList) 2 (fun _ => rfl) ccP_one
set_option maxRecDepth 100000 in
theorem lawP : Keyed Try.prog 109 :=
  Keyed.of_law (deep_law_laid (m := 4) (by kernel_rfl : laidOutB Try.prog = true) (by decide) (by decide +kernel) (by kernel_rfl) (by kernel_rfl))
theorem infoP : (Try.prog.info? 109).map (fun i => (i.zero, i.size, i.bytes)) = some (some (.agg #[.int .i64 0, .int .i64 0]), 2, 16) := by kernel_rfl
set_option maxRecDepth 100000 in
theorem keyP (s : Nat × Nat) (h1 : s.1 ≤ 1000000) (h2 : s.2 ≤ 1000000) : ∃ q, keyOf Try.prog 109 (enP s) = some q := by
  have hkt : Try.prog.keyType 109 = true := by kernel_rfl
  obtain ⟨m, hm⟩ : ∃ m, Try.prog.types.size + 1 = m + 3 := ⟨Try.prog.types.size - 2, by decide +kernel⟩
  have h9 : Try.prog.cellsOf 109 = 2 := by kernel_rfl
  have h8 : Try.prog.cellsOf 3 = 1 := by kernel_rfl
  have w0 : (Lit.int .i64 (s.1 : Int)).wf = true := WalkArith.wf_i64 (by omega)
  have w1 : (Lit.int .i64 (s.2 : Int)).wf = true := WalkArith.wf_i64 (by omega)
  unfold keyOf enP
  simp only [Try.underlying109]
  rw [if_pos (by simp [hkt, Value.formed, Try.underlying109, h9, ccP]), hm]
  simp [Program.keyLits, Try.underlying109, Try.underlying3, Value.cells, h9, h8, ccP, w0, w1, List.range, List.range.loop]
section
variable {P : Program} {ops : Array Oper} {rest : List Oper} {o : Oper} {a : Act} {w : World} {Q : Exit → Act → World → Prop}
/-- A whole block is loaded. -/
theorem wpl_row {cs : Array Value} (hgd : o.guard = none) (ty : TypeId) (x : Operand) (ho : o.op = .load ty x) (g : Nat) (hx : a.eval x = .pointer (some ⟨g, 0, none⟩)) {t' : TypeId} {fr : Nat × Nat} (hg : w.heap[g]? = some (.cells cs t' fr)) {d : TypeDesc} (hd : (match d with | .struct _ | .array _ _ => true | _ => false) = true) (hu : P.underlying ty = some d) (hi : (P.info? ty).map (·.size) = some cs.size)
    (h : wpList P ops Q rest (a.put o.dst (.agg cs)) w) : wpList P ops Q (o :: rest) a w :=
  wpList_plain hgd fun K hK => wp_load_row ty x ho g hx _ _ _ _ hg hu (by cases d <;> exact hd) hi (hK _ _ h)
end
end Go.Proofs.Ytjckidjljkjhfaa
