/- Small laws for walking a region that draws its order by hand: reads are taken first, then the calls and stores as they come. -/
import Derived.Test.YtpebnldoimoahaaWords
import Derived.Deep.RegionHeld3
import Derived.Deep.MidRow
namespace Go.Proofs.Ytpebnldoimoahaa
open Go.RowKit
section
variable {P : Program} {ops : Array Oper} {Q : Exit → Act → World → Prop} {md : Region.Mode} {S : World → Prop} {o : Oper} {a : Act} {w : World}
/-- An operation that yields v wherever S holds. -/
theorem yi_val {v : Value} (hg : Region.wanted o (yielded ops a.tmps) = true) (h : ∀ w, S w → (execOp a.eval o).run P w = .ok (.value v) w) : YieldsIf P ops S o v a :=
  .inl ⟨hg, h⟩
/-- '==', '<' and the like, whose guard against panics is met. -/
theorem yi_bin {v : Value} (op : BinOp) (t : TypeId) (x y : Operand) (u : TypeId) (ho : o.op = .binOp op t x y u) (hg : Region.wanted o (yielded ops a.tmps) = true)
    (h : ∀ w, S w → (eqGuard op t x y (a.eval x) (a.eval y)).run P w = .ok () w ∧ (binOp op t (a.eval x) (a.eval y)).run P w = .ok v w) : YieldsIf P ops S o v a :=
  yi_val hg fun w hw => by
    obtain ⟨h1, h2⟩ := h w hw
    unfold execOp
    simp only [ho, Sem.run_bind, h1, h2, Result.andThen_ok, Sem.run_pure]
/-- A number, string, pointer, slice or map is loaded from a cell. -/
theorem yi_cell {v : Value} (t : TypeId) (x : Operand) (ho : o.op = .load t x) (hg : Region.wanted o (yielded ops a.tmps) = true) (ad : Addr) (hx : a.eval x = .pointer (some ad))
    (d : TypeDesc) (hu : P.underlying t = some d) (hd : (match d with | .struct _ | .array _ _ => false | _ => true) = true) (h : ∀ w, S w → w.cell? ad = some v) : YieldsIf P ops S o v a :=
  yi_val hg fun w hw => by
    have hagg : (isAgg t).run P w = .ok false w := by
      unfold isAgg
      rw [Sem.run_bind, run_underlying hu w]
      cases d <;> simp_all
    unfold execOp
    simp only [ho, hx, Instr.loadAt, Instr.sureAddr, Sem.run_bind, Sem.run_pure, Result.andThen_ok]
    simp [loadVar, Sem.run_bind, hagg, h w hw]
/-- A whole row (a struct, an array) out of a block. -/
theorem yi_row (t : TypeId) (x : Operand) (ho : o.op = .load t x) (hg : Region.wanted o (yielded ops a.tmps) = true) (g : Nat) (hx : a.eval x = .pointer (some ⟨g, 0, none⟩)) (cs : Array Value)
    (d : TypeDesc) (hu : P.underlying t = some d) (hd : (match d with | .struct _ | .array _ _ => true | _ => false) = true) (hi : (P.info? t).map (·.size) = some cs.size)
    (h : ∀ w, S w → ∃ t' fr, w.heap[g]? = some (.cells cs t' fr)) : YieldsIf P ops S o (.agg cs) a :=
  yi_val hg fun w hw => by
    obtain ⟨t', fr, hc⟩ := h w hw
    unfold execOp
    simp only [ho, hx, Instr.loadAt, Instr.sureAddr, Sem.run_bind, Sem.run_pure, Result.andThen_ok, run_loadVar_row w g t' t cs fr d hc hu hd hi]

end
/-- Two results: a row in a cell, a slot. -/
theorem results_cell_tmp {P : Program} {fn : Func} {p t : Tmp} {ty : TypeId} (h : fn.results = #[.cell p ty, .tmp t]) (tmps : Array Value) (w : World) (g : Nat) (t' : TypeId) (cs : Array Value) (fr : Nat × Nat) (d : TypeDesc)
    (hp : tmps.getD p undef = .pointer (some ⟨g, 0, none⟩)) (hg : w.heap[g]? = some (.cells cs t' fr))
    (hu : P.underlying ty = some d) (hd : (match d with | .struct _ | .array _ _ => true | _ => false) = true) (hi : (P.info? ty).map (·.size) = some cs.size) :
    (results fn tmps).run P w = .ok (.tuple #[.agg cs, tmps.getD t undef]) w := by
  have hp' : tmps[p]?.getD undef = .pointer (some ⟨g, 0, none⟩) := by simpa using hp
  simp [results, h, hp', asAddr, run_loadVar_row w g t' ty cs fr d hg hu hd hi]
section
variable {P : Program} {l : List Oper} {Q : Exit → Act → World → Prop} {md : Region.Mode} {S : World → Prop} {o : Oper} {a : Act} {w : World}
/-- Operation i is taken first. -/
theorem any_take {i : Nat} {v : Value} {fuel : Nat} {listed : Array Bool} (hi : l[i]? = some o)
    (hs : Region.noSelect l.toArray = true) (hf : Region.free md l.toArray listed i = true) (hr : (Region.ready md l.toArray listed).contains i = true)
    (hQ : ∀ c a w, Q (.panic c) (a.put o.dst v) w → Q (.panic c) a w) (hS : S w) (hy : YieldsIf P l.toArray S o v a)
    (h : wpAnyH P md l.toArray Q S fuel (listed.setIfInBounds i true) (a.put o.dst v) w) : wpAnyH P md l.toArray Q S (fuel + 1) listed a w :=
  wpAnyH_take (by simpa using hi) hs hf hr hQ hy hS h
/-- What comes next is one operation alone. -/
theorem any_one {fuel : Nat} {listed : Array Bool} {i : Nat} (hi : l[i]? = some o) (hr : Region.ready md l.toArray listed = [i]) (hg : Region.wanted o (yielded l.toArray a.tmps) = true)
    (h : o.wp P a w (fun a' w' => S w' ∧ wpAnyH P md l.toArray Q S fuel (listed.setIfInBounds i true) a' w') Q) : wpAnyH P md l.toArray Q S (fuel + 1) listed a w :=
  wpAnyH_all hr (by simp) fun j hj => by
    simp only [List.mem_singleton] at hj
    subst hj
    have ho : l.toArray[j]? = some o := by simpa using hi
    unfold wpOp
    simp only [ho]
    rw [if_pos hg]
    exact .inl h
/-- A call: by its contract. -/
theorem any_call {fuel : Nat} {listed : Array Bool} {i : Nat} {R : Ending → World → Prop} (hi : l[i]? = some o) (hr : Region.ready md l.toArray listed = [i]) (hg : Region.wanted o (yielded l.toArray a.tmps) = true)
    (f : FuncId) (args : Array Value) (hex : (execOp a.eval o).run P w = .ok (.enter f args) w) (hc : Calls P f args w R)
    (hR : ∀ e w', R e w' → ∃ v, e = .returned v ∧ S w' ∧ wpAnyH P md l.toArray Q S fuel (listed.setIfInBounds i true) (a.put o.dst v) w') : wpAnyH P md l.toArray Q S (fuel + 1) listed a w :=
  any_one hi hr hg <| by
    unfold Oper.wp
    rw [hex, Oper.upon_enter]
    refine hc.mono fun e w' h => ?_
    obtain ⟨v, rfl, h1, h2⟩ := hR e w' h
    exact ⟨h1, h2⟩
/-- A whole row into a block. -/
theorem any_row {fuel : Nat} {listed : Array Bool} {i : Nat} (hi : l[i]? = some o) (hr : Region.ready md l.toArray listed = [i]) (hg : Region.wanted o (yielded l.toArray a.tmps) = true) (ty : TypeId) (x y : Operand) (hop : o.op = .store ty x y)
    (g : Nat) (cells : Array Value) (hx : a.eval x = .pointer (some ⟨g, 0, none⟩)) (hy : a.eval y = .agg cells)
    (t : TypeId) (old : Array Value) (hgd : w.heap[g]? = some (.cells old t (0, 0))) (hz : (P.info? ty).map (·.size) = some cells.size)
    (hold : old.size = cells.size) (h1 : cells.all (·.oneCell') = true)
    (hS : S (w.setRow g cells)) (h : wpAnyH P md l.toArray Q S fuel (listed.setIfInBounds i true) (a.put o.dst undef) (w.setRow g cells)) : wpAnyH P md l.toArray Q S (fuel + 1) listed a w :=
  any_one hi hr hg (wp_store_row ty x y hop g cells hx hy t old hgd hz hold h1 ⟨hS, h⟩)
/-- A plain value that the last operation lays into a slot. -/
theorem any_val {fuel : Nat} {listed : Array Bool} {i : Nat} {v : Value} (hi : l[i]? = some o) (hr : Region.ready md l.toArray listed = [i]) (hg : Region.wanted o (yielded l.toArray a.tmps) = true) (hS : S w)
    (hex : (execOp a.eval o).run P w = .ok (.value v) w) (h : wpAnyH P md l.toArray Q S fuel (listed.setIfInBounds i true) (a.put o.dst v) w) : wpAnyH P md l.toArray Q S (fuel + 1) listed a w :=
  any_one hi hr hg <| by
    unfold Oper.wp
    rw [hex, Oper.upon_value]
    exact ⟨hS, h⟩
end
end Go.Proofs.Ytpebnldoimoahaa
