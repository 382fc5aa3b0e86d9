/- What a statement's walk carries: the blocks that it made, and what lay below. -/
import Derived.Test.YtpebnldoimoahaaTrJ
import Derived.Test.YtpebnldoimoahaaRfG
import Derived.Test.YtpebnldoimoahaaStay
import Derived.Test.YtpebnldoimoahaaLent
namespace Go.Proofs.Ytpebnldoimoahaa
open Go.RowKit Go.Proofs.YtpebnldoimoahaaW.PrintWords
def Hp (fs : List (Nat × Obj)) (b w : World) : Prop := (∀ p ∈ fs, w.heap[p.1]? = some p.2) ∧ Below b.heap.size b w
theorem Hp.start (w : World) : Hp [] w w := ⟨fun _ h => (nomatch h), Below.refl _ _⟩
theorem Hp.keep {fs : List (Nat × Obj)} {b u v : World} (h : Hp fs b u) (hb : Below u.heap.size u v) : Hp fs b v := ⟨fun p hp => hp_below' hb (h.1 p hp), bl_then h.2 hb⟩
theorem Hp.alloc {fs : List (Nat × Obj)} {b u : World} (h : Hp fs b u) (o : Obj) : Hp ((u.heap.size, o) :: fs) b (u.alloc o) :=
  ⟨fun p hp => by
    rcases List.mem_cons.1 hp with rfl | hp
    · exact hp_new rfl
    · exact hp_old (h.1 p hp), bl_alloc h.2 o⟩
theorem Hp.at {fs : List (Nat × Obj)} {b w : World} (h : Hp fs b w) (i : Nat) {g : Nat} {o : Obj} (e : fs[i]? = some (g, o)) : w.heap[g]? = some o := h.1 (g, o) (List.mem_of_getElem? e)
theorem Hp.drew {fs : List (Nat × Obj)} {b w : World} (h : Hp fs b w) : Hp fs b w.drew := ⟨h.1, h.2.drew⟩
theorem Hp.drewN {fs : List (Nat × Obj)} {b w : World} (h : Hp fs b w) (n : Nat) : Hp fs b (w.drewN n) := ⟨h.1, bl_drewN h.2 n⟩
/-- A block of a transformation. -/
abbrev TR (n : Int) (ws : List Nat) : Obj := .cells (tvv n ws) 26 (0, 0)
theorem run_sameT (w : World) (n : Int) (ws : List Nat) (hl : ws.length = 7) : (binOp .eql 26 (.agg (tvv n ws)) (.agg (tvv n ws))).run Try.prog w = .ok (.bool true) w :=
  (run_eqT w n n ws ws hl hl).trans (by simp)
section
variable {ops : Array Oper} {rest : List Oper} {o : Oper} {a : Act} {w : World} {Q : Exit → Act → World → Prop}
/-- An operation that is wanted, guarded or not. -/
theorem wpList_want {P : Program} (hw : Region.wanted o (yielded ops a.tmps) = true) (h : ∀ K : Act → World → Prop, (∀ a w, wpList P ops Q rest a w → K a w) → o.wp P a w K Q) : wpList P ops Q (o :: rest) a w :=
  wpList_step fun K hK => by rw [if_pos hw]; exact h K hK
/-- A transformation is loaded, guarded or not. -/
theorem ld_trw (g : Nat) {n : Int} {l : List Nat} {t : TypeId} {fr : Nat × Nat} (hl : l.length = 7) (hg : w.heap[g]? = some (.cells (tvv n l) t fr)) (hw : Region.wanted o (yielded ops a.tmps) = true) (x : Operand) (ho : o.op = .load 26 x)
    (hx : a.eval x = .pointer (some ⟨g, 0, none⟩)) (h : wpList Try.prog ops Q rest (a.put o.dst (.agg (tvv n l))) w) : wpList Try.prog ops Q (o :: rest) a w :=
  wpList_want hw fun _ hK => wp_load_row 26 x ho g hx t _ fr _ hg Try.underlying26 rfl (tr_z n l hl) (hK _ _ h)
/-- The same, what fails fast comes first. -/
theorem ld2 (x : Operand) (ho : o.op = .load 26 x) (g : Nat) (hx : a.eval x = .pointer (some ⟨g, 0, none⟩)) {n : Int} {l : List Nat} {t : TypeId} {fr : Nat × Nat} (hl : l.length = 7) (hg : w.heap[g]? = some (.cells (tvv n l) t fr)) (hw : Region.wanted o (yielded ops a.tmps) = true)
    (h : wpList Try.prog ops Q rest (a.put o.dst (.agg (tvv n l))) w) : wpList Try.prog ops Q (o :: rest) a w := ld_trw g hl hg hw x ho hx h
theorem st2 {n : Int} {l : List Nat} {c : Array Value} {t : TypeId} (x y : Operand) (ho : o.op = .store 26 x y) (hgd : o.guard = none)
    (hx : a.eval x = .pointer (some ⟨w.heap.size, 0, none⟩)) (hy : a.eval y = .agg (tvv n l)) (hl : l.length = 7) (hc : c.size = 8) (h : wpList Try.prog ops Q rest (a.put o.dst undef) (w.alloc (.cells (tvv n l) t))) : wpList Try.prog ops Q (o :: rest) a (w.alloc (.cells c t)) :=
  st_tr_new hl hc hgd x y ho hx hy h
/-- Two transformations are compared, guarded or not. -/
theorem eq_tr {n m : Int} {l k : List Nat} (r : Bool) (hl : l.length = 7) (hk : k.length = 7) (hw : Region.wanted o (yielded ops a.tmps) = true) (x y : Operand) (u : TypeId) (ho : o.op = .binOp .eql 26 x y u)
    (hx : a.eval x = .agg (tvv n l)) (hy : a.eval y = .agg (tvv m k)) (hr : decide (n = m ∧ l = k) = r) (h : wpList Try.prog ops Q rest (a.put o.dst (.bool r)) w) : wpList Try.prog ops Q (o :: rest) a w :=
  wpList_want hw fun _ hK => by
    have h1 := run_eqGuard_agg (P := Try.prog) w .eql 26 x y (tvv n l) (tvv m k) (by kernel_rfl)
    have h2 := run_eqT w n m l k hl hk
    have h3 : (execOp a.eval o).run Try.prog w = .ok (.value (.bool r)) w := by
      unfold execOp
      simp only [ho, hx, hy, Sem.run_bind, h1, h2, Result.andThen_ok, Sem.run_pure, hr]
    unfold Oper.wp
    rw [h3, Oper.upon_value]
    exact hK _ _ h
theorem ne_tr {n m : Int} {l k : List Nat} (r : Bool) (hl : l.length = 7) (hk : k.length = 7) (hw : Region.wanted o (yielded ops a.tmps) = true) (x y : Operand) (u : TypeId) (ho : o.op = .binOp .neq 26 x y u)
    (hx : a.eval x = .agg (tvv n l)) (hy : a.eval y = .agg (tvv m k)) (hr : (!decide (n = m ∧ l = k)) = r) (h : wpList Try.prog ops Q rest (a.put o.dst (.bool r)) w) : wpList Try.prog ops Q (o :: rest) a w :=
  wpList_want hw fun _ hK => by
    have h1 := run_eqGuard_agg (P := Try.prog) w .neq 26 x y (tvv n l) (tvv m k) (by kernel_rfl)
    have h2 := run_neT w n m l k hl hk
    have h3 : (execOp a.eval o).run Try.prog w = .ok (.value (.bool r)) w := by
      unfold execOp
      simp only [ho, hx, hy, Sem.run_bind, h1, h2, Result.andThen_ok, Sem.run_pure, hr]
    unfold Oper.wp
    rw [h3, Oper.upon_value]
    exact hK _ _ h
end
theorem eq2 {ops : Array Oper} {rest : List Oper} {o : Oper} {a : Act} {w : World} {Q : Exit → Act → World → Prop} (x y : Operand) (u : TypeId) (ho : o.op = .binOp .eql 26 x y u) {n m : Int} {l k : List Nat} (r : Bool) (hr : decide (n = m ∧ l = k) = r) (hx : a.eval x = .agg (tvv n l)) (hy : a.eval y = .agg (tvv m k)) (hl : l.length = 7) (hk : k.length = 7) (hw : Region.wanted o (yielded ops a.tmps) = true)
    (h : wpList Try.prog ops Q rest (a.put o.dst (.bool r)) w) : wpList Try.prog ops Q (o :: rest) a w := eq_tr r hl hk hw x y u ho hx hy hr h
theorem ne2 {ops : Array Oper} {rest : List Oper} {o : Oper} {a : Act} {w : World} {Q : Exit → Act → World → Prop} (x y : Operand) (u : TypeId) (ho : o.op = .binOp .neq 26 x y u) {n m : Int} {l k : List Nat} (r : Bool) (hr : (!decide (n = m ∧ l = k)) = r) (hx : a.eval x = .agg (tvv n l)) (hy : a.eval y = .agg (tvv m k)) (hl : l.length = 7) (hk : k.length = 7) (hw : Region.wanted o (yielded ops a.tmps) = true)
    (h : wpList Try.prog ops Q rest (a.put o.dst (.bool r)) w) : wpList Try.prog ops Q (o :: rest) a w := ne_tr r hl hk hw x y u ho hx hy hr h
theorem sameT_dec (n : Int) (l : List Nat) : decide (n = n ∧ l = l) = true := by simp
theorem idT_len (n : Int) : (idT n).2.1.length = 7 := by unfold idT; split <;> simp [pks_len]
end Go.Proofs.Ytpebnldoimoahaa
