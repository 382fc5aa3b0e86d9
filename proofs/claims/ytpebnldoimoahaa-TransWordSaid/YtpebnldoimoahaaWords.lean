/- Small lemmas on the model's memory that the walks of this seat share: blocks of cells, what is below. -/
import Derived.Test.YtpebnldoimoahaaRows
import Derived.WalkKit
import Derived.WalkSpells
import Derived.WalkLawsBesides
import Derived.Deep.WholeRow
import Derived.Lib.Hide
namespace Go.Proofs.Ytpebnldoimoahaa
open Go.RowKit

theorem hp_old {w : World} {o v : Obj} {k : Nat} (h : w.heap[k]? = some v) : (w.alloc o).heap[k]? = some v := by
  have hk : k < w.heap.size := (Array.getElem?_eq_some_iff.1 h).1
  exact (Below.heap_alloc w o k hk).trans h
theorem hp_new {w : World} {o : Obj} {k : Nat} (h : k = w.heap.size) : (w.alloc o).heap[k]? = some o := by
  subst h; exact heap_alloc_new w o
theorem hp_cell {w : World} {a : Addr} {u : Value} {v : Obj} {k : Nat} (hk : k ≠ a.block) (h : w.heap[k]? = some v) : (w.setCell a u).heap[k]? = some v :=
  (heap_setCell_other w a k u hk).trans h
theorem hp_row {w : World} {g : Nat} {cs : Array Value} {v : Obj} {k : Nat} (hk : k ≠ g) (h : w.heap[k]? = some v) : (w.setRow g cs).heap[k]? = some v :=
  (setRow_other w g k cs hk).trans h
theorem hp_below {B : Nat} {w w' : World} {v : Obj} {k : Nat} (hb : Below B w w') (hk : k < B) (h : w.heap[k]? = some v) : w'.heap[k]? = some v :=
  (hb.block k hk).trans h
theorem hp_below' {w w' : World} {v : Obj} {k : Nat} (hb : Below w.heap.size w w') (h : w.heap[k]? = some v) : w'.heap[k]? = some v :=
  hp_below hb (Array.getElem?_eq_some_iff.1 h).1 h
theorem hp_lt {w : World} {v : Obj} {k : Nat} (h : w.heap[k]? = some v) : k < w.heap.size := (Array.getElem?_eq_some_iff.1 h).1

theorem bl_alloc {w W : World} (h : Below w.heap.size w W) (o : Obj) : Below w.heap.size w (W.alloc o) := h.alloc h.size o
theorem bl_cell {w W : World} (h : Below w.heap.size w W) {p : Addr} (hp : w.heap.size ≤ p.block) (u : Value) : Below w.heap.size w (W.setCell p u) := h.setCell hp u
theorem bl_row {B : Nat} {w W : World} (h : Below B w W) {g : Nat} (hg : B ≤ g) (cs : Array Value) : Below B w (W.setRow g cs) :=
  ⟨by simp [h.os], by simp [h.tape], by simp [h.output], by simp [h.size], fun k hk => by rw [setRow_other _ _ _ _ (by omega)]; exact h.block k hk⟩
theorem bl_drewN {B : Nat} {w W : World} (h : Below B w W) (n : Nat) : Below B w (W.drewN n) := ⟨h.os, h.tape, h.output, h.size, h.block⟩
theorem bl_then {w W W' : World} (h : Below w.heap.size w W) (k : Below W.heap.size W W') : Below w.heap.size w W' := h.trans (k.mono h.size)
theorem bl_trans {B : Nat} {w W W' : World} (h : Below B w W) (hB : B ≤ W.heap.size) (k : Below W.heap.size W W') : Below B w W' := h.trans (k.mono hB)

end Go.Proofs.Ytpebnldoimoahaa
