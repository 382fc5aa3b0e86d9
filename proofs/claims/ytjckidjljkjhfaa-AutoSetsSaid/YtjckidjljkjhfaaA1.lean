/- Merged by tools/merge2.py out of: XWords XRegion XMap XBf XBo XIm XNum XFap XJoin XHpM XAu XAuD XAw (a claim bears 60 files at most). -/
import Derived.Test.YtjckidjljkjhfaaRows
import Derived.WalkKit
import Derived.WalkSpells
import Derived.WalkLawsBesides
import Derived.Deep.WholeRow
import Derived.Lib.Hide
import Derived.Deep.RegionHeld3
import Derived.Deep.MidRow
import Derived.Maps.Keyed
import Derived.Test.YtjckidjljkjhfaaWMore
import Derived.IntWalk
import Derived.Laws.RangeAny
import Derived.Test.YtjckidjljkjhfaaWSized
import Derived.ProofKit
import Derived.OpenShut
import Derived.SizedLaws
import Derived.Deep.Grids
namespace Go.Proofs.Ytjckidjljkjhfaa
open Go.RowKit

theorem hp_old {w : World} {o v : Obj} {k : Nat} (h : w.heap[k]? = some v) : (w.alloc o).heap[k]? = some v := by
  have hk : k < w.heap.size := (Array.getElem?_eq_some_iff.1 h).1
  exact (Below.heap_alloc w o k hk).trans h
theorem hp_new {w : World} {o : Obj} {k : Nat} (h : k = w.heap.size) : (w.alloc o).heap[k]? = some o := by
  subst h; exact heap_alloc_new w o
theorem hp_cell {w : World} {a : Addr} {u : Value} {v : Obj} {k : Nat} (hk : k ≠ a.block) (h : w.heap[k]? = some v) : (w.setCell a u).heap[k]? = some v :=
  (heap_setCell_other w a k u hk).trans h
theorem hp_row {w : World} {g : Nat} {cs : Array Value} {v : Obj} {k : Nat} (hk : k ≠ g) (h : w.heap[k]? = some v) : (w.setRow g cs).heap[k]? = some v :=
  (setRow_other w g k cs hk).trans h
theorem hp_below {B : Nat} {w w' : World} {v : Obj} {k : Nat} (hb : Below B w w') (hk : k < B) (h : w.heap[k]? = some v) : w'.heap[k]? = some v :=
  (hb.block k hk).trans h
theorem hp_below' {w w' : World} {v : Obj} {k : Nat} (hb : Below w.heap.size w w') (h : w.heap[k]? = some v) : w'.heap[k]? = some v :=
  hp_below hb (Array.getElem?_eq_some_iff.1 h).1 h
theorem hp_lt {w : World} {v : Obj} {k : Nat} (h : w.heap[k]? = some v) : k < w.heap.size := (Array.getElem?_eq_some_iff.1 h).1

theorem bl_alloc {w W : World} (h : Below w.heap.size w W) (o : Obj) : Below w.heap.size w (W.alloc o) := h.alloc h.size o
theorem bl_cell {w W : World} (h : Below w.heap.size w W) {p : Addr} (hp : w.heap.size ≤ p.block) (u : Value) : Below w.heap.size w (W.setCell p u) := h.setCell hp u
theorem bl_row {B : Nat} {w W : World} (h : Below B w W) {g : Nat} (hg : B ≤ g) (cs : Array Value) : Below B w (W.setRow g cs) :=
  ⟨by simp [h.os], by simp [h.tape], by simp [h.output], by simp [h.size], fun k hk => by rw [setRow_other _ _ _ _ (by omega)]; exact h.block k hk⟩
theorem bl_drewN {B : Nat} {w W : World} (h : Below B w W) (n : Nat) : Below B w (W.drewN n) := ⟨h.os, h.tape, h.output, h.size, h.block⟩
theorem bl_then {w W W' : World} (h : Below w.heap.size w W) (k : Below W.heap.size W W') : Below w.heap.size w W' := h.trans (k.mono h.size)
theorem bl_trans {B : Nat} {w W W' : World} (h : Below B w W) (hB : B ≤ W.heap.size) (k : Below W.heap.size W W') : Below B w W' := h.trans (k.mono hB)

end Go.Proofs.Ytjckidjljkjhfaa

namespace Go.Proofs.Ytjckidjljkjhfaa
open Go.RowKit
section
variable {P : Program} {ops : Array Oper} {Q : Exit → Act → World → Prop} {md : Region.Mode} {S : World → Prop} {o : Oper} {a : Act} {w : World}
/-- An operation that yields v wherever S holds. -/
theorem yi_val {v : Value} (hg : Region.wanted o (yielded ops a.tmps) = true) (h : ∀ w, S w → (execOp a.eval o).run P w = .ok (.value v) w) : YieldsIf P ops S o v a :=
  .inl ⟨hg, h⟩
/-- '==', '<' and the like, whose guard against panics is met. -/
theorem yi_bin {v : Value} (op : BinOp) (t : TypeId) (x y : Operand) (u : TypeId) (ho : o.op = .binOp op t x y u) (hg : Region.wanted o (yielded ops a.tmps) = true)
    (h : ∀ w, S w → (eqGuard op t x y (a.eval x) (a.eval y)).run P w = .ok () w ∧ (binOp op t (a.eval x) (a.eval y)).run P w = .ok v w) : YieldsIf P ops S o v a :=
  yi_val hg fun w hw => by
    obtain ⟨h1, h2⟩ := h w hw
    unfold execOp
    simp only [ho, Sem.run_bind, h1, h2, Result.andThen_ok, Sem.run_pure]
/-- A number, string, pointer, slice or map is loaded from a cell. -/
theorem yi_cell {v : Value} (t : TypeId) (x : Operand) (ho : o.op = .load t x) (hg : Region.wanted o (yielded ops a.tmps) = true) (ad : Addr) (hx : a.eval x = .pointer (some ad))
    (d : TypeDesc) (hu : P.underlying t = some d) (hd : (match d with | .struct _ | .array _ _ => false | _ => true) = true) (h : ∀ w, S w → w.cell? ad = some v) : YieldsIf P ops S o v a :=
  yi_val hg fun w hw => by
    have hagg : (isAgg t).run P w = .ok false w := by
      unfold isAgg
      rw [Sem.run_bind, run_underlying hu w]
      cases d <;> simp_all
    unfold execOp
    simp only [ho, hx, Instr.loadAt, Instr.sureAddr, Sem.run_bind, Sem.run_pure, Result.andThen_ok]
    simp [loadVar, Sem.run_bind, hagg, h w hw]
/-- A whole row (a struct, an array) out of a block. -/
theorem yi_row (t : TypeId) (x : Operand) (ho : o.op = .load t x) (hg : Region.wanted o (yielded ops a.tmps) = true) (g : Nat) (hx : a.eval x = .pointer (some ⟨g, 0, none⟩)) (cs : Array Value)
    (d : TypeDesc) (hu : P.underlying t = some d) (hd : (match d with | .struct _ | .array _ _ => true | _ => false) = true) (hi : (P.info? t).map (·.size) = some cs.size)
    (h : ∀ w, S w → ∃ t' fr, w.heap[g]? = some (.cells cs t' fr)) : YieldsIf P ops S o (.agg cs) a :=
  yi_val hg fun w hw => by
    obtain ⟨t', fr, hc⟩ := h w hw
    unfold execOp
    simp only [ho, hx, Instr.loadAt, Instr.sureAddr, Sem.run_bind, Sem.run_pure, Result.andThen_ok, run_loadVar_row w g t' t cs fr d hc hu hd hi]

end
/-- Two results: a row in a cell, a slot. -/
theorem results_cell_tmp {P : Program} {fn : Func} {p t : Tmp} {ty : TypeId} (h : fn.results = #[.cell p ty, .tmp t]) (tmps : Array Value) (w : World) (g : Nat) (t' : TypeId) (cs : Array Value) (fr : Nat × Nat) (d : TypeDesc)
    (hp : tmps.getD p undef = .pointer (some ⟨g, 0, none⟩)) (hg : w.heap[g]? = some (.cells cs t' fr))
    (hu : P.underlying ty = some d) (hd : (match d with | .struct _ | .array _ _ => true | _ => false) = true) (hi : (P.info? ty).map (·.size) = some cs.size) :
    (results fn tmps).run P w = .ok (.tuple #[.agg cs, tmps.getD t undef]) w := by
  have hp' : tmps[p]?.getD undef = .pointer (some ⟨g, 0, none⟩) := by simpa using hp
  simp [results, h, hp', asAddr, run_loadVar_row w g t' ty cs fr d hg hu hd hi]
section
variable {P : Program} {l : List Oper} {Q : Exit → Act → World → Prop} {md : Region.Mode} {S : World → Prop} {o : Oper} {a : Act} {w : World}
/-- Operation i is taken first. -/
theorem any_take {i : Nat} {v : Value} {fuel : Nat} {listed : Array Bool} (hi : l[i]? = some o)
    (hs : Region.noSelect l.toArray = true) (hf : Region.free md l.toArray listed i = true) (hr : (Region.ready md l.toArray listed).contains i = true)
    (hQ : ∀ c a w, Q (.panic c) (a.put o.dst v) w → Q (.panic c) a w) (hS : S w) (hy : YieldsIf P l.toArray S o v a)
    (h : wpAnyH P md l.toArray Q S fuel (listed.setIfInBounds i true) (a.put o.dst v) w) : wpAnyH P md l.toArray Q S (fuel + 1) listed a w :=
  wpAnyH_take (by simpa using hi) hs hf hr hQ hy hS h
/-- What comes next is one operation alone. -/
theorem any_one {fuel : Nat} {listed : Array Bool} {i : Nat} (hi : l[i]? = some o) (hr : Region.ready md l.toArray listed = [i]) (hg : Region.wanted o (yielded l.toArray a.tmps) = true)
    (h : o.wp P a w (fun a' w' => S w' ∧ wpAnyH P md l.toArray Q S fuel (listed.setIfInBounds i true) a' w') Q) : wpAnyH P md l.toArray Q S (fuel + 1) listed a w :=
  wpAnyH_all hr (by simp) fun j hj => by
    simp only [List.mem_singleton] at hj
    subst hj
    have ho : l.toArray[j]? = some o := by simpa using hi
    unfold wpOp
    simp only [ho]
    rw [if_pos hg]
    exact .inl h
/-- A call: by its contract. -/
theorem any_call {fuel : Nat} {listed : Array Bool} {i : Nat} {R : Ending → World → Prop} (hi : l[i]? = some o) (hr : Region.ready md l.toArray listed = [i]) (hg : Region.wanted o (yielded l.toArray a.tmps) = true)
    (f : FuncId) (args : Array Value) (hex : (execOp a.eval o).run P w = .ok (.enter f args) w) (hc : Calls P f args w R)
    (hR : ∀ e w', R e w' → ∃ v, e = .returned v ∧ S w' ∧ wpAnyH P md l.toArray Q S fuel (listed.setIfInBounds i true) (a.put o.dst v) w') : wpAnyH P md l.toArray Q S (fuel + 1) listed a w :=
  any_one hi hr hg <| by
    unfold Oper.wp
    rw [hex, Oper.upon_enter]
    refine hc.mono fun e w' h => ?_
    obtain ⟨v, rfl, h1, h2⟩ := hR e w' h
    exact ⟨h1, h2⟩
/-- A whole row into a block. -/
theorem any_row {fuel : Nat} {listed : Array Bool} {i : Nat} (hi : l[i]? = some o) (hr : Region.ready md l.toArray listed = [i]) (hg : Region.wanted o (yielded l.toArray a.tmps) = true) (ty : TypeId) (x y : Operand) (hop : o.op = .store ty x y)
    (g : Nat) (cells : Array Value) (hx : a.eval x = .pointer (some ⟨g, 0, none⟩)) (hy : a.eval y = .agg cells)
    (t : TypeId) (old : Array Value) (hgd : w.heap[g]? = some (.cells old t (0, 0))) (hz : (P.info? ty).map (·.size) = some cells.size)
    (hold : old.size = cells.size) (h1 : cells.all (·.oneCell') = true)
    (hS : S (w.setRow g cells)) (h : wpAnyH P md l.toArray Q S fuel (listed.setIfInBounds i true) (a.put o.dst undef) (w.setRow g cells)) : wpAnyH P md l.toArray Q S (fuel + 1) listed a w :=
  any_one hi hr hg (wp_store_row ty x y hop g cells hx hy t old hgd hz hold h1 ⟨hS, h⟩)
/-- A plain value that the last operation lays into a slot. -/
theorem any_val {fuel : Nat} {listed : Array Bool} {i : Nat} {v : Value} (hi : l[i]? = some o) (hr : Region.ready md l.toArray listed = [i]) (hg : Region.wanted o (yielded l.toArray a.tmps) = true) (hS : S w)
    (hex : (execOp a.eval o).run P w = .ok (.value v) w) (h : wpAnyH P md l.toArray Q S fuel (listed.setIfInBounds i true) (a.put o.dst v) w) : wpAnyH P md l.toArray Q S (fuel + 1) listed a w :=
  any_one hi hr hg <| by
    unfold Oper.wp
    rw [hex, Oper.upon_value]
    exact ⟨hS, h⟩
end
end Go.Proofs.Ytjckidjljkjhfaa

namespace Go.Proofs.Ytjckidjljkjhfaa
open Go.RowKit Go.ChangeMaps Go.MapKept
open Go.Maps (Keyed)
/-- Block b is a map with these entries. -/
def MapIs (w : World) (b : Nat) (l : List (Value × Value)) : Prop := ∃ es clock, w.heap[b]? = some (.map es clock) ∧ es.toList.map (fun e => (e.key, e.val)) = l
theorem MapIs.new (w : World) : MapIs (w.alloc (.map #[] 0)) w.heap.size [] := ⟨#[], 0, hp_new rfl, rfl⟩
theorem MapIs.of {w w' : World} {b : Nat} {l : List (Value × Value)} (h : MapIs w b l) (e : w'.heap[b]? = w.heap[b]?) : MapIs w' b l := by
  obtain ⟨es, c, h1, h2⟩ := h
  exact ⟨es, c, e.trans h1, h2⟩
theorem MapIs.lt {w : World} {b : Nat} {l : List (Value × Value)} (h : MapIs w b l) : b < w.heap.size := by
  obtain ⟨es, c, h1, _⟩ := h
  exact hp_lt h1
theorem MapIs.below {w w' : World} {b : Nat} {l : List (Value × Value)} (h : MapIs w b l) (hb : Below w.heap.size w w') : MapIs w' b l := h.of (hb.block b h.lt)
section
variable {P : Program} {k e t : TypeId} {w : World} {b : Nat} {l : List (Value × Value)} {key : Value} {kl : Lit}
theorem MapIs.keys {es : Array MapEntry} (h : es.toList.map (fun e => (e.key, e.val)) = l) (hl : ∀ p ∈ l, ∃ q, keyOf P k p.1 = some q) : ∀ x ∈ es.toList, ∃ q, keyOf P k x.key = some q := fun x hx =>
  hl (x.key, x.val) (by rw [← h]; exact List.mem_map.2 ⟨x, hx, rfl⟩)
/-- No entry bears the key. -/
theorem MapIs.look_no (h : MapIs w b l) (K : Keyed P k) (hl : ∀ p ∈ l, ∃ q, keyOf P k p.1 = some q) (ht : P.underlying t = some (.map k e)) {z : Value} (hz : (zeroValue e).run P w = .ok z w) (hkey : keyOf P k key = some kl) (hno : ∀ p ∈ l, p.1 ≠ key) (c : Bool) :
    (Instr.lookup t (.map (some b)) key c).run P w = .ok (if c then .tuple #[z, .bool false] else z) w := by
  obtain ⟨es, clock, hb, he⟩ := h
  rcases K.find w hkey es.toList (MapIs.keys he hl) with ⟨h1, h2⟩ | ⟨j, e0, h1, h2, h3⟩
  · simp [Instr.lookup, run_underlying ht, MapKept.run_getObj_map hb, K.check w _ hkey, h1, hz, Result.andThen]
  · exact absurd h3 (hno (e0.key, e0.val) (by rw [← he]; exact List.mem_map.2 ⟨e0, List.mem_of_getElem? h2, rfl⟩))
/-- One does, and those that do hold v. -/
theorem MapIs.look_yes (h : MapIs w b l) (K : Keyed P k) (hl : ∀ p ∈ l, ∃ q, keyOf P k p.1 = some q) (ht : P.underlying t = some (.map k e)) {z : Value} (_hz : (zeroValue e).run P w = .ok z w) (hkey : keyOf P k key = some kl) {v : Value} (hyes : ∃ p ∈ l, p.1 = key) (hv : ∀ p ∈ l, p.1 = key → p.2 = v) (c : Bool) :
    (Instr.lookup t (.map (some b)) key c).run P w = .ok (if c then .tuple #[v, .bool true] else v) w := by
  obtain ⟨es, clock, hb, he⟩ := h
  rcases K.find w hkey es.toList (MapIs.keys he hl) with ⟨h1, h2⟩ | ⟨j, e0, h1, h2, h3⟩
  · obtain ⟨p, hp, hpk⟩ := hyes
    rw [← he] at hp
    obtain ⟨x, hx, rfl⟩ := List.mem_map.1 hp
    exact absurd hpk (h2 x hx)
  · have : e0.val = v := hv (e0.key, e0.val) (by rw [← he]; exact List.mem_map.2 ⟨e0, List.mem_of_getElem? h2, rfl⟩) h3
    subst this
    simp [Instr.lookup, run_underlying ht, MapKept.run_getObj_map hb, K.check w _ hkey, h1, Result.andThen]
/-- What a store into a map leaves: one block has turned. -/
structure Turned (w w' : World) (b : Nat) : Prop where
  os : w'.os = w.os
  tape : w'.tape = w.tape
  output : w'.output = w.output
  size : w'.heap.size = w.heap.size
  block : ∀ i, i ≠ b → w'.heap[i]? = w.heap[i]?
theorem Turned.below {w w' W : World} {b B : Nat} (h : Turned w w' b) (hb : Below B W w) (hB : B ≤ b) : Below B W w' :=
  ⟨h.os.trans hb.os, h.tape.trans hb.tape, h.output.trans hb.output, by rw [h.size]; exact hb.size, fun i hi => (h.block i (by omega)).trans (hb.block i hi)⟩
/-- A store at a key that is new. -/
theorem MapIs.put (h : MapIs w b l) (K : Keyed P k) (hl : ∀ p ∈ l, ∃ q, keyOf P k p.1 = some q) (ht : P.underlying t = some (.map k e)) (hkey : keyOf P k key = some kl) (hno : ∀ p ∈ l, p.1 ≠ key) (val : Value) :
    ∃ w', (Instr.mapUpdate t (.map (some b)) key val).run P w = .ok () w' ∧ MapIs w' b (l ++ [(key, val)]) ∧ Turned w w' b := by
  obtain ⟨es, clock, hb, he⟩ := h
  rcases K.find w hkey es.toList (MapIs.keys he hl) with ⟨h1, h2⟩ | ⟨j, e0, h1, h2, h3⟩
  · refine ⟨setBlock w b (.map (es.push ⟨key, val, clock⟩) (clock + 1)), ?_, ⟨_, _, heap_setBlock_same hb _, by simp [← he]⟩, ⟨rfl, rfl, rfl, by simp [setBlock], fun i hi => heap_setBlock_other hb _ hi⟩⟩
    simp [Instr.mapUpdate, run_underlying ht, MapKept.run_getObj_map hb, K.check w false hkey, h1, MapKept.run_setObj_map _ hb, Result.andThen, setBlock]
  · exact absurd h3 (hno (e0.key, e0.val) (by rw [← he]; exact List.mem_map.2 ⟨e0, List.mem_of_getElem? h2, rfl⟩))
end
section
variable {P : Program} {ops : Array Oper} {rest : List Oper} {o : Oper} {a : Act} {w : World} {Q : Exit → Act → World → Prop} {md : Region.Mode} {S : World → Prop} {l : List Oper}
/-- A look-up whose run is known, in a plain list. -/
theorem mp_look (m x : Operand) (t : TypeId) (c : Bool) (hop : o.op = .lookup t m x c) (mv key v : Value) (hm : a.eval m = mv) (hx : a.eval x = key) (hw : Region.wanted o (yielded ops a.tmps) = true) (hrun : (Instr.lookup t mv key c).run P w = .ok v w)
    (h : wpList P ops Q rest (a.put o.dst v) w) : wpList P ops Q (o :: rest) a w :=
  wpList_step fun K hK => by
    rw [if_pos hw]
    unfold Oper.wp execOp
    simp only [hop, hm, hx, Sem.run_bind, hrun, Result.andThen_ok, Sem.run_pure]
    exact hK _ _ h
/-- .. and a store. -/
theorem mp_put (m x v : Operand) (t : TypeId) (hop : o.op = .mapUpdate t m x v) (mv key val : Value) (hm : a.eval m = mv) (hx : a.eval x = key) (hv : a.eval v = val) (hw : Region.wanted o (yielded ops a.tmps) = true) {w' : World} (hrun : (Instr.mapUpdate t mv key val).run P w = .ok () w')
    (h : wpList P ops Q rest (a.put o.dst undef) w') : wpList P ops Q (o :: rest) a w :=
  wpList_step fun K hK => by
    rw [if_pos hw]
    unfold Oper.wp execOp
    simp only [hop, hm, hx, hv, Sem.run_bind, hrun, Result.andThen_ok, Sem.run_pure]
    exact hK _ _ h
/-- A look-up that may be taken first. -/
theorem yi_look {v : Value} (m x : Operand) (t : TypeId) (c : Bool) (hop : o.op = .lookup t m x c) (hg : Region.wanted o (yielded ops a.tmps) = true) (h : ∀ w, S w → (Instr.lookup t (a.eval m) (a.eval x) c).run P w = .ok v w) : YieldsIf P ops S o v a :=
  yi_val hg fun w hw => by
    unfold execOp
    simp only [hop, Sem.run_bind, h w hw, Result.andThen_ok, Sem.run_pure]
/-- A store into a map, the one operation that comes next. -/
theorem any_put {fuel : Nat} {listed : Array Bool} {i : Nat} (hi : l[i]? = some o) (hr : Region.ready md l.toArray listed = [i]) (hg : Region.wanted o (yielded l.toArray a.tmps) = true) (m x v : Operand) (t : TypeId) (hop : o.op = .mapUpdate t m x v)
    {w' : World} (hrun : (Instr.mapUpdate t (a.eval m) (a.eval x) (a.eval v)).run P w = .ok () w') (hS : S w') (h : wpAnyH P md l.toArray Q S fuel (listed.setIfInBounds i true) (a.put o.dst undef) w') : wpAnyH P md l.toArray Q S (fuel + 1) listed a w :=
  any_one hi hr hg <| by
    unfold Oper.wp execOp
    simp only [hop, Sem.run_bind, hrun, Result.andThen_ok, Sem.run_pure]
    exact ⟨hS, h⟩
/-- Either of two operations may come next. -/
theorem any_two {fuel : Nat} {listed : Array Bool} {i j : Nat} {o' : Oper} (hr : Region.ready md l.toArray listed = [i, j]) (hi : l[i]? = some o) (hj : l[j]? = some o') (hg : Region.wanted o (yielded l.toArray a.tmps) = true) (hg' : Region.wanted o' (yielded l.toArray a.tmps) = true)
    (h : o.wp P a w (fun a' w' => S w' ∧ wpAnyH P md l.toArray Q S fuel (listed.setIfInBounds i true) a' w') Q) (h' : o'.wp P a w (fun a' w' => S w' ∧ wpAnyH P md l.toArray Q S fuel (listed.setIfInBounds j true) a' w') Q) : wpAnyH P md l.toArray Q S (fuel + 1) listed a w :=
  wpAnyH_all hr (by simp) fun n hn => by
    simp only [List.mem_cons, List.not_mem_nil, or_false] at hn
    rcases hn with rfl | rfl
    · have ho : l.toArray[n]? = some o := by simpa using hi
      unfold wpOp
      simp only [ho]
      rw [if_pos hg]
      exact .inl h
    · have ho : l.toArray[n]? = some o' := by simpa using hj
      unfold wpOp
      simp only [ho]
      rw [if_pos hg']
      exact .inl h'
end
end Go.Proofs.Ytjckidjljkjhfaa

namespace Go.Proofs.Ytjckidjljkjhfaa
set_option linter.unusedSectionVars false
set_option linter.unusedVariables false
section
variable {σ : Type} [DecidableEq σ]
/-- Where a word leads. -/
def rn (step : σ → Nat → σ) (s : σ) (w : List Nat) : σ := w.foldl step s
theorem rn_nil (step : σ → Nat → σ) (s : σ) : rn step s [] = s := rfl
theorem rn_snoc (step : σ → Nat → σ) (s : σ) (w : List Nat) (c : Nat) : rn step s (w ++ [c]) = step (rn step s w) c := by simp [rn]
theorem rn_app (step : σ → Nat → σ) (s : σ) (u v : List Nat) : rn step s (u ++ v) = rn step (rn step s u) v := by simp [rn]
/-- The words after m steps: step m takes letter m % k at place m / k. -/
def bw (k : Nat) (step : σ → Nat → σ) (first : σ) : Nat → List (List Nat)
  | 0 => [[]]
  | m + 1 => match (bw k step first m)[m / k]? with
    | none => bw k step first m
    | some w => if rn step first (w ++ [m % k]) ∈ (bw k step first m).map (rn step first) then bw k step first m else bw k step first m ++ [w ++ [m % k]]
/-- The states. -/
def bs (k : Nat) (step : σ → Nat → σ) (first : σ) (m : Nat) : List σ := (bw k step first m).map (rn step first)
variable {k : Nat} {step : σ → Nat → σ} {first : σ}
theorem bs_len (m : Nat) : (bs k step first m).length = (bw k step first m).length := by simp [bs]
theorem bw_none {m : Nat} (h : (bw k step first m)[m / k]? = none) : bw k step first (m + 1) = bw k step first m := by rw [bw, h]
theorem bw_some {m : Nat} {w : List Nat} (h : (bw k step first m)[m / k]? = some w) :
    bw k step first (m + 1) = if rn step first (w ++ [m % k]) ∈ bs k step first m then bw k step first m else bw k step first m ++ [w ++ [m % k]] := by rw [bw, h]; rfl
theorem bs_get {m i : Nat} : (bs k step first m)[i]? = ((bw k step first m)[i]?).map (rn step first) := by simp [bs]
theorem bs_next {m : Nat} {s : σ} (h : (bs k step first m)[m / k]? = some s) :
    bs k step first (m + 1) = if step s (m % k) ∈ bs k step first m then bs k step first m else bs k step first m ++ [step s (m % k)] := by
  rw [bs_get] at h
  obtain ⟨w, hw, rfl⟩ := Option.map_eq_some_iff.1 h
  have e := bw_some hw
  rw [rn_snoc] at e
  show (bw k step first (m + 1)).map _ = _
  rw [e]
  split
  · rfl
  · simp [bs, rn_snoc]
theorem bs_stop {m : Nat} (h : (bs k step first m)[m / k]? = none) : bs k step first (m + 1) = bs k step first m := by
  rw [bs_get] at h
  have := bw_none (k := k) (step := step) (first := first) (m := m) (by simpa using h)
  unfold bs; rw [this]
theorem bw_pre (m : Nat) : ∃ r, bw k step first (m + 1) = bw k step first m ++ r ∧ r.length ≤ 1 := by
  cases h : (bw k step first m)[m / k]? with
  | none => exact ⟨[], by rw [bw_none h]; simp, by simp⟩
  | some w =>
    rw [bw_some h]
    split
    · exact ⟨[], by simp, by simp⟩
    · exact ⟨[_], rfl, by simp⟩
theorem bw_more (m j : Nat) : ∃ r, bw k step first (m + j) = bw k step first m ++ r := by
  induction j with
  | zero => exact ⟨[], by simp⟩
  | succ j ih =>
    obtain ⟨r, hr⟩ := ih
    obtain ⟨r', hr', _⟩ := bw_pre (k := k) (step := step) (first := first) (m + j)
    exact ⟨r ++ r', by rw [← Nat.add_assoc, hr', hr, List.append_assoc]⟩
theorem bw_le {m m' : Nat} (h : m ≤ m') : (bw k step first m).length ≤ (bw k step first m').length := by
  obtain ⟨r, hr⟩ := bw_more (k := k) (step := step) (first := first) m (m' - m)
  rw [show m + (m' - m) = m' by omega] at hr
  rw [hr, List.length_append]; omega
theorem bw_keep {m m' i : Nat} {w : List Nat} (h : m ≤ m') (hi : (bw k step first m)[i]? = some w) : (bw k step first m')[i]? = some w := by
  obtain ⟨r, hr⟩ := bw_more (k := k) (step := step) (first := first) m (m' - m)
  rw [show m + (m' - m) = m' by omega] at hr
  have hl := (List.getElem?_eq_some_iff.1 hi).1
  rw [hr, List.getElem?_append_left hl]; exact hi
theorem bs_keep {m m' i : Nat} {s : σ} (h : m ≤ m') (hi : (bs k step first m)[i]? = some s) : (bs k step first m')[i]? = some s := by
  rw [bs_get] at hi ⊢
  obtain ⟨w, hw, rfl⟩ := Option.map_eq_some_iff.1 hi
  rw [bw_keep h hw]; rfl
theorem bs_mem {m m' : Nat} {s : σ} (h : m ≤ m') (hi : s ∈ bs k step first m) : s ∈ bs k step first m' := by
  obtain ⟨i, hi⟩ := List.mem_iff_getElem?.1 hi
  exact List.mem_of_getElem? (bs_keep h hi)
theorem bw_pos (m : Nat) : (bw k step first m)[0]? = some [] := bw_keep (Nat.zero_le m) rfl
theorem bs_pos (m : Nat) : (bs k step first m)[0]? = some first := bs_keep (Nat.zero_le m) rfl
theorem bw_len_pos (m : Nat) : 0 < (bw k step first m).length := (List.getElem?_eq_some_iff.1 (bw_pos (k := k) (step := step) (first := first) m)).1
theorem bs_nodup (m : Nat) : (bs k step first m).Nodup := by
  induction m with
  | zero => simp [bs, bw]
  | succ m ih =>
    cases h : (bs k step first m)[m / k]? with
    | none => rw [bs_stop h]; exact ih
    | some s =>
      rw [bs_next h]
      split
      · exact ih
      · rename_i hn
        rw [List.nodup_append]
        refine ⟨ih, by simp, fun a ha b hb => ?_⟩
        rintro rfl
        simp only [List.mem_singleton] at hb
        subst hb
        exact hn ha
theorem bs_uniq {m i j : Nat} {s : σ} (hi : (bs k step first m)[i]? = some s) (hj : (bs k step first m)[j]? = some s) : i = j := by
  obtain ⟨h1, h2⟩ := List.getElem?_eq_some_iff.1 hi
  obtain ⟨h3, h4⟩ := List.getElem?_eq_some_iff.1 hj
  exact (List.getElem_inj (bs_nodup m)).1 (h2.trans h4.symm)
theorem bw_stay {n m : Nat} (hk : 0 < k) (hn : (bw k step first (n * k)).length ≤ n) (h : n * k ≤ m) : bw k step first m = bw k step first (n * k) := by
  obtain ⟨j, rfl⟩ := Nat.exists_eq_add_of_le h
  clear h
  induction j with
  | zero => rfl
  | succ j ih =>
    rw [← Nat.add_assoc, bw_none, ih]
    rw [ih]
    refine List.getElem?_eq_none ?_
    have : n ≤ (n * k + j) / k := (Nat.le_div_iff_mul_le hk).2 (by omega)
    omega
/-- What a step leads to is there behind it. -/
theorem bs_step {m i c : Nat} {s : σ} (hk : c < k) (hi : (bs k step first m)[i]? = some s) (hm : i * k + c < m) (hi' : (bs k step first (i * k + c))[i]? = some s) : step s c ∈ bs k step first m := by
  have e1 : (i * k + c) / k = i := by rw [Nat.add_comm, Nat.add_mul_div_right _ _ (by omega), Nat.div_eq_of_lt hk, Nat.zero_add]
  have e2 : (i * k + c) % k = c := by rw [Nat.add_comm, Nat.add_mul_mod_self_right, Nat.mod_eq_of_lt hk]
  have h := bs_next (k := k) (step := step) (first := first) (m := i * k + c) (by rw [e1]; exact hi')
  rw [e2] at h
  refine bs_mem (m := i * k + c + 1) hm ?_
  rw [h]
  split
  · assumption
  · simp
/-- A place is filled before it is asked. -/
theorem bw_born {m i : Nat} {w : List Nat} (hk : 0 < k) (hi : (bw k step first m)[i]? = some w) : (bw k step first (i * k))[i]? = some w := by
  induction m with
  | zero =>
    cases i with
    | zero => simpa using hi
    | succ i => simp [bw] at hi
  | succ m ih =>
    by_cases hl : i < (bw k step first m).length
    · refine ih ?_
      have := bw_keep (Nat.le_succ m) (List.getElem?_eq_getElem hl)
      rw [hi] at this
      rw [this]; exact List.getElem?_eq_getElem hl
    · have hm : m / k < i := by
        apply Nat.lt_of_not_le
        intro hle
        have : (bw k step first (m + 1)).length ≤ (bw k step first m).length := by
          rw [bw_none]
          · exact Nat.le_refl _
          · exact List.getElem?_eq_none (by omega)
        have := (List.getElem?_eq_some_iff.1 hi).1
        omega
      have : m + 1 ≤ i * k := (Nat.div_lt_iff_lt_mul hk).1 hm
      exact bw_keep this hi
theorem bs_born {m i : Nat} {s : σ} (hk : 0 < k) (hi : (bs k step first m)[i]? = some s) : (bs k step first (i * k))[i]? = some s := by
  rw [bs_get] at hi ⊢
  obtain ⟨w, hw, rfl⟩ := Option.map_eq_some_iff.1 hi
  rw [bw_born hk hw]; rfl
/-- All places are asked. -/
def Closed (k : Nat) (step : σ → Nat → σ) (first : σ) (n : Nat) : Prop := (bw k step first (n * k)).length = n
theorem Closed.stay {n m : Nat} (hk : 0 < k) (h : Closed k step first n) (hm : n * k ≤ m) : bs k step first m = bs k step first (n * k) := by
  unfold bs; rw [bw_stay hk (Nat.le_of_eq h) hm]
theorem Closed.uniq {n m : Nat} (hk : 0 < k) (h : Closed k step first n) (h' : Closed k step first m) : n = m := by
  have key : ∀ a b, a ≤ b → Closed k step first a → Closed k step first b → a = b := fun a b hab ha hb => by
    have e := bw_stay hk (Nat.le_of_eq ha) (Nat.mul_le_mul_right k hab)
    unfold Closed at ha hb
    rw [e] at hb; omega
  rcases Nat.le_total n m with hl | hl
  · exact key n m hl h h'
  · exact (key m n hl h' h).symm
theorem Closed.move {n c : Nat} {s : σ} (h : Closed k step first n) (hc : c < k) (hs : s ∈ bs k step first (n * k)) : step s c ∈ bs k step first (n * k) := by
  obtain ⟨i, hi⟩ := List.mem_iff_getElem?.1 hs
  have hl := (List.getElem?_eq_some_iff.1 hi).1
  rw [bs_len, h] at hl
  have hlt : i * k + c < n * k := by
    have : (i + 1) * k ≤ n * k := Nat.mul_le_mul_right k hl
    rw [Nat.succ_mul] at this; omega
  exact bs_step hc hi hlt (bs_keep (by omega) (bs_born (by omega) hi))
theorem Closed.run {n : Nat} (h : Closed k step first n) : ∀ (w : List Nat), (∀ c ∈ w, c < k) → rn step first w ∈ bs k step first (n * k) := by
  intro w
  have key : ∀ (w : List Nat) (s : σ), (∀ c ∈ w, c < k) → s ∈ bs k step first (n * k) → rn step s w ∈ bs k step first (n * k) := by
    intro w
    induction w with
    | nil => intro s _ hs; exact hs
    | cons c r ih => intro s hc hs; exact ih (step s c) (fun d hd => hc d (List.mem_cons_of_mem _ hd)) (h.move (hc c List.mem_cons_self) hs)
  exact fun hw => key w first hw (List.mem_of_getElem? (bs_pos _))
/-- Places where letters lead, in order. -/
def nx (k : Nat) (step : σ → Nat → σ) (first : σ) : Nat → List Nat
  | 0 => []
  | m + 1 => match (bs k step first m)[m / k]? with
    | none => nx k step first m
    | some s => nx k step first m ++ [(bs k step first (m + 1)).idxOf (step s (m % k))]
theorem nx_next {m : Nat} {s : σ} (h : (bs k step first m)[m / k]? = some s) : nx k step first (m + 1) = nx k step first m ++ [(bs k step first (m + 1)).idxOf (step s (m % k))] := by rw [nx, h]
theorem nx_len {n m : Nat} (hn : n ≤ (bw k step first (n * k)).length) (hm : m ≤ n * k) : (nx k step first m).length = m := by
  induction m with
  | zero => rfl
  | succ m ih =>
    have hk : 0 < k := by cases k with | zero => simp at hm | succ k => omega
    have hlt : m / k < n := (Nat.div_lt_iff_lt_mul hk).2 (by omega)
    have hx : m / k < (bw k step first (n * k)).length := by omega
    obtain ⟨w, hw⟩ : ∃ w, (bw k step first (n * k))[m / k]? = some w := ⟨_, List.getElem?_eq_getElem hx⟩
    have hb := bw_keep (Nat.div_mul_le_self m k) (bw_born hk hw)
    have hs : (bs k step first m)[m / k]? = some (rn step first w) := by rw [bs_get, hb]; rfl
    rw [nx_next hs, List.length_append, ih (by omega)]; rfl
/-- Somewhere all is closed. -/
theorem closed_of {N : Nat} (h : ∀ m, (bs k step first m).length ≤ N) : ∃ n, n ≤ N ∧ Closed k step first n := by
  have key : ∀ i, (∃ n, n ≤ i ∧ Closed k step first n) ∨ i < (bw k step first (i * k)).length := by
    intro i
    induction i with
    | zero => exact .inr (bw_len_pos _)
    | succ i ih =>
      rcases ih with ⟨n, h1, h2⟩ | ih
      · exact .inl ⟨n, by omega, h2⟩
      · have h1 := bw_le (k := k) (step := step) (first := first) (Nat.mul_le_mul_right k (Nat.le_add_right i 1))
        by_cases e : (bw k step first ((i + 1) * k)).length = i + 1
        · exact .inl ⟨i + 1, Nat.le_refl _, e⟩
        · exact .inr (by omega)
  rcases key N with h1 | h1
  · exact h1
  · have := h (N * k)
    rw [bs_len] at this
    omega
theorem nx_pre {m : Nat} : ∃ r, nx k step first (m + 1) = nx k step first m ++ r := by
  rw [nx]
  split
  · exact ⟨[], by simp⟩
  · exact ⟨_, rfl⟩
theorem nx_more (m j : Nat) : ∃ r, nx k step first (m + j) = nx k step first m ++ r := by
  induction j with
  | zero => exact ⟨[], by simp⟩
  | succ j ih =>
    obtain ⟨r, hr⟩ := ih
    obtain ⟨r', hr'⟩ := nx_pre (k := k) (step := step) (first := first) (m := m + j)
    exact ⟨r ++ r', by rw [← Nat.add_assoc, hr', hr, List.append_assoc]⟩
theorem bs_idx {m m' : Nat} {s : σ} (h : m ≤ m') (hs : s ∈ bs k step first m) : (bs k step first m').idxOf s = (bs k step first m).idxOf s := by
  obtain ⟨r, hr⟩ := bw_more (k := k) (step := step) (first := first) m (m' - m)
  rw [show m + (m' - m) = m' by omega] at hr
  have : bs k step first m' = bs k step first m ++ r.map (rn step first) := by unfold bs; rw [hr, List.map_append]
  rw [this, List.idxOf_append, if_pos hs]
theorem bs_idx_get {m i : Nat} {s : σ} (hi : (bs k step first m)[i]? = some s) : (bs k step first m).idxOf s = i := by
  obtain ⟨h1, rfl⟩ := List.getElem?_eq_some_iff.1 hi
  exact List.Nodup.idxOf_getElem (bs_nodup m) i h1
theorem bs_idx_lt {m : Nat} {s : σ} (h : s ∈ bs k step first m) : (bs k step first m).idxOf s < (bs k step first m).length := List.idxOf_lt_length_of_mem h
theorem bs_at_idx {m : Nat} {s : σ} (h : s ∈ bs k step first m) : (bs k step first m)[(bs k step first m).idxOf s]? = some s := by
  rw [List.getElem?_eq_getElem (bs_idx_lt h), List.getElem_idxOf]
/-- Where letter c of place i leads: the place of the state it leads to. -/
theorem nx_get {n i c : Nat} {s : σ} (h : Closed k step first n) (hc : c < k) (hi : (bs k step first (n * k))[i]? = some s) : (nx k step first (n * k))[i * k + c]? = some ((bs k step first (n * k)).idxOf (step s c)) := by
  have hl := (List.getElem?_eq_some_iff.1 hi).1
  rw [bs_len, h] at hl
  have hlt : i * k + c < n * k := by
    have : (i + 1) * k ≤ n * k := Nat.mul_le_mul_right k hl
    rw [Nat.succ_mul] at this; omega
  have e1 : (i * k + c) / k = i := by rw [Nat.add_comm, Nat.add_mul_div_right _ _ (by omega), Nat.div_eq_of_lt hc, Nat.zero_add]
  have e2 : (i * k + c) % k = c := by rw [Nat.add_comm, Nat.add_mul_mod_self_right, Nat.mod_eq_of_lt hc]
  have hb : (bs k step first (i * k + c))[i]? = some s := bs_keep (by omega) (bs_born (by omega) hi)
  have hn := nx_next (k := k) (step := step) (first := first) (m := i * k + c) (by rw [e1]; exact hb)
  rw [e2] at hn
  have hlen := nx_len (k := k) (step := step) (first := first) (n := n) (m := i * k + c) (Nat.le_of_eq h.symm) (by omega)
  obtain ⟨r, hr⟩ := nx_more (k := k) (step := step) (first := first) (i * k + c + 1) (n * k - (i * k + c + 1))
  rw [show i * k + c + 1 + (n * k - (i * k + c + 1)) = n * k by omega] at hr
  have hm : step s c ∈ bs k step first (i * k + c + 1) := by
    have hx := bs_next (k := k) (step := step) (first := first) (m := i * k + c) (by rw [e1]; exact hb)
    rw [e2] at hx
    rw [hx]
    split
    · assumption
    · simp
  rw [hr, hn, List.getElem?_append_left (by simp [hlen]), List.getElem?_append_right (by omega), hlen, Nat.sub_self, bs_idx (m := i * k + c + 1) (m' := n * k) (by omega) hm]
  rfl
/-- All entries are places. -/
theorem nx_lt {m : Nat} : ∀ p ∈ nx k step first m, p < (bw k step first m).length := by
  induction m with
  | zero => intro p hp; cases hp
  | succ m ih =>
    intro p hp
    cases hs : (bs k step first m)[m / k]? with
    | none =>
      rw [nx, hs] at hp
      exact Nat.lt_of_lt_of_le (ih p hp) (bw_le (Nat.le_succ m))
    | some s =>
      rw [nx_next hs, List.mem_append] at hp
      rcases hp with hp | hp
      · exact Nat.lt_of_lt_of_le (ih p hp) (bw_le (Nat.le_succ m))
      · simp only [List.mem_singleton] at hp
        rw [hp, ← bs_len]
        refine bs_idx_lt ?_
        rw [bs_next hs]
        split
        · assumption
        · simp
/-- All letters of a list's words are letters. -/
theorem bw_let (hk : 0 < k) {m : Nat} : ∀ w ∈ bw k step first m, ∀ c ∈ w, c < k := by
  induction m with
  | zero => intro w hw c hc; simp [bw] at hw; subst hw; cases hc
  | succ m ih =>
    intro w hw c hc
    cases hs : (bw k step first m)[m / k]? with
    | none => rw [bw_none hs] at hw; exact ih w hw c hc
    | some v =>
      rw [bw_some hs] at hw
      split at hw
      · exact ih w hw c hc
      · rcases List.mem_append.1 hw with hw | hw
        · exact ih w hw c hc
        · simp only [List.mem_singleton] at hw
          subst hw
          rcases List.mem_append.1 hc with hc | hc
          · exact ih v (List.mem_of_getElem? hs) c hc
          · simp only [List.mem_singleton] at hc
            subst hc
            exact Nat.mod_lt _ hk
end
/-- Two spaces in which the same words lead to one state have the same words. -/
theorem bw_same {σ τ : Type} [DecidableEq σ] [DecidableEq τ] {k : Nat} {step : σ → Nat → σ} {first : σ} {step' : τ → Nat → τ} {first' : τ} (hk : 0 < k)
    (h : ∀ u v : List Nat, (∀ c ∈ u, c < k) → (∀ c ∈ v, c < k) → (rn step first u = rn step first v ↔ rn step' first' u = rn step' first' v)) (m : Nat) : bw k step first m = bw k step' first' m := by
  induction m with
  | zero => rfl
  | succ m ih =>
    cases hs : (bw k step first m)[m / k]? with
    | none => rw [bw_none hs, bw_none (by rw [← ih]; exact hs), ih]
    | some v =>
      have hv := bw_let hk v (List.mem_of_getElem? hs)
      have hvc : ∀ c ∈ v ++ [m % k], c < k := fun c hc => by
        rcases List.mem_append.1 hc with hc | hc
        · exact hv c hc
        · simp only [List.mem_singleton] at hc
          subst hc
          exact Nat.mod_lt _ hk
      rw [bw_some hs, bw_some (w := v) (by rw [← ih]; exact hs), ← ih]
      have : rn step first (v ++ [m % k]) ∈ bs k step first m ↔ rn step' first' (v ++ [m % k]) ∈ bs k step' first' m := by
        unfold bs
        rw [← ih, List.mem_map, List.mem_map]
        constructor
        · rintro ⟨u, hu, e⟩; exact ⟨u, hu, (h _ _ (bw_let hk u hu) hvc).1 e⟩
        · rintro ⟨u, hu, e⟩; exact ⟨u, hu, (h _ _ (bw_let hk u hu) hvc).2 e⟩
      by_cases hm : rn step first (v ++ [m % k]) ∈ bs k step first m
      · rw [if_pos hm, if_pos (this.1 hm)]
      · rw [if_neg hm, if_neg (fun hn => hm (this.2 hn))]
theorem idxOf_same {α σ τ : Type} [DecidableEq σ] [DecidableEq τ] (f : α → σ) (g : α → τ) (a : α) : ∀ L : List α, (∀ b ∈ L, f b = f a ↔ g b = g a) → (L.map f).idxOf (f a) = (L.map g).idxOf (g a)
  | [], _ => rfl
  | b :: r, h => by
    have ih := idxOf_same f g a r (fun c hc => h c (List.mem_cons_of_mem _ hc))
    have hb := h b List.mem_cons_self
    rw [List.map_cons, List.map_cons, List.idxOf_cons, List.idxOf_cons, ih]
    by_cases e : f b = f a
    · simp [e, hb.1 e]
    · have e' : ¬ g b = g a := fun he => e (hb.2 he)
      rw [show (f b == f a) = false by simpa using e, show (g b == g a) = false by simpa using e']
theorem nx_same {σ τ : Type} [DecidableEq σ] [DecidableEq τ] {k : Nat} {step : σ → Nat → σ} {first : σ} {step' : τ → Nat → τ} {first' : τ} (hk : 0 < k)
    (h : ∀ u v : List Nat, (∀ c ∈ u, c < k) → (∀ c ∈ v, c < k) → (rn step first u = rn step first v ↔ rn step' first' u = rn step' first' v)) (m : Nat) : nx k step first m = nx k step' first' m := by
  induction m with
  | zero => rfl
  | succ m ih =>
    have hw := bw_same hk h
    cases hs : (bw k step first m)[m / k]? with
    | none =>
      rw [nx, nx, bs_get, bs_get, ← hw m, hs]; exact ih
    | some v =>
      have hv := bw_let hk v (List.mem_of_getElem? hs)
      have hvc : ∀ c ∈ v ++ [m % k], c < k := fun c hc => by
        rcases List.mem_append.1 hc with hc | hc
        · exact hv c hc
        · simp only [List.mem_singleton] at hc
          subst hc
          exact Nat.mod_lt _ hk
      rw [nx_next (s := rn step first v) (by rw [bs_get, hs]; rfl), nx_next (s := rn step' first' v) (by rw [bs_get, ← hw m, hs]; rfl), ih, ← rn_snoc step, ← rn_snoc step']
      congr 2
      unfold bs
      rw [← hw (m + 1)]
      exact idxOf_same (rn step first) (rn step' first') (v ++ [m % k]) _ (fun b hb => h _ _ (bw_let hk b hb) hvc)
end Go.Proofs.Ytjckidjljkjhfaa

namespace Go.Proofs.Ytjckidjljkjhfaa
set_option linter.unusedSectionVars false
set_option linter.unusedVariables false
/-- Letter by letter. -/
def llt : List Nat → List Nat → Prop
  | a :: r, b :: s => a < b ∨ (a = b ∧ llt r s)
  | _, _ => False
/-- A word ahead of another: length first. -/
def slt (u v : List Nat) : Prop := u.length < v.length ∨ (u.length = v.length ∧ llt u v)
def sle (u v : List Nat) : Prop := u = v ∨ slt u v
theorem llt_irr : ∀ u, ¬ llt u u
  | [], h => h
  | a :: r, h => by
    rcases h with h | ⟨_, h⟩
    · omega
    · exact llt_irr r h
theorem llt_trans : ∀ {u v w : List Nat}, llt u v → llt v w → llt u w
  | [], _, _, h, _ => h.elim
  | _ :: _, [], _, h, _ => h.elim
  | _ :: _, _ :: _, [], _, h => h.elim
  | a :: r, b :: s, c :: t, h, h' => by
    rcases h with h | ⟨e, h⟩
    · rcases h' with h' | ⟨e', h'⟩
      · exact .inl (by omega)
      · exact .inl (by omega)
    · rcases h' with h' | ⟨e', h'⟩
      · exact .inl (by omega)
      · exact .inr ⟨by omega, llt_trans h h'⟩
theorem llt_tri : ∀ {u v : List Nat}, u.length = v.length → llt u v ∨ u = v ∨ llt v u
  | [], [], _ => .inr (.inl rfl)
  | [], _ :: _, h => by simp at h
  | _ :: _, [], h => by simp at h
  | a :: r, b :: s, h => by
    rcases Nat.lt_trichotomy a b with hab | hab | hab
    · exact .inl (.inl hab)
    · rcases llt_tri (u := r) (v := s) (by simpa using h) with h1 | h1 | h1
      · exact .inl (.inr ⟨hab, h1⟩)
      · exact .inr (.inl (by rw [hab, h1]))
      · exact .inr (.inr (.inr ⟨hab.symm, h1⟩))
    · exact .inr (.inr (.inl hab))
theorem llt_snoc : ∀ {u v : List Nat} (a b : Nat), llt u v → llt (u ++ [a]) (v ++ [b])
  | [], _, _, _, h => h.elim
  | _ :: _, [], _, _, h => h.elim
  | x :: r, y :: s, a, b, h => by
    rcases h with h | ⟨e, h⟩
    · exact .inl h
    · exact .inr ⟨e, llt_snoc a b h⟩
theorem llt_last : ∀ (u : List Nat) {a b : Nat}, a < b → llt (u ++ [a]) (u ++ [b])
  | [], _, _, h => .inl h
  | _ :: r, _, _, h => .inr ⟨rfl, llt_last r h⟩
theorem slt_irr (u : List Nat) : ¬ slt u u := fun h => by
  rcases h with h | ⟨_, h⟩
  · omega
  · exact llt_irr u h
theorem slt_trans {u v w : List Nat} (h : slt u v) (h' : slt v w) : slt u w := by
  rcases h with h | ⟨e, h⟩
  · rcases h' with h' | ⟨e', h'⟩
    · exact .inl (by omega)
    · exact .inl (by omega)
  · rcases h' with h' | ⟨e', h'⟩
    · exact .inl (by omega)
    · exact .inr ⟨by omega, llt_trans h h'⟩
theorem slt_tri (u v : List Nat) : slt u v ∨ u = v ∨ slt v u := by
  rcases Nat.lt_trichotomy u.length v.length with h | h | h
  · exact .inl (.inl h)
  · rcases llt_tri h with h1 | h1 | h1
    · exact .inl (.inr ⟨h, h1⟩)
    · exact .inr (.inl h1)
    · exact .inr (.inr (.inr ⟨h.symm, h1⟩))
  · exact .inr (.inr (.inl h))
theorem slt_snoc {u v : List Nat} (a b : Nat) (h : slt u v) : slt (u ++ [a]) (v ++ [b]) := by
  rcases h with h | ⟨e, h⟩
  · exact .inl (by simp; exact h)
  · exact .inr ⟨by simp; exact e, llt_snoc a b h⟩
theorem slt_last (u : List Nat) {a b : Nat} (h : a < b) : slt (u ++ [a]) (u ++ [b]) := .inr ⟨by simp, llt_last u h⟩
theorem slt_nil (u : List Nat) (a : Nat) : slt [] (u ++ [a]) := .inl (by simp)
theorem sle_trans {u v w : List Nat} (h : sle u v) (h' : sle v w) : sle u w := by
  rcases h with rfl | h
  · exact h'
  · rcases h' with rfl | h'
    · exact .inr h
    · exact .inr (slt_trans h h')
theorem sle_snoc {u v : List Nat} (a : Nat) (h : sle u v) : sle (u ++ [a]) (v ++ [a]) := by
  rcases h with rfl | h
  · exact .inl rfl
  · exact .inr (slt_snoc a a h)
theorem sle_nil (u : List Nat) : sle [] u := by
  cases u with
  | nil => exact .inl rfl
  | cons a r => exact .inr (.inl (by simp))
theorem sle_anti {u v : List Nat} (h : sle u v) (h' : sle v u) : u = v := by
  rcases h with h | h
  · exact h
  · rcases h' with h' | h'
    · exact h'.symm
    · exact absurd (slt_trans h h') (slt_irr u)
theorem sle_of_not {u v : List Nat} (h : ¬ slt u v) : sle v u := by
  rcases slt_tri u v with h1 | h1 | h1
  · exact absurd h1 h
  · exact .inl h1.symm
  · exact .inr h1
theorem not_slt {u v : List Nat} (h : sle v u) : ¬ slt u v := fun h' => by
  rcases h with rfl | h
  · exact slt_irr _ h'
  · exact slt_irr _ (slt_trans h h')
section
variable {σ : Type} [DecidableEq σ] {k : Nat} {step : σ → Nat → σ} {first : σ}
/-- Each word but the empty one is an earlier place's word and one letter. -/
theorem bw_from {m : Nat} : ∀ w ∈ bw k step first m, w = [] ∨ ∃ j v, j < m ∧ (bw k step first m)[j / k]? = some v ∧ w = v ++ [j % k] := by
  induction m with
  | zero => intro w hw; simp [bw] at hw; exact .inl hw
  | succ m ih =>
    intro w hw
    have lift : (w = [] ∨ ∃ j v, j < m ∧ (bw k step first m)[j / k]? = some v ∧ w = v ++ [j % k]) → w = [] ∨ ∃ j v, j < m + 1 ∧ (bw k step first (m + 1))[j / k]? = some v ∧ w = v ++ [j % k] := by
      rintro (h | ⟨j, v, h1, h2, h3⟩)
      · exact .inl h
      · exact .inr ⟨j, v, by omega, bw_keep (Nat.le_succ m) h2, h3⟩
    cases hs : (bw k step first m)[m / k]? with
    | none => rw [bw_none hs] at hw; exact lift (ih w hw)
    | some v =>
      have hb := bw_some hs
      by_cases hc : rn step first (v ++ [m % k]) ∈ bs k step first m
      · rw [if_pos hc] at hb
        rw [hb] at hw
        exact lift (ih w hw)
      · rw [if_neg hc] at hb
        rw [hb] at hw
        rcases List.mem_append.1 hw with hw | hw
        · exact lift (ih w hw)
        · simp only [List.mem_singleton] at hw
          exact .inr ⟨m, v, by omega, bw_keep (Nat.le_succ m) hs, hw⟩
theorem div_mod_lt {k j m : Nat} (hk : 0 < k) (h : j < m) : j / k < m / k ∨ (j / k = m / k ∧ j % k < m % k) := by
  rcases Nat.lt_or_ge (j / k) (m / k) with h1 | h1
  · exact .inl h1
  · have h2 : j / k ≤ m / k := Nat.div_le_div_right (by omega)
    have h3 := Nat.div_add_mod j k
    have h4 := Nat.div_add_mod m k
    have e : j / k = m / k := by omega
    rw [e] at h3
    exact .inr ⟨e, by omega⟩
/-- The words are in order. -/
theorem bw_sorted (hk : 0 < k) (m : Nat) : (bw k step first m).Pairwise slt := by
  induction m with
  | zero => simp [bw]
  | succ m ih =>
    cases hs : (bw k step first m)[m / k]? with
    | none => rw [bw_none hs]; exact ih
    | some v =>
      rw [bw_some hs]
      split
      · exact ih
      · rw [List.pairwise_append]
        refine ⟨ih, by simp, fun a ha b hb => ?_⟩
        simp only [List.mem_singleton] at hb
        subst hb
        rcases bw_from a ha with rfl | ⟨j, u, h1, h2, rfl⟩
        · exact slt_nil _ _
        · rcases div_mod_lt hk h1 with h3 | ⟨h3, h4⟩
          · obtain ⟨l1, e1⟩ := List.getElem?_eq_some_iff.1 h2
            obtain ⟨l2, e2⟩ := List.getElem?_eq_some_iff.1 hs
            have := List.pairwise_iff_getElem.1 ih _ _ l1 l2 h3
            rw [e1, e2] at this
            exact slt_snoc _ _ this
          · rw [h3, hs] at h2
            injection h2 with h2
            subst h2
            exact slt_last _ h4
theorem bw_lt {m i j : Nat} {u v : List Nat} (hk : 0 < k) (h : i < j) (hi : (bw k step first m)[i]? = some u) (hj : (bw k step first m)[j]? = some v) : slt u v := by
  obtain ⟨l1, e1⟩ := List.getElem?_eq_some_iff.1 hi
  obtain ⟨l2, e2⟩ := List.getElem?_eq_some_iff.1 hj
  have := List.pairwise_iff_getElem.1 (bw_sorted hk m) _ _ l1 l2 h
  rw [e1, e2] at this
  exact this
theorem bw_inj {m i j : Nat} {u : List Nat} (hi : (bw k step first m)[i]? = some u) (hj : (bw k step first m)[j]? = some u) : i = j :=
  bs_uniq (k := k) (step := step) (first := first) (m := m) (s := rn step first u) (by rw [bs_get, hi]; rfl) (by rw [bs_get, hj]; rfl)
/-- A place's word is no longer than the place's number. -/
theorem bw_short {m i : Nat} {w : List Nat} (hk : 0 < k) (hi : (bw k step first m)[i]? = some w) : w.length ≤ i := by
  induction i using Nat.strongRecOn generalizing w with
  | ind i ih =>
    rcases bw_from w (List.mem_of_getElem? hi) with rfl | ⟨j, v, h1, h2, rfl⟩
    · simp
    · have hlt : j / k < i := by
        apply Nat.lt_of_not_le
        intro hle
        rcases Nat.lt_or_ge i (j / k) with h3 | h3
        · have := bw_lt hk h3 hi h2
          rcases this with h | ⟨h, _⟩ <;> simp at h <;> omega
        · have e : i = j / k := by omega
          rw [← e, hi] at h2
          injection h2 with h2
          have := congrArg List.length h2
          simp at this
      have := ih _ hlt h2
      simp; omega
/-- Each state that a word leads to is there, by a word no later. -/
theorem bw_least (hk : 0 < k) {n : Nat} (h : Closed k step first n) : ∀ u : List Nat, (∀ c ∈ u, c < k) → ∃ w ∈ bw k step first (n * k), rn step first w = rn step first u ∧ sle w u := by
  intro u
  generalize hl : u.length = l
  induction l generalizing u with
  | zero =>
    intro _
    obtain rfl : u = [] := List.length_eq_zero_iff.1 hl
    exact ⟨[], List.mem_of_getElem? (bw_pos _), rfl, .inl rfl⟩
  | succ l ih =>
    intro hu
    obtain ⟨v, c, rfl⟩ : ∃ v c, u = v ++ [c] := ⟨u.dropLast, u.getLast (by intro e; simp [e] at hl), (List.dropLast_concat_getLast _).symm⟩
    have hc : c < k := hu c (by simp)
    obtain ⟨w, hw, e, hle⟩ := ih v (by simpa using hl) (fun d hd => hu d (by simp [hd]))
    obtain ⟨i, hi⟩ := List.mem_iff_getElem?.1 hw
    have hil := (List.getElem?_eq_some_iff.1 hi).1
    have hin : i < n := by rw [h] at hil; exact hil
    have hlt : i * k + c < n * k := by
      have : (i + 1) * k ≤ n * k := Nat.mul_le_mul_right k hin
      rw [Nat.succ_mul] at this; omega
    have e1 : (i * k + c) / k = i := by rw [Nat.add_comm, Nat.add_mul_div_right _ _ (by omega), Nat.div_eq_of_lt hc, Nat.zero_add]
    have e2 : (i * k + c) % k = c := by rw [Nat.add_comm, Nat.add_mul_mod_self_right, Nat.mod_eq_of_lt hc]
    have hb : (bw k step first (i * k + c))[(i * k + c) / k]? = some w := by rw [e1]; exact bw_keep (by omega) (bw_born hk hi)
    have hs := bw_some hb
    rw [e2] at hs
    have er : rn step first (v ++ [c]) = rn step first (w ++ [c]) := by rw [rn_snoc, rn_snoc, e]
    by_cases hm : rn step first (w ++ [c]) ∈ bs k step first (i * k + c)
    · obtain ⟨x, hx, ex⟩ := List.mem_map.1 hm
      obtain ⟨q, hq⟩ := List.mem_iff_getElem?.1 hx
      refine ⟨x, List.mem_of_getElem? (bw_keep (by omega : i * k + c ≤ n * k) hq), by rw [ex, er], ?_⟩
      refine sle_trans ?_ (sle_snoc c hle)
      rcases bw_from x hx with rfl | ⟨j, y, h1, h2, rfl⟩
      · exact sle_nil _
      · rcases div_mod_lt hk h1 with h3 | ⟨h3, h4⟩
        · exact .inr (slt_snoc _ _ (bw_lt hk h3 h2 hb))
        · rw [h3, hb] at h2
          injection h2 with h2
          subst h2
          rw [e2] at h4
          exact .inr (slt_last _ h4)
    · rw [if_neg hm] at hs
      refine ⟨w ++ [c], ?_, er.symm, sle_snoc c hle⟩
      obtain ⟨r, hr⟩ := bw_more (k := k) (step := step) (first := first) (i * k + c + 1) (n * k - (i * k + c + 1))
      rw [show i * k + c + 1 + (n * k - (i * k + c + 1)) = n * k by omega] at hr
      rw [hr, hs]
      simp
/-- The first place that is looked for. -/
def fnd (k : Nat) (step : σ → Nat → σ) (first : σ) (good : σ → Bool) (n : Nat) : Option (List Nat) := (bw k step first (n * k)).find? fun w => good (rn step first w)
/-- A word of these letters, one that is looked for, and none is ahead of it. -/
structure Least (k : Nat) (P : List Nat → Prop) (w : List Nat) : Prop where
  letters : ∀ c ∈ w, c < k
  is : P w
  least : ∀ u, (∀ c ∈ u, c < k) → P u → sle w u
theorem Least.uniq {k : Nat} {P Q : List Nat → Prop} {u v : List Nat} (h : Least k P u) (h' : Least k Q v) (hPQ : ∀ w, (∀ c ∈ w, c < k) → (P w ↔ Q w)) : u = v :=
  sle_anti (h.least v h'.letters ((hPQ v h'.letters).2 h'.is)) (h'.least u h.letters ((hPQ u h.letters).1 h.is))
theorem fnd_least (hk : 0 < k) {good : σ → Bool} {n : Nat} (h : Closed k step first n) {w : List Nat} (hw : fnd k step first good n = some w) : Least k (fun u => good (rn step first u) = true) w := by
  obtain ⟨h1, l1, l2, h2, h3⟩ := List.find?_eq_some_iff_append.1 hw
  have hmem : w ∈ bw k step first (n * k) := by rw [h2]; simp
  refine ⟨bw_let hk w hmem, h1, fun u hu hg => ?_⟩
  obtain ⟨v, hv, e, hle⟩ := bw_least hk h u hu
  refine sle_trans ?_ hle
  have hs := bw_sorted (k := k) (step := step) (first := first) hk (n * k)
  rw [h2] at hv hs
  rcases List.mem_append.1 hv with hv | hv
  · have := h3 v hv
    rw [e, hg] at this
    cases this
  · rcases List.mem_cons.1 hv with rfl | hv
    · exact .inl rfl
    · exact .inr ((List.pairwise_cons.1 (List.pairwise_append.1 hs).2.1).1 v hv)
theorem fnd_none (hk : 0 < k) {good : σ → Bool} {n : Nat} (h : Closed k step first n) (hw : fnd k step first good n = none) : ∀ u : List Nat, (∀ c ∈ u, c < k) → good (rn step first u) = false := by
  intro u hu
  obtain ⟨v, hv, e, _⟩ := bw_least hk h u hu
  have := List.find?_eq_none.1 hw v hv
  rw [e] at this
  simpa using this
theorem fnd_short (hk : 0 < k) {good : σ → Bool} {n : Nat} (h : Closed k step first n) {w : List Nat} (hw : fnd k step first good n = some w) : w.length < n := by
  obtain ⟨i, hi⟩ := List.mem_iff_getElem?.1 (List.mem_of_find?_eq_some hw)
  have h1 := bw_short hk hi
  have h2 := (List.getElem?_eq_some_iff.1 hi).1
  rw [h] at h2
  omega
end
end Go.Proofs.Ytjckidjljkjhfaa

namespace Go.Proofs.Ytjckidjljkjhfaa
open Go.RowKit Go.Proofs.YtjckidjljkjhfaaW.PrintWords
/-- The cells of a list of images. -/
def img (l : List Nat) : Array Value := (l.map (fun (n : Nat) => Value.int .i64 n)).toArray
theorem img_size (l : List Nat) : (img l).size = l.length := by simp [img]
theorem img_get (l : List Nat) (i : Nat) (h : i < l.length) : (img l)[i]? = some (.int .i64 (l.getD i 0 : Nat)) := by
  simp [img, List.getElem?_eq_getElem h]
theorem img_set (l : List Nat) (i v : Nat) : (img l).setIfInBounds i (.int .i64 v) = img (l.set i v) := by
  simp [img, List.map_set]
theorem img_one (l : List Nat) : (img l).all (·.oneCell') = true := by
  simp [img, Value.oneCell']

theorem made_img (n : Nat) : madeCells (#[.int .i64 0] : Array Value) n = img (List.replicate n 0) := by
  apply Array.ext (by simp [size_madeCells, img])
  intro i h1 h2
  simp [madeCells, img, Nat.mod_one]
theorem info_int : (Try.prog.info? 3).map (fun i => (i.zero, i.size, i.bytes)) = some (some (.int .i64 0), 1, 8) := by kernel_rfl
theorem wpl_make {ops : Array Oper} {rest : List Oper} {o : Oper} {a : Act} {w : World} {Q : Exit → Act → World → Prop} (n : Nat) (hn : n ≤ 1000000) (hgd : o.guard = none) (l c : Operand) (ho : o.op = .makeSlice 22 l c)
    (hl : a.eval l = .int .i64 n) (hc : a.eval c = .int .i64 n)
    (h : wpList Try.prog ops Q rest (a.put o.dst (.slice (some ⟨w.heap.size, 0, none⟩) n n)) (w.alloc (.cells (img (List.replicate n 0)) 3))) : wpList Try.prog ops Q (o :: rest) a w := by
  obtain ⟨i0, hi, hz0, hz1, hz2⟩ := info_parts info_int
  have hr := run_make (P := Try.prog) w 22 3 i0 (.int .i64 0) Try.underlying22 hi hz0 .i64 .i64 n n (by omega) (Int.le_refl _) (by rw [hz2]; omega) (by omega)
  simp only [Int.toNat_natCast] at hr
  refine wpList_plain hgd fun K hK' => ?_
  unfold Oper.wp
  rw [hz1, Nat.mul_one, show (Value.int IntKind.i64 0).cells = #[.int .i64 0] from rfl, made_img] at hr
  simp [execOp, ho, hl, hc, hr, Result.andThen]
  exact hK' _ _ h
/-- A list of the call's own. -/
abbrev Own (w : World) (base : Nat) (v : Value) (l : List Int) : Prop := Kd.R (Kd.int .i64) 3 w base (fun _ => True) v l
theorem C_block {w : World} {g : Nat} {cs : Array Value} {t : TypeId} {fr : Nat × Nat} (l : List Int) (h : w.heap[g]? = some (.cells cs t fr)) (hmax : l.length ≤ 9223372036854775807)
    (hc : ∀ j, j < l.length → cs[j]? = some (.int .i64 (l.getD j 0))) : Kd.C (Kd.int .i64) w (some ⟨g, 0, none⟩) l.length l := by
  refine Kd.C_of_reads (enc := Value.int .i64) (d := (0 : Int)) (h1 := fun _ => rfl) ⟨rfl, hmax, fun _ => ⟨⟨g, 0, none⟩, rfl, fun j hj => ?_⟩⟩
  rw [add_plain, cell_of_row _ _ _ _ _ _ h, hc j hj]
def zl (l : List Nat) : List Int := l.map fun (n : Nat) => (n : Int)
theorem zl_len (l : List Nat) : (zl l).length = l.length := by simp [zl]
theorem zl_rd (l : List Nat) (i : Nat) : rd (zl l) i = ((l.getD i 0 : Nat) : Int) := by
  unfold rd zl
  rw [Int.toNat_natCast]
  simp only [List.getD_eq_getElem?_getD, List.getElem?_map]
  cases l[i]? <;> rfl
/-- The least point that goes where i goes. -/
def kr (L : List Nat) (i : Nat) : Nat := ((List.range (i + 1)).find? fun k => L.getD k 0 == L.getD i 0).getD 0
theorem kr_eq {L : List Nat} {i j : Nat} (hj : j ≤ i) (h : ∀ k, k < j → L.getD k 0 ≠ L.getD i 0) (he : L.getD j 0 = L.getD i 0) : kr L i = j := by
  have : (List.range (i + 1)).find? (fun k => L.getD k 0 == L.getD i 0) = some j := by
    rw [List.find?_range_eq_some]
    refine ⟨by simpa using he, by simp; omega, fun k hk => by simpa using h k hk⟩
  unfold kr
  rw [this]; rfl
theorem kr_spec (L : List Nat) (i : Nat) : kr L i ≤ i ∧ L.getD (kr L i) 0 = L.getD i 0 ∧ ∀ k, k < kr L i → L.getD k 0 ≠ L.getD i 0 := by
  have hex : ∃ j, j ≤ i ∧ (∀ k, k < j → L.getD k 0 ≠ L.getD i 0) ∧ L.getD j 0 = L.getD i 0 := by
    have key : ∀ m, (∃ j, j ≤ m ∧ L.getD j 0 = L.getD i 0) → ∃ j, j ≤ m ∧ (∀ k, k < j → L.getD k 0 ≠ L.getD i 0) ∧ L.getD j 0 = L.getD i 0 := by
      intro m
      induction m using Nat.strongRecOn with
      | ind m ih =>
        rintro ⟨j, hj, he⟩
        by_cases hk : ∃ k, k < j ∧ L.getD k 0 = L.getD i 0
        · obtain ⟨k, hk, hke⟩ := hk
          obtain ⟨j', h1, h2, h3⟩ := ih k (by omega) ⟨k, Nat.le_refl _, hke⟩
          exact ⟨j', by omega, h2, h3⟩
        · exact ⟨j, hj, fun k hkj hke => hk ⟨k, hkj, hke⟩, he⟩
    exact key i ⟨i, Nat.le_refl _, rfl⟩
  obtain ⟨j, h1, h2, h3⟩ := hex
  rw [kr_eq h1 h2 h3]
  exact ⟨h1, h3, h2⟩
theorem kr_congr {L M : List Nat} {i : Nat} (h : ∀ k, k ≤ i → L.getD k 0 = M.getD k 0) : kr L i = kr M i := by
  obtain ⟨h1, h2, h3⟩ := kr_spec M i
  refine kr_eq h1 (fun k hk => ?_) ?_
  · rw [h k (by omega), h i (Nat.le_refl _)]; exact h3 k hk
  · rw [h _ h1, h i (Nat.le_refl _)]; exact h2
def krl (l : List Nat) : List Nat := (List.range l.length).map (kr l)
theorem krl_len (l : List Nat) : (krl l).length = l.length := by simp [krl]
/-- The list while point k stands at j. -/
def krp (L : List Nat) (n k j : Nat) : List Nat := (List.range n).map fun i => if i < k then kr L i else if i = k then j else 0
theorem krp_len (L : List Nat) (n k j : Nat) : (krp L n k j).length = n := by simp [krp]
theorem krp_start (L : List Nat) (n : Nat) : krp L n 0 0 = List.replicate n 0 := by
  apply List.ext_getElem (by simp [krp])
  intro i h1 h2
  simp [krp]
theorem krp_get (L : List Nat) (n k j : Nat) (h : k < n) : (krp L n k j).getD k 0 = j := by simp [krp, List.getD_eq_getElem?_getD, h]
theorem krp_set (L : List Nat) (n k j x : Nat) : (krp L n k j).set k x = krp L n k x := by
  apply List.ext_getElem (by simp [krp])
  intro i h1 h2
  simp only [krp, List.getElem_set, List.getElem_map, List.getElem_range]
  by_cases e : k = i
  · subst e; simp
  · rw [if_neg e]
    by_cases hi : i < k
    · simp [hi]
    · simp [hi, show i ≠ k by omega]
theorem krp_next (L : List Nat) (n k : Nat) : krp L n k (kr L k) = krp L n (k + 1) 0 := by
  apply List.ext_getElem (by simp [krp])
  intro i h1 h2
  simp only [krp, List.getElem_map, List.getElem_range]
  by_cases hi : i < k
  · simp [hi, show i < k + 1 by omega]
  · by_cases e : i = k
    · subst e; simp
    · simp [hi, e, show ¬ i < k + 1 by omega]
theorem krp_end {L l : List Nat} {n : Nat} (hl : l.length = n) (h : ∀ i, i < n → l.getD i 0 = L.getD i 0) : krp L n n 0 = krl l := by
  apply List.ext_getElem (by simp [krp, krl, hl])
  intro i h1 h2
  have hi : i < n := by rw [krp_len] at h1; exact h1
  simp only [krp, krl, List.getElem_map, List.getElem_range, if_pos hi]
  exact (kr_congr fun k hk => h k (by omega)).symm
/-- A row of the call's own, as a list. -/
theorem own_img {w : World} {g base : Nat} {l : List Nat} {n : Nat} (h : w.heap[g]? = some (.cells (img l) 3 (0, 0))) (hb : base ≤ g) (hl : l.length = n) (hn : n ≤ 1000000) : Own w base (.slice (some ⟨g, 0, none⟩) n n) (zl l) := by
  refine Kd.R_of_own ⟨by simp [encs, zl, hl], .inr ⟨g, n, img l, by simp [zl, hl], hb, h, by simp [zl, hl], by unfold maxLen; omega, by rw [img_size, hl]; omega, ?_⟩⟩ (fun _ _ => trivial)
  rw [zl_len, hl, Nat.mul_one, List.take_of_length_le (by simp [img, hl])]
  simp [img, encs, zl]
theorem own_slice {w : World} {base : Nat} {v : Value} {l : List Nat} (k : Nat) (hk : l.length = k) (h : Own w base v (zl l)) : ∃ A c, v = .slice A k c ∧ k ≤ c ∧ Kd.C (Kd.int .i64) w A k (zl l) := by
  obtain ⟨A, c, h1, h2, h3⟩ := Kd.R_reads h
  rw [zl_len, hk] at *
  exact ⟨A, c, h1, h2, h3⟩
end Go.Proofs.Ytjckidjljkjhfaa

namespace Go.Proofs.Ytjckidjljkjhfaa
open Go.RowKit Go.ChangeMaps Go.Proofs.YtjckidjljkjhfaaW.PrintWords
open Go.Maps (Keyed)
set_option linter.unusedVariables false
set_option linter.unusedSectionVars false
section
variable {σ : Type} [DecidableEq σ]
/-- Each state with its number. -/
def nents (enc : σ → Value) (L : List σ) : List (Value × Value) := L.zipIdx.map fun p => (enc p.1, .int .i64 (p.2 : Int))
theorem nents_snoc (enc : σ → Value) (L : List σ) (s : σ) : nents enc (L ++ [s]) = nents enc L ++ [(enc s, .int .i64 (L.length : Int))] := by
  simp [nents, List.zipIdx_append]
theorem nents_mem {enc : σ → Value} {L : List σ} {p : Value × Value} (h : p ∈ nents enc L) : ∃ (i : Nat) (s : σ), L[i]? = some s ∧ p = (enc s, .int .i64 (i : Int)) := by
  obtain ⟨⟨s, i⟩, hq, rfl⟩ := List.mem_map.1 h
  exact ⟨i, s, List.mem_zipIdx_iff_getElem?.1 hq, rfl⟩
theorem nents_of {enc : σ → Value} {L : List σ} {i : Nat} {s : σ} (h : L[i]? = some s) : (enc s, Value.int .i64 (i : Int)) ∈ nents enc L :=
  List.mem_map.2 ⟨(s, i), List.mem_zipIdx_iff_getElem?.2 h, rfl⟩
variable {P : Program} {k e t : TypeId} {w : World} {b : Nat} {enc : σ → Value} {L : List σ} {s : σ}
theorem nents_keys (hL : ∀ s ∈ L, ∃ q, keyOf P k (enc s) = some q) : ∀ p ∈ nents enc L, ∃ q, keyOf P k p.1 = some q := fun p hp => by
  obtain ⟨i, s, h, rfl⟩ := nents_mem hp
  exact hL s (List.mem_of_getElem? h)
/-- A look-up tells whether it is there, and its number. -/
theorem nents_look (h : MapIs w b (nents enc L)) (K : Keyed P k) (hinj : ∀ s t, enc s = enc t → s = t) (hnd : L.Nodup) (hL : ∀ s ∈ L, ∃ q, keyOf P k (enc s) = some q) (hs : ∃ q, keyOf P k (enc s) = some q) (ht : P.underlying t = some (.map k e)) (hz : (zeroValue e).run P w = .ok (.int .i64 0) w) (c : Bool) :
    (Instr.lookup t (.map (some b)) (enc s) c).run P w = .ok (if s ∈ L then (if c then .tuple #[.int .i64 ((L.idxOf s : Nat) : Int), .bool true] else .int .i64 ((L.idxOf s : Nat) : Int)) else (if c then .tuple #[.int .i64 0, .bool false] else .int .i64 0)) w := by
  obtain ⟨q, hq⟩ := hs
  by_cases hm : s ∈ L
  · rw [if_pos hm]
    have hi : L[L.idxOf s]? = some s := by rw [List.getElem?_eq_getElem (List.idxOf_lt_length_of_mem hm), List.getElem_idxOf]
    refine h.look_yes K (nents_keys hL) ht hz hq ⟨_, nents_of hi, rfl⟩ (fun p hp he => ?_) c
    obtain ⟨i, t', h1, rfl⟩ := nents_mem hp
    obtain rfl := hinj _ _ he
    obtain ⟨h2, h3⟩ := List.getElem?_eq_some_iff.1 h1
    have := List.Nodup.idxOf_getElem hnd i h2
    rw [h3] at this
    simp [this]
  · rw [if_neg hm]
    refine h.look_no K (nents_keys hL) ht hz hq (fun p hp he => ?_) c
    obtain ⟨i, t', h1, rfl⟩ := nents_mem hp
    obtain rfl := hinj _ _ he
    exact hm (List.mem_of_getElem? h1)
theorem nents_put (h : MapIs w b (nents enc L)) (K : Keyed P k) (hinj : ∀ s t, enc s = enc t → s = t) (hL : ∀ s ∈ L, ∃ q, keyOf P k (enc s) = some q) (hs : ∃ q, keyOf P k (enc s) = some q) (ht : P.underlying t = some (.map k e)) (hm : s ∉ L) :
    ∃ w', (Instr.mapUpdate t (.map (some b)) (enc s) (.int .i64 (L.length : Int))).run P w = .ok () w' ∧ MapIs w' b (nents enc (L ++ [s])) ∧ Turned w w' b := by
  obtain ⟨q, hq⟩ := hs
  rw [nents_snoc]
  refine h.put K (nents_keys hL) ht hq (fun p hp he => ?_) _
  obtain ⟨i, t', h1, rfl⟩ := nents_mem hp
  obtain rfl := hinj _ _ he
  exact hm (List.mem_of_getElem? h1)
/-- Each state marked by a one. -/
def ments (enc : σ → Value) (L : List σ) : List (Value × Value) := L.map fun s => (enc s, .int .i64 1)
theorem ments_snoc (enc : σ → Value) (L : List σ) (s : σ) : ments enc (L ++ [s]) = ments enc L ++ [(enc s, .int .i64 1)] := by simp [ments]
theorem ments_keys (hL : ∀ s ∈ L, ∃ q, keyOf P k (enc s) = some q) : ∀ p ∈ ments enc L, ∃ q, keyOf P k p.1 = some q := fun p hp => by
  obtain ⟨s, h, rfl⟩ := List.mem_map.1 hp
  exact hL s h
theorem ments_look (h : MapIs w b (ments enc L)) (K : Keyed P k) (hinj : ∀ s t, enc s = enc t → s = t) (hL : ∀ s ∈ L, ∃ q, keyOf P k (enc s) = some q) (hs : ∃ q, keyOf P k (enc s) = some q) (ht : P.underlying t = some (.map k e)) (hz : (zeroValue e).run P w = .ok (.int .i64 0) w) :
    (Instr.lookup t (.map (some b)) (enc s) false).run P w = .ok (.int .i64 (if s ∈ L then 1 else 0)) w := by
  obtain ⟨q, hq⟩ := hs
  by_cases hm : s ∈ L
  · rw [if_pos hm]
    exact h.look_yes K (ments_keys hL) ht hz hq ⟨_, List.mem_map.2 ⟨s, hm, rfl⟩, rfl⟩ (fun p hp he => by obtain ⟨t', h1, rfl⟩ := List.mem_map.1 hp; rfl) false
  · rw [if_neg hm]
    refine h.look_no K (ments_keys hL) ht hz hq (fun p hp he => ?_) false
    obtain ⟨t', h1, rfl⟩ := List.mem_map.1 hp
    obtain rfl := hinj _ _ he
    exact hm h1
theorem ments_put (h : MapIs w b (ments enc L)) (K : Keyed P k) (hinj : ∀ s t, enc s = enc t → s = t) (hL : ∀ s ∈ L, ∃ q, keyOf P k (enc s) = some q) (hs : ∃ q, keyOf P k (enc s) = some q) (ht : P.underlying t = some (.map k e)) (hm : s ∉ L) :
    ∃ w', (Instr.mapUpdate t (.map (some b)) (enc s) (.int .i64 1)).run P w = .ok () w' ∧ MapIs w' b (ments enc (L ++ [s])) ∧ Turned w w' b := by
  obtain ⟨q, hq⟩ := hs
  rw [ments_snoc]
  refine h.put K (ments_keys hL) ht hq (fun p hp he => ?_) _
  obtain ⟨t', h1, rfl⟩ := List.mem_map.1 hp
  obtain rfl := hinj _ _ he
  exact hm h1
end
section
variable {P : Program} {ops : Array Oper} {rest : List Oper} {o : Oper} {a : Act} {w : World} {Q : Exit → Act → World → Prop}
theorem gate_ins {t : TypeId} {m k v : Operand} (_ho : o.op = .insert t m k v) (h : wpList P ops Q (o :: rest) a w) : wpList P ops Q (o :: rest) a w := h
theorem gate_put {t : TypeId} {m k v : Operand} (_ho : o.op = .mapUpdate t m k v) (h : wpList P ops Q (o :: rest) a w) : wpList P ops Q (o :: rest) a w := h
theorem gate_look {t : TypeId} {m k : Operand} {c : Bool} (_ho : o.op = .lookup t m k c) (h : wpList P ops Q (o :: rest) a w) : wpList P ops Q (o :: rest) a w := h
theorem gate_st {t : TypeId} {p v : Operand} (_ho : o.op = .store t p v) (h : wpList P ops Q (o :: rest) a w) : wpList P ops Q (o :: rest) a w := h
theorem gate_ld {t : TypeId} {p : Operand} (_ho : o.op = .load t p) (h : wpList P ops Q (o :: rest) a w) : wpList P ops Q (o :: rest) a w := h
/-- An entry of a literal. -/
theorem mp_ins (m x v : Operand) (t : TypeId) (hop : o.op = .insert t m x v) (mv key val : Value) (hm : a.eval m = mv) (hx : a.eval x = key) (hv : a.eval v = val) (hw : Region.wanted o (yielded ops a.tmps) = true) {w' : World} (hrun : (Instr.mapUpdate t mv key val).run P w = .ok () w')
    (h : wpList P ops Q rest (a.put o.dst undef) w') : wpList P ops Q (o :: rest) a w :=
  wpList_step fun K hK => by
    rw [if_pos hw]
    unfold Oper.wp execOp
    simp only [hop, hm, hx, hv, Sem.run_bind, hrun, Result.andThen_ok, Sem.run_pure]
    exact hK _ _ h
end
theorem zl_get (l : List Nat) (i : Nat) : (zl l).getD i 0 = ((l.getD i 0 : Nat) : Int) := by
  have h := zl_rd l i
  unfold Go.Proofs.YtjckidjljkjhfaaW.PrintWords.rd at h
  rwa [Int.toNat_natCast] at h
theorem zl_snoc (l : List Nat) (n : Nat) : zl (l ++ [n]) = zl l ++ [(n : Int)] := by simp [zl]
theorem info_bool : (Try.prog.info? 4).map (fun i => (i.zero, i.size, i.bytes)) = some (some (.bool false), 1, 1) := by kernel_rfl
/-! Own lists beside one another. -/
/-- Two lists of the call's own do not share a row. -/
def sep (u v : Value) : Prop := ∀ k, u.ownBlock = some k → v.ownBlock ≠ some k
theorem sep.symm {u v : Value} (h : sep u v) : sep v u := fun k h1 h2 => h k h2 h1
theorem sep_nil (v : Value) : sep v (.slice none 0 0) := fun k _ h => by simp [Value.ownBlock] at h
/-- An append has been made: u became u'. -/
structure App (W w1 : World) (u u' : Value) : Prop where
  gr : W.grownBy w1 u.ownBlock
  at_ : u'.ownBlock = u.ownBlock ∨ ∃ b, u'.ownBlock = some b ∧ W.heap.size ≤ b
section
variable {α β : Type} {d : Kd α} {d' : Kd β} {e e' : Nat} {W w1 : World} {base : Nat} {ok ok' : Nat → Prop} {u u' v : Value} {xs : List α} {ys : List β}
theorem R_flat (hE : d.E = []) (h : d.R e W base ok v xs) (h' : ∀ k, v.ownBlock = some k → ok' k) : d.R e W base ok' v xs := by
  obtain ⟨h0, inner, ho, hr⟩ := h
  refine ⟨h', inner, ho, hr.imp_ (fun _ _ hp => d.M_mono (fun k hk => ?_) (d.M_bound hp))⟩
  obtain ⟨_, _, _, q, hq, _⟩ := hk
  rw [hE] at hq
  cases hq
theorem App.own (h : App W w1 u u') (hE : d'.E = []) (ho : d'.R e' W base ok' v ys) (hs : sep v u) : d'.R e' w1 base ok' v ys ∧ sep v u' := by
  refine ⟨R_flat hE (Kd.R_grown (R_flat (ok' := fun k => v.ownBlock = some k) hE ho (fun k hk => hk)) h.gr (fun k hk he => hs k hk he.symm)) ho.1, fun k hk he => ?_⟩
  rcases h.at_ with h1 | ⟨b, h1, h2⟩
  · rw [h1] at he; exact hs k hk he
  · rw [h1] at he
    injection he with he
    have := Kd.R_lt ho k hk
    omega
theorem App.blk {g : Nat} {o : Obj} (h : App W w1 u u') (hg : W.heap[g]? = some o) (hne : some g ≠ u.ownBlock) : w1.heap[g]? = some o := (h.gr.block g (hp_lt hg) hne).trans hg
theorem App.map {b : Nat} {l : List (Value × Value)} (h : App W w1 u u') (hm : MapIs W b l) (ho : d.R e W base ok u xs) : MapIs w1 b l := by
  obtain ⟨es, c, h1, h2⟩ := hm
  refine ⟨es, c, h.blk h1 (fun he => ?_), h2⟩
  obtain ⟨inner, hi⟩ := Kd.R_own ho
  obtain ⟨cells, hc⟩ := own_typed hi b he.symm
  rw [h1] at hc
  cases hc
theorem App.cells {g t : Nat} {cs : Array Value} (h : App W w1 u u') (hg : W.heap[g]? = some (.cells cs t (0, 0))) (ho : d.R e W base ok u xs) (ht : e ≠ t) : w1.heap[g]? = some (.cells cs t (0, 0)) := h.blk hg (Kd.R_ne ho hg ht)
theorem sep_type (h : d.R e W base ok u xs) (h' : d'.R e' W base ok' v ys) (hne : e ≠ e') : sep u v := fun k hk hk' => by
  obtain ⟨i1, h1⟩ := Kd.R_own h
  obtain ⟨i2, h2⟩ := Kd.R_own h'
  obtain ⟨c1, g1⟩ := own_typed h1 k hk
  obtain ⟨c2, g2⟩ := own_typed h2 k hk'
  rw [g1] at g2
  injection g2 with g2
  injection g2 with _ g2
  exact hne g2
/-- A list made later is another one. -/
theorem sep_new (h : d.R e W base ok u xs) (h' : ∃ b, v.ownBlock = some b ∧ W.heap.size ≤ b) : sep u v := fun k hk hk' => by
  obtain ⟨b, h1, h2⟩ := h'
  rw [h1] at hk'
  injection hk' with hk'
  have := Kd.R_lt h k hk
  omega
/-- A store into another block, a map's store: own lists stay. -/
theorem own_turn {b : Nat} (h : Turned W w1 b) (ho : d.R e W base ok u xs) (hne : some b ≠ u.ownBlock) (hE : d.E = []) : d.R e w1 base ok u xs :=
  R_flat hE (Kd.R_move (R_flat (ok' := fun k => u.ownBlock = some k) hE ho (fun k hk => hk)) (fun k hk => h.block k (fun he => hne (by rw [hk, he])))) ho.1
theorem own_cellT {g t : Nat} {cs : Array Value} (hg : W.heap[g]? = some (.cells cs t (0, 0))) (ho : d.R e W base ok u xs) (hne : e ≠ t) (hE : d.E = []) (j : Nat) (y : Value) : d.R e (W.setCell ⟨g, j, none⟩ y) base ok u xs :=
  R_flat hE (Kd.R_far (p := ⟨g, j, none⟩) (R_flat (ok' := fun k => u.ownBlock = some k) hE ho (fun k hk => hk)) (fun k hk he => Kd.R_ne ho hg hne (by rw [hk, he])) y) ho.1
theorem own_cellS {g : Nat} {p q : Nat} (ho : d.R e W base ok u xs) (hs : sep u (.slice (some ⟨g, 0, none⟩) p q)) (hE : d.E = []) (j : Nat) (y : Value) : d.R e (W.setCell ⟨g, j, none⟩ y) base ok u xs :=
  R_flat hE (Kd.R_far (p := ⟨g, j, none⟩) (R_flat (ok' := fun k => u.ownBlock = some k) hE ho (fun k hk => hk)) (fun k hk he => hs k hk (by simp only at he; subst he; rfl)) y) ho.1
theorem Turned.cell {b : Nat} {ad : Addr} {y : Value} (h : Turned W w1 b) (hc : W.cell? ad = some y) (hne : ad.block ≠ b) : w1.cell? ad = some y := by
  have := h.block ad.block hne
  unfold World.cell? at hc ⊢
  rw [this]; exact hc
theorem alloc_cell {ad : Addr} {y : Value} {o : Obj} (hc : W.cell? ad = some y) : (W.alloc o).cell? ad = some y := (World.cell?_alloc_lt _ _ _ (World.block_lt_of_cell? _ _ hc)).trans hc
/-- A list of the call's own that holds something: its row. -/
theorem own_form {γ : Type} {en : γ → Value} {h1 : ∀ x, (en x).oneCell' = true} {zs : List γ} (z : γ) (h : (Kd.scalar en h1).R e W base ok v zs) (hp : 0 < zs.length) : ∃ g c, v = .slice (some ⟨g, 0, none⟩) zs.length c ∧ base ≤ g ∧ g < W.heap.size ∧ ∀ i, i < zs.length → W.cell? ⟨g, i, none⟩ = some (en (zs.getD i z)) ∧ W.frozen? ⟨g, i, none⟩ = false := by
  have ho := Kd.own_of_R h
  rcases ho.2 with ⟨_, hn⟩ | ⟨g, cap, cur, rfl, hg, hh, r⟩
  · omega
  · refine ⟨g, cap, rfl, hg, hp_lt hh, fun i hi => ?_⟩
    have hx := own_at_of (d := z) ho (i : Int) (by omega) (by omega)
    rw [Int.toNat_natCast] at hx
    unfold rdOf at hx
    rw [Int.toNat_natCast] at hx
    exact hx
theorem own_rowT {g t : Nat} {cs : Array Value} (hg : W.heap[g]? = some (.cells cs t (0, 0))) (ho : d.R e W base ok u xs) (hne : e ≠ t) (hE : d.E = []) (rs : Array Value) : d.R e (W.setRow g rs) base ok u xs :=
  R_flat hE (Kd.R_move (R_flat (ok' := fun k => u.ownBlock = some k) hE ho (fun k hk => hk)) (fun k hk => setRow_other _ _ _ _ (fun he => Kd.R_ne ho hg hne (by rw [hk, he])))) ho.1
theorem own_val (h : d.R e W base ok v xs) : v.cells = #[v] ∧ v.oneCell' = true := by
  obtain ⟨A, c, rfl, _⟩ := Kd.R_reads h
  exact ⟨rfl, rfl⟩
theorem map_not {b : Nat} {l : List (Value × Value)} (hm : MapIs W b l) (ho : d.R e W base ok u xs) : some b ≠ u.ownBlock := fun he => by
  obtain ⟨es, c, h1, h2⟩ := hm
  obtain ⟨inner, hi⟩ := Kd.R_own ho
  obtain ⟨cells, hc⟩ := own_typed hi b he.symm
  rw [h1] at hc
  cases hc
end
end Go.Proofs.Ytjckidjljkjhfaa

namespace Go.Proofs.Ytjckidjljkjhfaa
open Go.RowKit Go.ChangeMaps Go.Proofs.YtjckidjljkjhfaaW.PrintWords
set_option linter.unusedVariables false
theorem run_store1 {P : Program} (w : World) (b j : Nat) (ty : TypeId) (v u : Value) (hi : (P.info? ty).map (·.size) = some 1) (hv : v.cells = #[v]) (h1 : v.oneCell' = true) (hc : w.cell? ⟨b, j, none⟩ = some u) (hf : w.frozen? ⟨b, j, none⟩ = false) :
    (Instr.storeAt ty (.pointer (some ⟨b, j, none⟩)) v).run P w = .ok () (w.setCell ⟨b, j, none⟩ v) := by
  have h := run_storeCells_cells (P := P) b j [v] 0 w (fun k hk => by obtain rfl : k = 0 := (by simpa using hk); simp [hc]) (fun k hk => by obtain rfl : k = 0 := (by simpa using hk); simpa using hf) (fun x hx => by rw [List.mem_singleton.1 hx]; exact h1)
  cases hq : P.info? ty with
  | none => simp [hq] at hi
  | some i =>
    have hs : i.size = 1 := by simpa [hq] using hi
    simp [Instr.storeAt, Instr.sureAddr, storeVar, sizeOf, typeInfo, hq, hs, hv, h, World.setCells, Sem.run_bind, Result.andThen_ok]
/-- Three results: a row in a cell, two slots. -/
theorem results_cell_tmp2 {P : Program} {fn : Func} {p t u : Tmp} {ty : TypeId} (h : fn.results = #[.cell p ty, .tmp t, .tmp u]) (tmps : Array Value) (w : World) (g : Nat) (t' : TypeId) (cs : Array Value) (fr : Nat × Nat) (d : TypeDesc)
    (hp : tmps.getD p undef = .pointer (some ⟨g, 0, none⟩)) (hg : w.heap[g]? = some (.cells cs t' fr))
    (hu : P.underlying ty = some d) (hd : (match d with | .struct _ | .array _ _ => true | _ => false) = true) (hi : (P.info? ty).map (·.size) = some cs.size) :
    (results fn tmps).run P w = .ok (.tuple #[.agg cs, tmps.getD t undef, tmps.getD u undef]) w := by
  have hp' : tmps[p]?.getD undef = .pointer (some ⟨g, 0, none⟩) := by simpa using hp
  simp [results, h, hp', asAddr, run_loadVar_row w g t' ty cs fr d hg hu hd hi]
section
variable {P : Program} {ops : Array Oper} {Q : Exit → Act → World → Prop} {o : Oper} {a : Act} {w : World} {K : Act → World → Prop}
theorem wp_load1 (ty : TypeId) (x : Operand) (ho : o.op = .load ty x) (ad : Addr) (hx : a.eval x = .pointer (some ad)) {v : Value} (d : TypeDesc) (hu : P.underlying ty = some d) (hd : (match d with | .struct _ | .array _ _ => false | _ => true) = true) (hc : w.cell? ad = some v)
    (h : K (a.put o.dst v) w) : o.wp P a w K Q := by
  have hagg : (isAgg ty).run P w = .ok false w := by
    unfold isAgg
    rw [Sem.run_bind, run_underlying hu w]
    cases d <;> simp_all
  have h2 : (execOp a.eval o).run P w = .ok (.value v) w := by
    unfold execOp
    simp only [ho, hx, Instr.loadAt, Instr.sureAddr, Sem.run_bind, Sem.run_pure, Result.andThen_ok]
    simp [loadVar, Sem.run_bind, hagg, hc]
  unfold Oper.wp
  rw [h2, Oper.upon_value]
  exact h
theorem wp_store1 (ty : TypeId) (x y : Operand) (ho : o.op = .store ty x y) (b j : Nat) (v u : Value) (hx : a.eval x = .pointer (some ⟨b, j, none⟩)) (hy : a.eval y = v) (hi : (P.info? ty).map (·.size) = some 1) (hv : v.cells = #[v]) (h1 : v.oneCell' = true) (hc : w.cell? ⟨b, j, none⟩ = some u) (hf : w.frozen? ⟨b, j, none⟩ = false)
    (h : K (a.put o.dst undef) (w.setCell ⟨b, j, none⟩ v)) : o.wp P a w K Q := by
  have h1 := run_store1 (P := P) w b j ty v u hi hv h1 hc hf
  unfold Oper.wp execOp
  simp only [ho, hx, hy, Sem.run_bind, h1, Result.andThen_ok, Sem.run_pure]
  exact h
/-- A variadic's box of one value, whose run is known. -/
theorem wp_box (t e : TypeId) (x : Operand) (ho : o.op = .buildSlice t 1 #[(0, x)]) (p : Value) (cs : List Value) (hx : a.eval x = p) (hrun : (Instr.buildSlice t 1 #[(0, p)]).run P w = .ok (.slice (some ⟨w.heap.size, 0, none⟩) 1 1) (w.alloc (.cells cs.toArray e)))
    (h : K (a.put o.dst (.slice (some ⟨w.heap.size, 0, none⟩) 1 1)) (w.alloc (.cells cs.toArray e))) : o.wp P a w K Q := by
  have h2 : (execOp a.eval o).run P w = .ok (.value (.slice (some ⟨w.heap.size, 0, none⟩) 1 1)) (w.alloc (.cells cs.toArray e)) := by
    unfold execOp
    simp [ho, hx, hrun, Result.andThen_ok]
  unfold Oper.wp
  rw [h2, Oper.upon_value]
  exact h
theorem ofFn_one {n : Nat} (hn : n = 1) (f : Fin n → Value) (p : Value) : (Array.ofFn f).setIfInBounds 0 p = #[p] := by
  subst hn
  apply Array.ext
  · simp
  · intro i h1 h2
    obtain rfl : i = 0 := by simp at h2; omega
    simp
/-- The cells of a flat value. -/
theorem run_box1 {P : Program} (t e : TypeId) (ht : P.underlying t = some (.slice e)) {p z : Value} {n : Nat} (hi : (P.info? e).map (fun i => (i.zero, i.size, i.bytes)) = some (some z, 1, n)) (hc : z.cells = #[z]) (hp : p.cells = #[p]) (w : World) :
    (Instr.buildSlice t 1 #[(0, p)]).run P w = .ok (.slice (some ⟨w.heap.size, 0, none⟩) 1 1) (w.alloc (.cells [p].toArray e)) := by
  obtain ⟨i0, hi, hz0, hz1, hz2⟩ := info_parts hi
  simp [Instr.buildSlice, run_underlying ht, sizeOf, typeInfo, zeroValue, hi, hz0, hz1, Result.andThen, Instr.fill, hc, hp, newRow, Array.range]
  exact congrArg (fun c => w.alloc (Obj.cells c e)) (ofFn_one (by simpa using hz1) _ p)
end
theorem want_none {o : Oper} (h : o.guard = none) (y : Nat → Option Bool) : Region.wanted o y = true := by unfold Region.wanted; rw [h]
section
variable {α : Type} {P : Program} {l : List Oper} {Q : Exit → Act → World → Prop} {md : Region.Mode} {S : World → Prop} {a : Act} {W : World}
/-- An append onto a list of the call's own, the one operation that comes next. -/
theorem any_append (d : Kd α) {w0 : World} (base : Nat) {fuel : Nat} {listed : Array Bool} {i : Nat} {o : Oper} (hi : l[i]? = some o) (hr : Region.ready md l.toArray listed = [i]) (hg : Region.wanted o (yielded l.toArray a.tmps) = true) (s x : Operand) (t e : TypeId) (z : Value) (bytes : Nat)
    (ho : o.op = .call { callee := .builtin .append, args := #[s, x], argTypes := #[t, t] })
    (ht : P.underlying t = some (.slice e)) (hinfo : (P.info? e).map (fun i => (i.zero, i.size, i.bytes)) = some (some z, d.sz, bytes)) (hz : z.cells.size = d.sz) (hs0 : 0 < d.sz) (hb0 : 0 < bytes)
    (v : Value) (xs : List α) (p : α) (cs : List Value) (hs : a.eval s = v) (hx : a.eval x = .slice (some ⟨W.heap.size, 0, none⟩) 1 1) (hp : d.M W base (fun _ => False) p cs)
    (HO : d.R e W base (fun _ => True) v xs) (HB : Below base w0 W) (hbase : base ≤ W.heap.size) (hl : (xs.length + 1) * bytes ≤ 140737488355328)
    (h : ∀ v1 w1, d.R e w1 base (fun _ => True) v1 (xs ++ [p]) → Below base w0 w1 → App W w1 v v1 → S w1 ∧ wpAnyH P md l.toArray Q S fuel (listed.setIfInBounds i true) (a.put o.dst v1) w1) :
    wpAnyH P md l.toArray Q S (fuel + 1) listed a (W.alloc (.cells cs.toArray e)) :=
  any_one hi hr hg <| by
    have h1 := Kd.R_append_step (Kc := fun a' w' => S w' ∧ wpAnyH P md l.toArray Q S fuel (listed.setIfInBounds i true) a' w') (Q := Q) d base hg s x t e z bytes ho ht hinfo hz hs0 hb0 v xs p cs (fun _ => True) (fun _ => False) hs hx hp (fun _ h => h.elim) (fun _ _ => trivial) HO HB hbase hl (fun v1 w1 h1 h2 h3 h4 => h v1 w1 h1 h2 ⟨h3, h4⟩)
    rwa [if_pos hg] at h1
/-- .. in a plain list. -/
theorem wpl_append (d : Kd α) {ops : Array Oper} {rest : List Oper} {o : Oper} {w0 : World} (base : Nat) (hgd : o.guard = none) (s x : Operand) (t e : TypeId) (z : Value) (bytes : Nat)
    (ho : o.op = .call { callee := .builtin .append, args := #[s, x], argTypes := #[t, t] })
    (ht : P.underlying t = some (.slice e)) (hinfo : (P.info? e).map (fun i => (i.zero, i.size, i.bytes)) = some (some z, d.sz, bytes)) (hz : z.cells.size = d.sz) (hs0 : 0 < d.sz) (hb0 : 0 < bytes)
    (v : Value) (xs : List α) (p : α) (cs : List Value) (hs : a.eval s = v) (hx : a.eval x = .slice (some ⟨W.heap.size, 0, none⟩) 1 1) (hp : d.M W base (fun _ => False) p cs)
    (HO : d.R e W base (fun _ => True) v xs) (HB : Below base w0 W) (hbase : base ≤ W.heap.size) (hl : (xs.length + 1) * bytes ≤ 140737488355328)
    (h : ∀ v1 w1, d.R e w1 base (fun _ => True) v1 (xs ++ [p]) → Below base w0 w1 → App W w1 v v1 → wpList P ops Q rest (a.put o.dst v1) w1) :
    wpList P ops Q (o :: rest) a (W.alloc (.cells cs.toArray e)) :=
  Kd.R_append d base hgd s x t e z bytes ho ht hinfo hz hs0 hb0 v xs p cs (fun _ => True) (fun _ => False) hs hx hp (fun _ h => h.elim) (fun _ _ => trivial) HO HB hbase hl (fun v1 w1 h1 h2 h3 h4 => h v1 w1 h1 h2 ⟨h3, h4⟩)
/-- append(x.f, v) in a region that draws: x.f is read (i1), the box is made (i2), in either order; the append (i3). -/
theorem any_fapp (d : Kd α) {w0 : World} (base : Nat) {fuel : Nat} {listed : Array Bool} {i1 i2 i3 : Nat} {o1 o2 o3 : Oper}
    (h1 : l[i1]? = some o1) (h2 : l[i2]? = some o2) (h3 : l[i3]? = some o3)
    (r12 : Region.ready md l.toArray listed = [i1, i2]) (r1 : Region.ready md l.toArray (listed.setIfInBounds i1 true) = [i2]) (r2 : Region.ready md l.toArray (listed.setIfInBounds i2 true) = [i1])
    (r3 : Region.ready md l.toArray ((listed.setIfInBounds i1 true).setIfInBounds i2 true) = [i3])
    (g1 : o1.guard = none) (g2 : o2.guard = none) (g3 : o3.guard = none) (hne : i1 ≠ i2)
    (t e : TypeId) (z : Value) (bytes : Nat) {x1 x2 x3 x4 : Operand} (p1 : o1.op = .load t x1) (p2 : o2.op = .buildSlice t 1 #[(0, x2)]) (p3 : o3.op = .call { callee := .builtin .append, args := #[x3, x4], argTypes := #[t, t] })
    (ht : P.underlying t = some (.slice e)) (hinfo : (P.info? e).map (fun i => (i.zero, i.size, i.bytes)) = some (some z, d.sz, bytes)) (hz : z.cells.size = d.sz) (hs0 : 0 < d.sz) (hb0 : 0 < bytes)
    (g j : Nat) (v : Value) (xs : List α) (p : α) (pv : Value) (cs : List Value) (hrun : ∀ w, (Instr.buildSlice t 1 #[(0, pv)]).run P w = .ok (.slice (some ⟨w.heap.size, 0, none⟩) 1 1) (w.alloc (.cells cs.toArray e)))
    (e1 : a.eval x1 = .pointer (some ⟨g, j, none⟩)) (e2 : a.eval x2 = pv)
    (e21 : (a.put o1.dst v).eval x2 = pv) (e12 : (a.put o2.dst (.slice (some ⟨W.heap.size, 0, none⟩) 1 1)).eval x1 = .pointer (some ⟨g, j, none⟩))
    (hcomm : (a.put o2.dst (.slice (some ⟨W.heap.size, 0, none⟩) 1 1)).put o1.dst v = (a.put o1.dst v).put o2.dst (.slice (some ⟨W.heap.size, 0, none⟩) 1 1))
    (e3 : ((a.put o1.dst v).put o2.dst (.slice (some ⟨W.heap.size, 0, none⟩) 1 1)).eval x3 = v) (e4 : ((a.put o1.dst v).put o2.dst (.slice (some ⟨W.heap.size, 0, none⟩) 1 1)).eval x4 = .slice (some ⟨W.heap.size, 0, none⟩) 1 1)
    (hp : d.M W base (fun _ => False) p cs) (HO : d.R e W base (fun _ => True) v xs) (HB : Below base w0 W) (hbase : base ≤ W.heap.size) (hl : (xs.length + 1) * bytes ≤ 140737488355328)
    (hc : W.cell? ⟨g, j, none⟩ = some v) (hS : S W) (hSa : S (W.alloc (.cells cs.toArray e)))
    (h : ∀ v1 w1, d.R e w1 base (fun _ => True) v1 (xs ++ [p]) → Below base w0 w1 → App W w1 v v1 → S w1 ∧ wpAnyH P md l.toArray Q S fuel (((listed.setIfInBounds i1 true).setIfInBounds i2 true).setIfInBounds i3 true) (((a.put o1.dst v).put o2.dst (.slice (some ⟨W.heap.size, 0, none⟩) 1 1)).put o3.dst v1) w1) :
    wpAnyH P md l.toArray Q S (fuel + 1 + 1 + 1) listed a W := by
  have key : wpAnyH P md l.toArray Q S (fuel + 1) ((listed.setIfInBounds i1 true).setIfInBounds i2 true) ((a.put o1.dst v).put o2.dst (.slice (some ⟨W.heap.size, 0, none⟩) 1 1)) (W.alloc (.cells cs.toArray e)) :=
    any_append d base h3 r3 (want_none g3 _) x3 x4 t e z bytes p3 ht hinfo hz hs0 hb0 v xs p cs e3 e4 hp HO HB hbase hl h
  have hca : (W.alloc (.cells cs.toArray e)).cell? ⟨g, j, none⟩ = some v := (World.cell?_alloc_lt _ _ _ (World.block_lt_of_cell? _ _ hc)).trans hc
  refine any_two r12 h1 h2 (want_none g1 _) (want_none g2 _) ?_ ?_
  · exact wp_load1 t x1 p1 ⟨g, j, none⟩ e1 (.slice e) ht rfl hc ⟨hS, any_one h2 r1 (want_none g2 _) (wp_box t e x2 p2 pv cs e21 (hrun W) ⟨hSa, key⟩)⟩
  · refine wp_box t e x2 p2 pv cs e2 (hrun W) ⟨hSa, any_one h1 r2 (want_none g1 _) (wp_load1 t x1 p1 ⟨g, j, none⟩ e12 (.slice e) ht rfl hca ⟨hSa, ?_⟩)⟩
    rw [hcomm, show (listed.setIfInBounds i2 true).setIfInBounds i1 true = (listed.setIfInBounds i1 true).setIfInBounds i2 true from Array.setIfInBounds_comm _ _ (Ne.symm hne)]
    exact key
end
end Go.Proofs.Ytjckidjljkjhfaa

namespace Go.Proofs.Ytjckidjljkjhfaa
open Go.RowKit Go.Proofs.YtjckidjljkjhfaaW.PrintWords
section
variable {P : Program} {l : List Oper} {Q : Exit → Act → World → Prop} {md : Region.Mode} {S : World → Prop} {a : Act} {w : World}
theorem wp_call {o : Oper} {K : Act → World → Prop} {R : Ending → World → Prop} (f : FuncId) (args : Array Value) (hex : (execOp a.eval o).run P w = .ok (.enter f args) w) (hc : Calls P f args w R)
    (hR : ∀ e w', R e w' → ∃ v, e = .returned v ∧ K (a.put o.dst v) w') : o.wp P a w K Q := by
  unfold Oper.wp
  rw [hex, Oper.upon_enter]
  refine hc.mono fun e w' h => ?_
  obtain ⟨v, rfl, h1⟩ := hR e w' h
  exact h1
theorem wp_lit {α : Type} (d : Kd α) {o : Oper} {K : Act → World → Prop} {w0 W : World} (base e : Nat) (hg : o.guard = none) {N : Tmp} (hd : o.dst = some N) {xs : List α} {inner : List Value}
    (hrun : (execOp a.eval o).run P W = .ok (.value (.slice (some ⟨W.heap.size, 0, none⟩) xs.length xs.length)) (W.alloc (.cells inner.toArray e)))
    (hrep : Reps (d.M W base (fun _ => False)) d.sz xs inner) (HB : Below base w0 W) (hbase : base ≤ W.heap.size) (hm : xs.length ≤ 9223372036854775807)
    (h : ∀ v1 w1, d.R e w1 base (fun _ => True) v1 xs → Below base w0 w1 → W.grownBy w1 none → (∃ b, v1.ownBlock = some b ∧ W.heap.size ≤ b) → K (a.put o.dst v1) w1) : o.wp P a W K Q := by
  have h1 := Kd.R_lit_step (P := P) (ops := #[]) (Kc := K) (Q := Q) d (w0 := w0) base e (want_none hg _) hd (ok := fun _ => True) (okp := fun _ => False) hrun hrep (fun _ h => h.elim) trivial HB hbase hm h
  rwa [if_pos (want_none hg _)] at h1
theorem wp_appends {α : Type} (enc : α → Value) {e1 : ∀ x : α, (enc x).oneCell' = true} {o : Oper} {K : Act → World → Prop} {w0 W : World} (base : Nat) (hg : o.guard = none) (s x : Operand) (t e : TypeId) (z : Value) (bytes : Nat)
    (ho : o.op = .call { callee := .builtin .append, args := #[s, x], argTypes := #[t, t] })
    (ht : P.underlying t = some (.slice e)) (hinfo : (P.info? e).map (fun i => (i.zero, i.size, i.bytes)) = some (some z, 1, bytes)) (hz : z.cells.size = 1) (hb0 : 0 < bytes)
    (v : Value) (xs ys : List α) (A : Option Addr) (m c : Nat) (hs : a.eval s = v) (hx : a.eval x = .slice A m c)
    (HO : (Kd.scalar enc e1).R e W base (fun _ => True) v xs) (HR : (Kd.scalar enc e1).C W A m ys)
    (HB : Below base w0 W) (hbase : base ≤ W.heap.size) (hl : (xs.length + m) * bytes ≤ 140737488355328)
    (h : ∀ v1 w1, (Kd.scalar enc e1).R e w1 base (fun _ => True) v1 (xs ++ ys) → Below base w0 w1 → App W w1 v v1 → K (a.put o.dst v1) w1) : o.wp P a W K Q := by
  have h1 := Kd.R_append_rows_step (P := P) (ops := #[]) (Kc := K) (Q := Q) (Kd.scalar enc e1) (w0 := w0) base (want_none hg _) s x t e z bytes ho ht hinfo hz Nat.zero_lt_one hb0 v xs ys A m c (fun _ => True) (fun _ => False) hs hx HO HR (fun _ _ h => h) (fun _ h => h.elim) (fun _ _ => trivial) HB hbase hl (fun v1 w1 k1 k2 k3 k4 => h v1 w1 k1 k2 ⟨k3, k4⟩)
  rwa [if_pos (want_none hg _)] at h1
theorem any_join {fuel : Nat} {listed : Array Bool} {i j : Nat} {oi oj : Oper} (I1 I2 : Value → World → Prop) (I12 : Value → Value → World → Prop)
    (hi : l[i]? = some oi) (hj : l[j]? = some oj) (hr : Region.ready md l.toArray listed = [i, j]) (hr1 : Region.ready md l.toArray (listed.setIfInBounds i true) = [j]) (hr2 : Region.ready md l.toArray (listed.setIfInBounds j true) = [i])
    (gi : oi.guard = none) (gj : oj.guard = none) (hne : i ≠ j)
    (s1 : ∀ K : Act → World → Prop, (∀ v w', I1 v w' → K (a.put oi.dst v) w') → oi.wp P a w K Q)
    (s2 : ∀ K : Act → World → Prop, (∀ u w', I2 u w' → K (a.put oj.dst u) w') → oj.wp P a w K Q)
    (s12 : ∀ v w1, I1 v w1 → ∀ K : Act → World → Prop, (∀ u w', I12 v u w' → K ((a.put oi.dst v).put oj.dst u) w') → oj.wp P (a.put oi.dst v) w1 K Q)
    (s21 : ∀ u w1, I2 u w1 → ∀ K : Act → World → Prop, (∀ v w', I12 v u w' → K ((a.put oj.dst u).put oi.dst v) w') → oi.wp P (a.put oj.dst u) w1 K Q)
    (hcomm : ∀ u v, (a.put oj.dst u).put oi.dst v = (a.put oi.dst v).put oj.dst u)
    (hS1 : ∀ v w', I1 v w' → S w') (hS2 : ∀ u w', I2 u w' → S w') (hS12 : ∀ v u w', I12 v u w' → S w')
    (h : ∀ v u w', I12 v u w' → wpAnyH P md l.toArray Q S fuel ((listed.setIfInBounds i true).setIfInBounds j true) ((a.put oi.dst v).put oj.dst u) w') :
    wpAnyH P md l.toArray Q S (fuel + 1 + 1) listed a w := by
  refine any_two hr hi hj (want_none gi _) (want_none gj _) ?_ ?_
  · refine s1 _ fun v w1 h1 => ⟨hS1 v w1 h1, any_one hj hr1 (want_none gj _) (s12 v w1 h1 _ fun u w2 h2 => ⟨hS12 v u w2 h2, h v u w2 h2⟩)⟩
  · refine s2 _ fun u w1 h1 => ⟨hS2 u w1 h1, any_one hi hr2 (want_none gi _) (s21 u w1 h1 _ fun v w2 h2 => ⟨hS12 v u w2 h2, ?_⟩)⟩
    rw [hcomm, show (listed.setIfInBounds j true).setIfInBounds i true = (listed.setIfInBounds i true).setIfInBounds j true from Array.setIfInBounds_comm _ _ (Ne.symm hne)]
    exact h v u w2 h2
end
end Go.Proofs.Ytjckidjljkjhfaa

namespace Go.Proofs.Ytjckidjljkjhfaa
open Go.RowKit
def Hp (fs : List (Nat × Obj)) (b w : World) : Prop := (∀ p ∈ fs, w.heap[p.1]? = some p.2) ∧ Below b.heap.size b w
theorem Hp.start (w : World) : Hp [] w w := ⟨fun _ h => (nomatch h), Below.refl _ _⟩
theorem Hp.keep {fs : List (Nat × Obj)} {b u v : World} (h : Hp fs b u) (hb : Below u.heap.size u v) : Hp fs b v := ⟨fun p hp => hp_below' hb (h.1 p hp), bl_then h.2 hb⟩
theorem Hp.alloc {fs : List (Nat × Obj)} {b u : World} (h : Hp fs b u) (o : Obj) : Hp ((u.heap.size, o) :: fs) b (u.alloc o) :=
  ⟨fun p hp => by
    rcases List.mem_cons.1 hp with rfl | hp
    · exact hp_new rfl
    · exact hp_old (h.1 p hp), bl_alloc h.2 o⟩
theorem Hp.at {fs : List (Nat × Obj)} {b w : World} (h : Hp fs b w) (i : Nat) {g : Nat} {o : Obj} (e : fs[i]? = some (g, o)) : w.heap[g]? = some o := h.1 (g, o) (List.mem_of_getElem? e)
theorem Hp.drew {fs : List (Nat × Obj)} {b w : World} (h : Hp fs b w) : Hp fs b w.drew := ⟨h.1, h.2.drew⟩
theorem Hp.drewN {fs : List (Nat × Obj)} {b w : World} (h : Hp fs b w) (n : Nat) : Hp fs b (w.drewN n) := ⟨h.1, bl_drewN h.2 n⟩
end Go.Proofs.Ytjckidjljkjhfaa

namespace Go.Proofs.Ytjckidjljkjhfaa
open Go.RowKit Go.Proofs.YtjckidjljkjhfaaW.PrintWords
set_option linter.unusedSimpArgs false
set_option linter.unusedVariables false
/-- An automaton: its letters, where they lead, which states are accepted. -/
structure AutV where
  k : Int
  next : List Int
  acc : List Bool
abbrev ac (x : AutV) (A : Option Addr) (c : Nat) (B : Option Addr) (d : Nat) : Array Value := #[.int .i64 x.k, .slice A x.next.length c, .slice B x.acc.length d]
/-- It reads so. -/
structure ARd (w : World) (x : AutV) (A B : Option Addr) : Prop where
  next : Kd.C (Kd.int .i64) w A x.next.length x.next
  acc : Kd.C Kd.bool w B x.acc.length x.acc
theorem ARd.below {w w' : World} {x : AutV} {A B : Option Addr} (h : ARd w x A B) (hb : Below w.heap.size w w') : ARd w' x A B := ⟨Kd.C_below h.next hb, Kd.C_below h.acc hb⟩
def AutOk (x : AutV) : Prop := 1 ≤ x.k ∧ x.k ≤ 8 ∧ 1 ≤ x.acc.length ∧ x.acc.length ≤ 4096 ∧ (x.next.length : Int) = (x.acc.length : Int) * x.k ∧ ∀ i : Nat, i < x.next.length → 0 ≤ rd x.next i ∧ rd x.next i < x.acc.length
open Classical in
noncomputable def autE (x : AutV) : Int := if AutOk x then 0 else 80
theorem autE_ok {x : AutV} (h : AutOk x) : autE x = 0 := by unfold autE; rw [if_pos h]
theorem autE_no {x : AutV} (h : ¬ AutOk x) : autE x = 80 := by unfold autE; rw [if_neg h]
theorem aut_mul {m : Nat} {k : Int} (h1 : 1 ≤ k) (h2 : k ≤ 8) (h3 : m ≤ 4096) : 0 ≤ (m : Int) * k ∧ (m : Int) * k ≤ 32768 := by
  have hk : k = 1 ∨ k = 2 ∨ k = 3 ∨ k = 4 ∨ k = 5 ∨ k = 6 ∨ k = 7 ∨ k = 8 := by omega
  rcases hk with rfl | rfl | rfl | rfl | rfl | rfl | rfl | rfl <;> omega
set_option maxRecDepth 100000 in
set_option maxHeartbeats 4000000 in
theorem acheck_any (x : AutV) (A : Option Addr) (c : Nat) (B : Option Addr) (d : Nat) (w : World) (hr : ARd w x A B) :
    Calls Try.prog 18 #[.agg (ac x A c B d)] w fun e w' => e = .returned (.int .i64 (autE x)) ∧ Below w.heap.size w w' := by
  have HR := Aside0.mk hr
  have hmx := Kd.C_max hr.next
  have hmy := Kd.C_max hr.acc
  have HBL : Hid (Below w.heap.size w (w.alloc (.cells (ac x A c B d) 25))) := Lib.hid (bl_alloc (Below.refl _ _) _)
  clear hr
  obtain ⟨E, HE⟩ : ∃ E, Hid (autE x = E) := ⟨_, Lib.hid rfl⟩
  rw [HE.out]
  by_cases h1 : x.k < 1
  · have HN : Hid (E = 80) := Lib.hid (by rw [← HE.out, autE_no (fun h => by have := h.1; omega)])
    go_enter Try.func18, Try.ntmps18
    go_wp2
    go_ret
    exact ⟨by rw [HN.out]; rfl, HBL.out⟩
  by_cases h2 : 8 < x.k
  · have HN : Hid (E = 80) := Lib.hid (by rw [← HE.out, autE_no (fun h => by have := h.2.1; omega)])
    go_enter Try.func18, Try.ntmps18
    go_wp2
    go_ret
    exact ⟨by rw [HN.out]; rfl, HBL.out⟩
  by_cases h3 : x.acc.length < 1
  · have HN : Hid (E = 80) := Lib.hid (by rw [← HE.out, autE_no (fun h => by have := h.2.2.1; omega)])
    go_enter Try.func18, Try.ntmps18
    go_wp2
    go_ret
    exact ⟨by rw [HN.out]; rfl, HBL.out⟩
  by_cases h4 : 4096 < x.acc.length
  · have HN : Hid (E = 80) := Lib.hid (by rw [← HE.out, autE_no (fun h => by have := h.2.2.2.1; omega)])
    go_enter Try.func18, Try.ntmps18
    go_wp2
    go_ret
    exact ⟨by rw [HN.out]; rfl, HBL.out⟩
  obtain ⟨hp0, hp1⟩ := aut_mul (m := x.acc.length) (k := x.k) (by omega) (by omega) (by omega)
  by_cases h5 : (x.next.length : Int) = (x.acc.length : Int) * x.k
  · have hne : ((x.next.length : Int) != (x.acc.length : Int) * x.k) = false := by rw [bne_eq_false_iff_eq]; exact h5
    have HY : Hid ((∀ i : Nat, i < x.next.length → 0 ≤ rd x.next i ∧ rd x.next i < x.acc.length) → E = 0) := Lib.hid (fun h => by rw [← HE.out, autE_ok ⟨by omega, by omega, by omega, by omega, h5, h⟩])
    have HN : Hid (∀ i : Nat, i < x.next.length → ¬ (0 ≤ rd x.next i ∧ rd x.next i < x.acc.length) → E = 80) := Lib.hid (fun i hi h => by rw [← HE.out, autE_no (fun hh => h (hh.2.2.2.2.2 i hi))])
    clear h5
    go_enter Try.func18, Try.ntmps18
    go_wp2
    go_loopw [38] (fun i wr => ∃ k : Nat, k ≤ x.next.length ∧ i = .int .i64 k ∧ Hid (∀ i : Nat, i < k → 0 ≤ rd x.next i ∧ rd x.next i < x.acc.length) ∧ Hid (wr.heap[w.heap.size]? = some (.cells (ac x A c B d) 25 (0, 0)) ∧ Below w.heap.size w wr)) (fun i _ => x.next.length - (intOf i).toNat)
    case atStart => exact ⟨0, by omega, rfl, Lib.hid (fun i hi => absurd hi (by omega)), Lib.hid ⟨hp_new rfl, HBL.out⟩⟩
    case round =>
      obtain ⟨k, hk, rfl, HF, H⟩ := hrel
      by_cases hkn : k < x.next.length
      · obtain ⟨ad, hA, hcell⟩ := Kd.at_int (Kd.C_below HR.out.next H.out.2) k (by omega) (by omega)
        rw [Int.toNat_natCast] at hcell
        by_cases hok : 0 ≤ rd x.next k ∧ rd x.next k < x.acc.length
        · have HF2 : Hid (∀ i : Nat, i < k + 1 → 0 ≤ rd x.next i ∧ rd x.next i < x.acc.length) := Lib.hid (fun i hi => by
            by_cases e : i = k
            · subst e; exact hok
            · exact HF.out i (by omega))
          obtain ⟨ho1, ho2⟩ := hok
          subst hA
          generalize rd x.next k = y at *
          have hd1 : decide (y < 0) = false := by simp; omega
          have hd2 : decide ((x.acc.length : Int) ≤ y) = false := by simp; omega
          go_wp2
          go_roundw
          case rel => exact ⟨k + 1, by omega, by go_num, HF2, H⟩
          case measure => simp [intOf]; omega
        · have HE2 := Lib.hid (HN.out k hkn hok)
          subst hA
          generalize rd x.next k = y at *
          by_cases hy : y < 0
          · have hd1 : decide (y < 0) = true := by simp; omega
            go_wp2
            go_ret
            exact ⟨by rw [HE2.out]; rfl, H.out.2⟩
          · have hd1 : decide (y < 0) = false := by simp; omega
            have hd2 : decide ((x.acc.length : Int) ≤ y) = true := by simp; omega
            go_wp2
            go_ret
            exact ⟨by rw [HE2.out]; rfl, H.out.2⟩
      · have e8 : k = x.next.length := by omega
        have HE2 := Lib.hid (HY.out (fun i hi => HF.out i (by omega)))
        go_wp2
        go_ret
        exact ⟨by rw [HE2.out]; rfl, H.out.2⟩
  · have HN : Hid (E = 80) := Lib.hid (by rw [← HE.out, autE_no (fun h => h5 h.2.2.2.2.1)])
    have hne : ((x.next.length : Int) != (x.acc.length : Int) * x.k) = true := by rw [bne_iff_ne]; exact h5
    clear h5
    go_enter Try.func18, Try.ntmps18
    go_wp2
    go_ret
    exact ⟨by rw [HN.out]; rfl, HBL.out⟩
set_option maxRecDepth 100000 in
set_option maxHeartbeats 4000000 in
theorem racheck_any (x : AutV) (A : Option Addr) (c : Nat) (B : Option Addr) (d : Nat) (w : World) (hr : ARd w x A B) :
    Calls Try.prog 19 #[.agg (ac x A c B d)] w fun e w' => e = .returned (.int .i64 (autE x)) ∧ Below w.heap.size w w' := by
  have HR := Aside0.mk hr
  have hmx := Kd.C_max hr.next
  have hmy := Kd.C_max hr.acc
  have HBL : Hid (Below w.heap.size w (w.alloc (.cells (ac x A c B d) 25))) := Lib.hid (bl_alloc (Below.refl _ _) _)
  clear hr
  obtain ⟨E, HE⟩ : ∃ E, Hid (autE x = E) := ⟨_, Lib.hid rfl⟩
  rw [HE.out]
  by_cases h1 : x.k < 1
  · have HN : Hid (E = 80) := Lib.hid (by rw [← HE.out, autE_no (fun h => by have := h.1; omega)])
    go_enter Try.func19, Try.ntmps19
    go_wp2
    go_ret
    exact ⟨by rw [HN.out]; rfl, HBL.out⟩
  by_cases h2 : 8 < x.k
  · have HN : Hid (E = 80) := Lib.hid (by rw [← HE.out, autE_no (fun h => by have := h.2.1; omega)])
    go_enter Try.func19, Try.ntmps19
    go_wp2
    go_ret
    exact ⟨by rw [HN.out]; rfl, HBL.out⟩
  by_cases h3 : x.acc.length < 1
  · have HN : Hid (E = 80) := Lib.hid (by rw [← HE.out, autE_no (fun h => by have := h.2.2.1; omega)])
    go_enter Try.func19, Try.ntmps19
    go_wp2
    go_ret
    exact ⟨by rw [HN.out]; rfl, HBL.out⟩
  by_cases h4 : 4096 < x.acc.length
  · have HN : Hid (E = 80) := Lib.hid (by rw [← HE.out, autE_no (fun h => by have := h.2.2.2.1; omega)])
    go_enter Try.func19, Try.ntmps19
    go_wp2
    go_ret
    exact ⟨by rw [HN.out]; rfl, HBL.out⟩
  obtain ⟨hp0, hp1⟩ := aut_mul (m := x.acc.length) (k := x.k) (by omega) (by omega) (by omega)
  by_cases h5 : (x.next.length : Int) = (x.acc.length : Int) * x.k
  · have hne : ((x.next.length : Int) != (x.acc.length : Int) * x.k) = false := by rw [bne_eq_false_iff_eq]; exact h5
    have HY : Hid ((∀ i : Nat, i < x.next.length → 0 ≤ rd x.next i ∧ rd x.next i < x.acc.length) → E = 0) := Lib.hid (fun h => by rw [← HE.out, autE_ok ⟨by omega, by omega, by omega, by omega, h5, h⟩])
    have HN : Hid (∀ i : Nat, i < x.next.length → ¬ (0 ≤ rd x.next i ∧ rd x.next i < x.acc.length) → E = 80) := Lib.hid (fun i hi h => by rw [← HE.out, autE_no (fun hh => h (hh.2.2.2.2.2 i hi))])
    clear h5
    go_enter Try.func19, Try.ntmps19
    go_wp2
    go_loopw [4] (fun i wr => ∃ k : Nat, k ≤ x.next.length ∧ i = .int .i64 k ∧ Hid (∀ i : Nat, i < k → 0 ≤ rd x.next i ∧ rd x.next i < x.acc.length) ∧ Hid (wr.heap[w.heap.size]? = some (.cells (ac x A c B d) 25 (0, 0)) ∧ Below w.heap.size w wr)) (fun i _ => x.next.length - (intOf i).toNat)
    case atStart => exact ⟨0, by omega, rfl, Lib.hid (fun i hi => absurd hi (by omega)), Lib.hid ⟨hp_new rfl, HBL.out⟩⟩
    case round =>
      obtain ⟨k, hk, rfl, HF, H⟩ := hrel
      have d1 : wr.cell? ⟨w.heap.size, 1, none⟩ = some (.slice A x.next.length c) := by rw [cell_of_row _ _ _ _ _ _ H.out.1]; rfl
      by_cases hkn : k < x.next.length
      · obtain ⟨ad, hA, hcell⟩ := Kd.at_int (Kd.C_below HR.out.next H.out.2) k (by omega) (by omega)
        rw [Int.toNat_natCast] at hcell
        by_cases hok : 0 ≤ rd x.next k ∧ rd x.next k < x.acc.length
        · have HF2 : Hid (∀ i : Nat, i < k + 1 → 0 ≤ rd x.next i ∧ rd x.next i < x.acc.length) := Lib.hid (fun i hi => by
            by_cases e : i = k
            · subst e; exact hok
            · exact HF.out i (by omega))
          obtain ⟨ho1, ho2⟩ := hok
          subst hA
          generalize rd x.next k = y at *
          have hd1 : decide (y < 0) = false := by simp; omega
          have hd2 : decide ((x.acc.length : Int) ≤ y) = false := by simp; omega
          go_wp2
          go_roundw
          case rel => exact ⟨k + 1, by omega, by go_num, HF2, H⟩
          case measure => simp [intOf]; omega
        · have HE2 := Lib.hid (HN.out k hkn hok)
          subst hA
          generalize rd x.next k = y at *
          by_cases hy : y < 0
          · have hd1 : decide (y < 0) = true := by simp; omega
            go_wp2
            go_ret
            exact ⟨by rw [HE2.out]; rfl, H.out.2⟩
          · have hd1 : decide (y < 0) = false := by simp; omega
            have hd2 : decide ((x.acc.length : Int) ≤ y) = true := by simp; omega
            go_wp2
            go_ret
            exact ⟨by rw [HE2.out]; rfl, H.out.2⟩
      · have e8 : k = x.next.length := by omega
        have HE2 := Lib.hid (HY.out (fun i hi => HF.out i (by omega)))
        go_wp2
        go_ret
        exact ⟨by rw [HE2.out]; rfl, H.out.2⟩
  · have HN : Hid (E = 80) := Lib.hid (by rw [← HE.out, autE_no (fun h => h5 h.2.2.2.2.1)])
    have hne : ((x.next.length : Int) != (x.acc.length : Int) * x.k) = true := by rw [bne_iff_ne]; exact h5
    clear h5
    go_enter Try.func19, Try.ntmps19
    go_wp2
    go_ret
    exact ⟨by rw [HN.out]; rfl, HBL.out⟩
/-- An automaton's block. -/
abbrev AB (x : AutV) (A : Option Addr) (c : Nat) (B : Option Addr) (d : Nat) : Obj := .cells (ac x A c B d) 25 (0, 0)
section
variable {ops : Array Oper} {rest : List Oper} {o : Oper} {a : Act} {w : World} {Q : Exit → Act → World → Prop}
/-- An automaton is loaded, guarded or not. -/
theorem ld_au (x : Operand) (ho : o.op = .load 25 x) (g : Nat) (hx : a.eval x = .pointer (some ⟨g, 0, none⟩)) {y : AutV} {A : Option Addr} {c : Nat} {B : Option Addr} {d : Nat} (hg : w.heap[g]? = some (AB y A c B d)) (hw : Region.wanted o (yielded ops a.tmps) = true)
    (h : wpList Try.prog ops Q rest (a.put o.dst (.agg (ac y A c B d))) w) : wpList Try.prog ops Q (o :: rest) a w :=
  wpList_step fun K hK => by
    rw [if_pos hw]
    exact wp_load_row 25 x ho g hx _ _ _ _ hg Try.underlying25 rfl (by kernel_rfl) (hK _ _ h)
end
theorem stp_idx {x : AutV} (h : AutOk x) {s c : Nat} (hs : s < x.acc.length) (hc : (c : Int) < x.k) : s * x.k.toNat + c < x.next.length := by
  obtain ⟨h1, h2, h3, h4, h5, _⟩ := h
  obtain ⟨k, hk⟩ := Int.eq_ofNat_of_zero_le (show 0 ≤ x.k by omega)
  rw [hk] at h1 h2 h5 hc ⊢
  simp only [Int.toNat_natCast]
  have e : x.next.length = x.acc.length * k := by exact_mod_cast h5
  rw [e]
  have : (s + 1) * k ≤ x.acc.length * k := Nat.mul_le_mul_right _ hs
  rw [Nat.succ_mul] at this
  omega
theorem autE_is {x : AutV} (h : autE x = 0) : AutOk x := Classical.byContradiction fun hn => by rw [autE_no hn] at h; cases h
/-- One step. -/
def stp (x : AutV) (s c : Nat) : Nat := (rd x.next ((s * x.k.toNat + c : Nat) : Int)).toNat
theorem stp_lt {x : AutV} (h : AutOk x) {s c : Nat} (hs : s < x.acc.length) (hc : (c : Int) < x.k) : stp x s c < x.acc.length ∧ rd x.next ((s * x.k.toNat + c : Nat) : Int) = (stp x s c : Nat) := by
  have hi := stp_idx h hs hc
  obtain ⟨h1, h2⟩ := h.2.2.2.2.2 _ hi
  unfold stp
  omega
end Go.Proofs.Ytjckidjljkjhfaa

namespace Go.Proofs.Ytjckidjljkjhfaa
open Go.ChangeShapes Go.WideShapes Go.ChangeAt Go.RowKit Go.Deep Go.Proofs.YtjckidjljkjhfaaW.PrintWords
section
variable {H : Type} {enc : TypeId × Value → H} {W : World}
theorem row_ints2 {P : Program} {t e : TypeId} {fuel : Nat} {cs : List Value} {y : DataW H × List MemPlace} (ht : P.underlying t = some (.slice e)) (he : P.underlying e = some (.int .i64)) (hc : P.cellsOf e = 1) (hb : P.bytesOf e = 8)
    (hf : DataW.trod enc P W 0 (fun _ => true) true fuel t cs = some y) (hs : (y.1.weights P t).all (· ≤ reachBytes) = true) : ∃ A c l, cs = [.slice A (List.length l) c] ∧ Kd.C (Kd.int .i64) W A l.length l ∧ l.length ≤ c ∧ l.length * 8 ≤ 140737488351232 := by
  rcases open_ints ht he hc hf with ⟨hcs, _⟩ | ⟨x, n, c, zs, hcs, _, hl, hm, hz, hy, hcell, hwz⟩
  · exact ⟨none, 0, [], hcs, Kd.C_nil _ _, by simp, by simp⟩
  · have hz : zs.length = c := by simpa using hz
    have hlen : (zs.take n).length = n := by rw [List.length_take]; omega
    have hw : n * 8 ≤ 140737488351232 := by
      subst hy
      have h1 := List.all_eq_true.1 hs ((lits (H := H) .i64 (zs.take n)).length * 8 + (lits (H := H) .i64 (zs.drop n)).length * 8) (by
        simp only [DataW.weights, ht, hb]
        rw [Nat.add_mul]
        exact List.mem_cons_self)
      have h2 : (lits (H := H) .i64 (zs.take n)).length = n := by simp [lits]; omega
      rw [h2] at h1
      have h3 := of_decide_eq_true h1
      have h4 : reachBytes = 140737488351232 := by decide
      omega
    refine ⟨some x, c, zs.take n, by rw [hlen]; exact hcs, ?_, by rw [hlen]; exact hl, by rw [hlen]; exact hw⟩
    rw [hlen]
    refine Kd.C_of_reads (enc := Value.int .i64) (d := (0 : Int)) (h1 := fun _ => rfl) ⟨hlen, by unfold maxLen at hm; omega, fun _ => ⟨x, rfl, fun j hj => ?_⟩⟩
    rw [hcell j (by omega)]
    congr 1
    simp [List.getD_eq_getElem?_getD, hj]
theorem row_bools2 {P : Program} {t e : TypeId} {fuel : Nat} {cs : List Value} {y : DataW H × List MemPlace} (ht : P.underlying t = some (.slice e)) (he : P.underlying e = some .bool) (hc : P.cellsOf e = 1) (hb : P.bytesOf e = 1)
    (hf : DataW.trod enc P W 0 (fun _ => true) true fuel t cs = some y) (hs : (y.1.weights P t).all (· ≤ reachBytes) = true) : ∃ A c l, cs = [.slice A (List.length l) c] ∧ Kd.C Kd.bool W A l.length l ∧ l.length ≤ c ∧ l.length ≤ 140737488351232 := by
  rcases open_bools ht he hc hf with ⟨hcs, _⟩ | ⟨x, n, c, z, hcs, _, hl, hm, hy, hcell⟩
  · exact ⟨none, 0, [], hcs, Kd.C_nil _ _, by simp, by simp⟩
  · have hlen : ((List.range n).map z).length = n := by simp
    have hw : n ≤ 140737488351232 := by
      subst hy
      have h3 : n + (c - n) ≤ reachBytes := by
        simp only [boolRow, DataW.weights, ht, hb, List.all_cons, Bool.and_eq_true, decide_eq_true_eq] at hs
        have := hs.1
        simp at this
        omega
      have h4 : reachBytes = 140737488351232 := by decide
      omega
    refine ⟨some x, c, (List.range n).map z, by rw [hlen]; exact hcs, ?_, by rw [hlen]; exact hl, by rw [hlen]; exact hw⟩
    rw [hlen]
    refine Kd.C_of_reads (enc := Value.bool) (d := false) (h1 := fun _ => rfl) ⟨hlen, by unfold maxLen at hm; omega, fun _ => ⟨x, rfl, fun j hj => ?_⟩⟩
    rw [hcell j (by omega)]
    congr 1
    simp [List.getD_eq_getElem?_getD, hj]
/-- What an automaton's lists may hold. -/
def AutSz (x : AutV) (c e : Nat) : Prop := x.next.length ≤ c ∧ x.acc.length ≤ e ∧ x.next.length * 8 ≤ 140737488351232 ∧ x.acc.length ≤ 140737488351232
set_option maxRecDepth 100000 in
theorem open_autoS {base : Nat} {v : Value} {d : DataW H} {p : List MemPlace} {ts : List TypeId} {ds : List (DataW H)} {j : Nat}
    (hsz : (DataW.weightsEach Try.prog ts ds).all (· ≤ reachBytes) = true) (htj : ts[j]? = some 25) (hdj : ds[j]? = some d)
    (hval : Value.okWide Try.prog W .any base 25 v) (h : DataW.Trod enc Try.prog W 0 (fun _ => true) true 25 v d p) :
    ∃ x A c B e, v = .agg (ac x A c B e) ∧ ARd W x A B ∧ AutSz x c e := by
  have hv : ∃ cs : Array Value, v = .agg cs := by
    unfold Value.okWide at hval
    rw [Try.underlying25] at hval
    obtain ⟨cs, hcs, _⟩ := hval
    exact ⟨cs, hcs⟩
  obtain ⟨cs, rfl⟩ := hv
  obtain ⟨fuel, hf⟩ := h
  obtain ⟨xs, m, rfl, hx, hlen, hxl, hfs⟩ := DataW.trod_struct Try.underlying25 hf
  have hlen : cs.toList.length = 3 := by
    have h8 : Try.prog.cellsOf 25 = 3 := by kernel_rfl
    rw [← h8]; exact hlen
  have hW : ∀ n ∈ d.weights Try.prog 25, decide (n ≤ reachBytes) = true := fun n hn => List.all_eq_true.1 hsz n (DataW.weights_mem_each htj hdj n hn)
  obtain ⟨rfl, -⟩ := Prod.mk.inj hx
  have hwt : ∀ (i : Nat) (t : TypeId) (y : DataW H × List MemPlace), [3, 22, 23][i]? = some t → xs[i]? = some y → (y.1.weights Try.prog t).all (· ≤ reachBytes) = true := fun i t y ht hy =>
    List.all_eq_true.2 fun n hn => hW n (by
      simp only [DataW.weights, Try.underlying25]
      exact DataW.weights_mem_each (j := i) (t := t) (d := y.1) ht (by rw [List.getElem?_map, hy]; rfl) n hn)
  have h0 := hfs 0 _ rfl
  have h1 := hfs 1 _ rfl
  have h2 := hfs 2 _ rfl
  change DataW.trod enc Try.prog W 0 (fun _ => true) true m 3 ((cs.toList.drop 0).take (Try.prog.cellsOf 3)) = _ at h0
  change DataW.trod enc Try.prog W 0 (fun _ => true) true m 22 ((cs.toList.drop 1).take (Try.prog.cellsOf 22)) = _ at h1
  change DataW.trod enc Try.prog W 0 (fun _ => true) true m 23 ((cs.toList.drop 2).take (Try.prog.cellsOf 23)) = _ at h2
  rw [show Try.prog.cellsOf 3 = 1 from by kernel_rfl] at h0
  rw [show Try.prog.cellsOf 22 = 1 from by kernel_rfl] at h1
  rw [show Try.prog.cellsOf 23 = 1 from by kernel_rfl] at h2
  have ex : ∀ i, i < 3 → ∃ y, xs[i]? = some y := fun i hi => ⟨_, List.getElem?_eq_getElem (by rw [hxl]; exact hi)⟩
  obtain ⟨y0, e0⟩ := ex 0 (by decide)
  obtain ⟨y1, e1⟩ := ex 1 (by decide)
  obtain ⟨y2, e2⟩ := ex 2 (by decide)
  obtain ⟨n, hn, _, wn⟩ := DataW.trod_int Try.underlying3 (h0.trans e0)
  obtain ⟨A, c, l, hl, hA, s1, s2⟩ := row_ints2 Try.underlying22 Try.underlying3 (by kernel_rfl) (by kernel_rfl) (h1.trans e1) (hwt 1 _ _ rfl e1)
  obtain ⟨B, e, b, hb, hB, s3, s4⟩ := row_bools2 Try.underlying23 Try.underlying4 (by kernel_rfl) (by kernel_rfl) (h2.trans e2) (hwt 2 _ _ rfl e2)
  refine ⟨⟨n, l, b⟩, A, c, B, e, ?_, ⟨hA, hB⟩, s1, s3, s2, s4⟩
  congr 1
  apply Array.toList_inj.1
  match h : cs.toList, hlen with
  | [u0, u1, u2], _ =>
    rw [h] at hn hl hb
    simp only [List.drop_zero, List.drop_succ_cons, List.take_succ_cons, List.take_zero, List.cons.injEq, and_true] at hn hl hb
    rw [hn, hl, hb]
end
end Go.Proofs.Ytjckidjljkjhfaa

namespace Go.Proofs.Ytjckidjljkjhfaa
open Go.RowKit Go.Proofs.YtjckidjljkjhfaaW.PrintWords
set_option linter.unusedSimpArgs false
set_option linter.unusedVariables false
section
open Go.ChangeMaps
/-- All but one list's row and one block is as it was. -/
def Away (W : World) (u : Value) (go : Nat) (w' : World) : Prop := ∀ g, g < W.heap.size → some g ≠ u.ownBlock → g ≠ go → w'.heap[g]? = W.heap[g]?
theorem Away.refl (W : World) (u : Value) (go : Nat) : Away W u go W := fun _ _ _ _ => rfl
theorem Away.blk {W w' : World} {u : Value} {go g : Nat} {o : Obj} (h : Away W u go w') (hg : W.heap[g]? = some o) (h1 : some g ≠ u.ownBlock) (h2 : g ≠ go) : w'.heap[g]? = some o := (h g (hp_lt hg) h1 h2).trans hg
theorem Away.cell {W w' : World} {u : Value} {go : Nat} {ad : Addr} {v : Value} (h : Away W u go w') (hc : W.cell? ad = some v) (h1 : some ad.block ≠ u.ownBlock) (h2 : ad.block ≠ go) : w'.cell? ad = some v := by
  have hlt := World.block_lt_of_cell? _ _ hc
  have := h ad.block hlt h1 h2
  unfold World.cell? at hc ⊢
  rw [this]; exact hc
theorem Away.alloc (W : World) (u : Value) (go : Nat) (o : Obj) : Away W u go (W.alloc o) := fun g hg _ _ => Below.heap_alloc W o g hg
theorem Away.app {W w1 : World} {u u' : Value} {go : Nat} (h : App W w1 u u') : Away W u go w1 := fun g hg h1 _ => h.gr.block g hg h1
theorem Away.set {W w1 : World} {u : Value} {go : Nat} (h : Away W u go w1) (j : Nat) (y : Value) : Away W u go (w1.setCell ⟨go, j, none⟩ y) := fun g hg h1 h2 => (heap_setCell_other w1 ⟨go, j, none⟩ g y h2).trans (h g hg h1 h2)
def encI (n : Nat) : Value := .int .i64 (n : Int)
theorem encI_inj (s t : Nat) (h : encI s = encI t) : s = t := by unfold encI at h; injection h with _ h; exact Int.ofNat.inj h
theorem st_au_new {ops : Array Oper} {rest : List Oper} {o : Oper} {a : Act} {w : World} {Q : Exit → Act → World → Prop} {y : AutV} {A : Option Addr} {c : Nat} {B : Option Addr} {d : Nat} {cs : Array Value} (p q : Operand) (ho : o.op = .store 25 p q) (hgd : o.guard = none)
    (hx : a.eval p = .pointer (some ⟨w.heap.size, 0, none⟩)) (hy : a.eval q = .agg (ac y A c B d)) (hc : cs.size = 3) (h : wpList Try.prog ops Q rest (a.put o.dst undef) (w.alloc (AB y A c B d))) : wpList Try.prog ops Q (o :: rest) a (w.alloc (.cells cs 25)) :=
  wpList_store_row hgd 25 p q ho w.heap.size _ hx hy 25 cs (hp_new rfl) (by show _ = some 3; kernel_rfl) hc (by first | (cases A <;> cases B <;> rfl) | simp [Value.oneCell']) (by rw [World.setRow_alloc_new]; exact h)
theorem nodup_le {L : List Nat} {n : Nat} (h : L.Nodup) (hL : ∀ s ∈ L, s < n) : L.length ≤ n := by
  have := h.length_le_of_subset (l₂ := List.range n) (fun s hs => List.mem_range.2 (hL s hs))
  rwa [List.length_range] at this
end
theorem list_ne {l m : List Int} {k : Nat} (h : rd l k ≠ rd m k) : l ≠ m := by
  rintro rfl; exact h rfl
theorem list_eq {l m : List Int} (hl : l.length = m.length) (h : ∀ k : Nat, k < l.length → rd l k = rd m k) : l = m := by
  apply List.ext_getElem hl
  intro i h1 h2
  have := h i h1
  simp only [rd, Int.toNat_natCast, List.getD_eq_getElem?_getD, List.getElem?_eq_getElem h1, List.getElem?_eq_getElem h2] at this
  exact this
end Go.Proofs.Ytjckidjljkjhfaa

