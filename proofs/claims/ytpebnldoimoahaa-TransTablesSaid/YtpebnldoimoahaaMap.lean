/- A map of the call's own as the list of its entries: what a look-up tells, what a store at a new key leaves; in a plain list of operations, in a region that draws its order. -/
import Derived.Test.YtpebnldoimoahaaRegion
import Derived.Maps.Keyed
namespace Go.Proofs.Ytpebnldoimoahaa
open Go.RowKit Go.ChangeMaps Go.MapKept
open Go.Maps (Keyed)
/-- Block b is a map with these entries. -/
def MapIs (w : World) (b : Nat) (l : List (Value × Value)) : Prop := ∃ es clock, w.heap[b]? = some (.map es clock) ∧ es.toList.map (fun e => (e.key, e.val)) = l
theorem MapIs.new (w : World) : MapIs (w.alloc (.map #[] 0)) w.heap.size [] := ⟨#[], 0, hp_new rfl, rfl⟩
theorem MapIs.of {w w' : World} {b : Nat} {l : List (Value × Value)} (h : MapIs w b l) (e : w'.heap[b]? = w.heap[b]?) : MapIs w' b l := by
  obtain ⟨es, c, h1, h2⟩ := h
  exact ⟨es, c, e.trans h1, h2⟩
theorem MapIs.lt {w : World} {b : Nat} {l : List (Value × Value)} (h : MapIs w b l) : b < w.heap.size := by
  obtain ⟨es, c, h1, _⟩ := h
  exact hp_lt h1
theorem MapIs.below {w w' : World} {b : Nat} {l : List (Value × Value)} (h : MapIs w b l) (hb : Below w.heap.size w w') : MapIs w' b l := h.of (hb.block b h.lt)
section
variable {P : Program} {k e t : TypeId} {w : World} {b : Nat} {l : List (Value × Value)} {key : Value} {kl : Lit}
theorem MapIs.keys {es : Array MapEntry} (h : es.toList.map (fun e => (e.key, e.val)) = l) (hl : ∀ p ∈ l, ∃ q, keyOf P k p.1 = some q) : ∀ x ∈ es.toList, ∃ q, keyOf P k x.key = some q := fun x hx =>
  hl (x.key, x.val) (by rw [← h]; exact List.mem_map.2 ⟨x, hx, rfl⟩)
/-- No entry bears the key. -/
theorem MapIs.look_no (h : MapIs w b l) (K : Keyed P k) (hl : ∀ p ∈ l, ∃ q, keyOf P k p.1 = some q) (ht : P.underlying t = some (.map k e)) {z : Value} (hz : (zeroValue e).run P w = .ok z w) (hkey : keyOf P k key = some kl) (hno : ∀ p ∈ l, p.1 ≠ key) (c : Bool) :
    (Instr.lookup t (.map (some b)) key c).run P w = .ok (if c then .tuple #[z, .bool false] else z) w := by
  obtain ⟨es, clock, hb, he⟩ := h
  rcases K.find w hkey es.toList (MapIs.keys he hl) with ⟨h1, h2⟩ | ⟨j, e0, h1, h2, h3⟩
  · simp [Instr.lookup, run_underlying ht, MapKept.run_getObj_map hb, K.check w _ hkey, h1, hz, Result.andThen]
  · exact absurd h3 (hno (e0.key, e0.val) (by rw [← he]; exact List.mem_map.2 ⟨e0, List.mem_of_getElem? h2, rfl⟩))
/-- One does, and those that do hold v. -/
theorem MapIs.look_yes (h : MapIs w b l) (K : Keyed P k) (hl : ∀ p ∈ l, ∃ q, keyOf P k p.1 = some q) (ht : P.underlying t = some (.map k e)) {z : Value} (hz : (zeroValue e).run P w = .ok z w) (hkey : keyOf P k key = some kl) {v : Value} (hyes : ∃ p ∈ l, p.1 = key) (hv : ∀ p ∈ l, p.1 = key → p.2 = v) (c : Bool) :
    (Instr.lookup t (.map (some b)) key c).run P w = .ok (if c then .tuple #[v, .bool true] else v) w := by
  obtain ⟨es, clock, hb, he⟩ := h
  rcases K.find w hkey es.toList (MapIs.keys he hl) with ⟨h1, h2⟩ | ⟨j, e0, h1, h2, h3⟩
  · obtain ⟨p, hp, hpk⟩ := hyes
    rw [← he] at hp
    obtain ⟨x, hx, rfl⟩ := List.mem_map.1 hp
    exact absurd hpk (h2 x hx)
  · have : e0.val = v := hv (e0.key, e0.val) (by rw [← he]; exact List.mem_map.2 ⟨e0, List.mem_of_getElem? h2, rfl⟩) h3
    subst this
    simp [Instr.lookup, run_underlying ht, MapKept.run_getObj_map hb, K.check w _ hkey, h1, Result.andThen]
/-- What a store into a map leaves: one block has turned. -/
structure Turned (w w' : World) (b : Nat) : Prop where
  os : w'.os = w.os
  tape : w'.tape = w.tape
  output : w'.output = w.output
  size : w'.heap.size = w.heap.size
  block : ∀ i, i ≠ b → w'.heap[i]? = w.heap[i]?
theorem Turned.below {w w' W : World} {b B : Nat} (h : Turned w w' b) (hb : Below B W w) (hB : B ≤ b) : Below B W w' :=
  ⟨h.os.trans hb.os, h.tape.trans hb.tape, h.output.trans hb.output, by rw [h.size]; exact hb.size, fun i hi => (h.block i (by omega)).trans (hb.block i hi)⟩
/-- A store at a key that is new. -/
theorem MapIs.put (h : MapIs w b l) (K : Keyed P k) (hl : ∀ p ∈ l, ∃ q, keyOf P k p.1 = some q) (ht : P.underlying t = some (.map k e)) (hkey : keyOf P k key = some kl) (hno : ∀ p ∈ l, p.1 ≠ key) (val : Value) :
    ∃ w', (Instr.mapUpdate t (.map (some b)) key val).run P w = .ok () w' ∧ MapIs w' b (l ++ [(key, val)]) ∧ Turned w w' b := by
  obtain ⟨es, clock, hb, he⟩ := h
  rcases K.find w hkey es.toList (MapIs.keys he hl) with ⟨h1, h2⟩ | ⟨j, e0, h1, h2, h3⟩
  · refine ⟨setBlock w b (.map (es.push ⟨key, val, clock⟩) (clock + 1)), ?_, ⟨_, _, heap_setBlock_same hb _, by simp [← he]⟩, ⟨rfl, rfl, rfl, by simp [setBlock], fun i hi => heap_setBlock_other hb _ hi⟩⟩
    simp [Instr.mapUpdate, run_underlying ht, MapKept.run_getObj_map hb, K.check w false hkey, h1, MapKept.run_setObj_map _ hb, Result.andThen, setBlock]
  · exact absurd h3 (hno (e0.key, e0.val) (by rw [← he]; exact List.mem_map.2 ⟨e0, List.mem_of_getElem? h2, rfl⟩))
end
section
variable {P : Program} {ops : Array Oper} {rest : List Oper} {o : Oper} {a : Act} {w : World} {Q : Exit → Act → World → Prop} {md : Region.Mode} {S : World → Prop} {l : List Oper}
/-- A look-up whose run is known, in a plain list. -/
theorem mp_look (m x : Operand) (t : TypeId) (c : Bool) (hop : o.op = .lookup t m x c) (mv key v : Value) (hm : a.eval m = mv) (hx : a.eval x = key) (hw : Region.wanted o (yielded ops a.tmps) = true) (hrun : (Instr.lookup t mv key c).run P w = .ok v w)
    (h : wpList P ops Q rest (a.put o.dst v) w) : wpList P ops Q (o :: rest) a w :=
  wpList_step fun K hK => by
    rw [if_pos hw]
    unfold Oper.wp execOp
    simp only [hop, hm, hx, Sem.run_bind, hrun, Result.andThen_ok, Sem.run_pure]
    exact hK _ _ h
/-- .. and a store. -/
theorem mp_put (m x v : Operand) (t : TypeId) (hop : o.op = .mapUpdate t m x v) (mv key val : Value) (hm : a.eval m = mv) (hx : a.eval x = key) (hv : a.eval v = val) (hw : Region.wanted o (yielded ops a.tmps) = true) {w' : World} (hrun : (Instr.mapUpdate t mv key val).run P w = .ok () w')
    (h : wpList P ops Q rest (a.put o.dst undef) w') : wpList P ops Q (o :: rest) a w :=
  wpList_step fun K hK => by
    rw [if_pos hw]
    unfold Oper.wp execOp
    simp only [hop, hm, hx, hv, Sem.run_bind, hrun, Result.andThen_ok, Sem.run_pure]
    exact hK _ _ h
/-- A look-up that may be taken first. -/
theorem yi_look {v : Value} (m x : Operand) (t : TypeId) (c : Bool) (hop : o.op = .lookup t m x c) (hg : Region.wanted o (yielded ops a.tmps) = true) (h : ∀ w, S w → (Instr.lookup t (a.eval m) (a.eval x) c).run P w = .ok v w) : YieldsIf P ops S o v a :=
  yi_val hg fun w hw => by
    unfold execOp
    simp only [hop, Sem.run_bind, h w hw, Result.andThen_ok, Sem.run_pure]
/-- A store into a map, the one operation that comes next. -/
theorem any_put {fuel : Nat} {listed : Array Bool} {i : Nat} (hi : l[i]? = some o) (hr : Region.ready md l.toArray listed = [i]) (hg : Region.wanted o (yielded l.toArray a.tmps) = true) (m x v : Operand) (t : TypeId) (hop : o.op = .mapUpdate t m x v)
    {w' : World} (hrun : (Instr.mapUpdate t (a.eval m) (a.eval x) (a.eval v)).run P w = .ok () w') (hS : S w') (h : wpAnyH P md l.toArray Q S fuel (listed.setIfInBounds i true) (a.put o.dst undef) w') : wpAnyH P md l.toArray Q S (fuel + 1) listed a w :=
  any_one hi hr hg <| by
    unfold Oper.wp execOp
    simp only [hop, Sem.run_bind, hrun, Result.andThen_ok, Sem.run_pure]
    exact ⟨hS, h⟩
/-- Either of two operations may come next. -/
theorem any_two {fuel : Nat} {listed : Array Bool} {i j : Nat} {o' : Oper} (hr : Region.ready md l.toArray listed = [i, j]) (hi : l[i]? = some o) (hj : l[j]? = some o') (hg : Region.wanted o (yielded l.toArray a.tmps) = true) (hg' : Region.wanted o' (yielded l.toArray a.tmps) = true)
    (h : o.wp P a w (fun a' w' => S w' ∧ wpAnyH P md l.toArray Q S fuel (listed.setIfInBounds i true) a' w') Q) (h' : o'.wp P a w (fun a' w' => S w' ∧ wpAnyH P md l.toArray Q S fuel (listed.setIfInBounds j true) a' w') Q) : wpAnyH P md l.toArray Q S (fuel + 1) listed a w :=
  wpAnyH_all hr (by simp) fun n hn => by
    simp only [List.mem_cons, List.not_mem_nil, or_false] at hn
    rcases hn with rfl | rfl
    · have ho : l.toArray[n]? = some o := by simpa using hi
      unfold wpOp
      simp only [ho]
      rw [if_pos hg]
      exact .inl h
    · have ho : l.toArray[n]? = some o' := by simpa using hj
      unfold wpOp
      simp only [ho]
      rw [if_pos hg']
      exact .inl h'
end
end Go.Proofs.Ytpebnldoimoahaa
