/- Structs of several cells that lie in a slice: packed transformations, operations on a table; how such an argument is opened; how one is loaded. -/
import Derived.Test.YtpebnldoimoahaaOpen
import Derived.Deep.Slices
import Derived.Deep.MidRow
namespace Go.Proofs.Ytpebnldoimoahaa
open Go.ChangeShapes Go.WideShapes Go.ChangeAt Go.RowKit Go.Deep Go.Proofs.YtpebnldoimoahaaW.PrintWords
/-- A kind whose elements are plain cells. -/
def rowKd {α : Type} (sz : Nat) (enc : α → List Value) (ok : α → Prop) (hl : ∀ x, ok x → (enc x).length = sz) (h1 : ∀ x, ok x → ∀ u ∈ enc x, u.oneCell' = true) : Kd α where
  sz := sz
  E := []
  K := fun _ x cs => ok x ∧ cs = enc x
  M := fun _ _ _ x cs => ok x ∧ cs = enc x
  K_len := fun h => by rw [h.2]; exact hl _ h.1
  K_one := fun h u hu => h1 _ h.1 u (by rw [← h.2]; exact hu)
  K_below := fun _ h => h
  K_of_M := fun h => h
  M_mono := fun _ h => h
  M_bound := fun h => h
  M_move := fun _ h => h
  M_lower := fun _ h => h
/-- A packed value: its number of points, its words. -/
def okT (x : Int × List Nat) : Prop := x.2.length = 7 ∧ (∀ i, x.2.getD i 0 < 18446744073709551616) ∧ -9223372036854775808 ≤ x.1 ∧ x.1 ≤ 9223372036854775807
theorem tvv_ones (n : Int) (ws : List Nat) : ∀ u ∈ (tvv n ws).toList, u.oneCell' = true := fun u hu => (Array.all_eq_true_iff_forall_mem.1 (tvv_one n ws)) u (by simpa using hu)
def trKd : Kd (Int × List Nat) := rowKd 8 (fun x => (tvv x.1 x.2).toList) okT (fun x h => by rw [Array.length_toList, tvv_size, h.1]) (fun x _ => tvv_ones _ _)
/-- An operation: its kind, a packed value, a number. -/
structure OpV where
  k : Int
  n : Int
  ws : List Nat
  m : Int
def OpV.cells (x : OpV) : List Value := .int .i64 x.k :: ((tvv x.n x.ws).toList ++ [.int .i64 x.m])
def OpV.ok (x : OpV) : Prop := okT (x.n, x.ws) ∧ -9223372036854775808 ≤ x.m ∧ x.m ≤ 9223372036854775807
theorem OpV.len (x : OpV) (h : x.ok) : x.cells.length = 10 := by simp [OpV.cells, tvv_size, h.1.1]
theorem OpV.ones (x : OpV) : ∀ u ∈ x.cells, u.oneCell' = true := fun u hu => by
  simp only [OpV.cells, List.mem_cons, List.mem_append, List.not_mem_nil, or_false] at hu
  rcases hu with rfl | hu | rfl
  · rfl
  · exact tvv_ones _ _ u hu
  · rfl
def opKd : Kd OpV := rowKd 10 OpV.cells OpV.ok OpV.len (fun x _ => x.ones)
/-- A whole struct is loaded from wherever it lies. -/
theorem run_loadVar_at {P : Program} (w : World) (a : Addr) (ty : TypeId) (cs : List Value) (d : TypeDesc) (hc : ∀ j v, cs[j]? = some v → w.cell? (a.add j) = some v)
    (hu : P.underlying ty = some d) (hd : (match d with | .struct _ | .array _ _ => true | _ => false) = true) (hi : (P.info? ty).map (·.size) = some cs.length) :
    (loadVar ty a).run P w = .ok (.agg cs.toArray) w := by
  have hl : (loadCells a cs.length).run P w = .ok cs.toArray w := run_loadCells_list (P := P) w a cs hc
  cases hq : P.info? ty with
  | none => simp [hq] at hi
  | some i =>
    have hs : i.size = cs.length := by simpa [hq] using hi
    have hagg : (isAgg ty).run P w = .ok true w := by
      unfold isAgg
      rw [Sem.run_bind, run_underlying hu w]
      cases d <;> simp_all
    simp [loadVar, Sem.run_bind, hagg, sizeOf, typeInfo, hq, hs, hl]
theorem ld_at {P : Program} {ops : Array Oper} {rest : List Oper} {op : Oper} {a : Act} {w : World} {Q : Exit → Act → World → Prop} (hgd : op.guard = none) (ty : TypeId) (x : Operand) (ho : op.op = .load ty x)
    (p : Addr) (hx : a.eval x = .pointer (some p)) (cs : List Value) (d : TypeDesc) (hc : ∀ j v, cs[j]? = some v → w.cell? (p.add j) = some v)
    (hu : P.underlying ty = some d) (hd : (match d with | .struct _ | .array _ _ => true | _ => false) = true) (hi : (P.info? ty).map (·.size) = some cs.length)
    (h : wpList P ops Q rest (a.put op.dst (.agg cs.toArray)) w) : wpList P ops Q (op :: rest) a w :=
  wpList_plain hgd fun K hK => by
    unfold Oper.wp execOp
    simp only [ho, hx, Instr.loadAt, Instr.sureAddr, Sem.run_bind, Sem.run_pure, Result.andThen_ok, run_loadVar_at w p ty cs d hc hu hd hi]
    exact hK _ _ h
/-- A packed value out of whatever place. -/
theorem ld3 {ops : Array Oper} {rest : List Oper} {o : Oper} {a : Act} {w : World} {Q : Exit → Act → World → Prop} (x : Operand) (ho : o.op = .load 26 x) (hgd : o.guard = none) (p : Addr) (hx : a.eval x = .pointer (some p)) {n : Int} {l : List Nat} (hl : l.length = 7)
    (hc : ∀ j v, (tvv n l).toList[j]? = some v → w.cell? (p.add j) = some v) (h : wpList Try.prog ops Q rest (a.put o.dst (.agg (tvv n l))) w) : wpList Try.prog ops Q (o :: rest) a w := by
  refine ld_at hgd 26 x ho p hx (tvv n l).toList _ hc Try.underlying26 rfl (by rw [Array.length_toList, tvv_size, hl]; kernel_rfl) ?_
  rw [Array.toArray_toList]; exact h
/-- An operation's block. -/
abbrev OB (o : OpV) : Obj := .cells o.cells.toArray 58 (0, 0)
theorem OB_0 {w : World} {g : Nat} {o : OpV} (h : w.heap[g]? = some (OB o)) : w.cell? ⟨g, 0, none⟩ = some (.int .i64 o.k) := by
  rw [cell_of_row _ _ _ _ _ _ h]; simp [OpV.cells]
theorem OB_9 {w : World} {g : Nat} {o : OpV} (h : w.heap[g]? = some (OB o)) (hl : o.ws.length = 7) : w.cell? ⟨g, 9, none⟩ = some (.int .i64 o.m) := by
  rw [cell_of_row _ _ _ _ _ _ h]
  have : (tvv o.n o.ws).toList.length = 8 := by rw [Array.length_toList, tvv_size, hl]
  simp only [OpV.cells, List.getElem?_toArray, List.getElem?_cons_succ]
  rw [List.getElem?_append_right (by omega), this]; rfl
theorem OB_t {w : World} {g : Nat} {o : OpV} (h : w.heap[g]? = some (OB o)) : ∀ j v, (tvv o.n o.ws).toList[j]? = some v → w.cell? ((⟨g, 1, none⟩ : Addr).add j) = some v := fun j v hv => by
  rw [Addr.add_mid, cell_of_row _ _ _ _ _ _ h]
  simp only [OpV.cells, List.getElem?_toArray, Nat.add_comm 1 j, List.getElem?_cons_succ]
  rw [List.getElem?_append_left (List.getElem?_eq_some_iff.1 hv).1, hv]
section
variable {H : Type} {enc : TypeId × Value → H} {W : World}
set_option maxRecDepth 100000 in
theorem trod_tr {sp : Nat → Bool} {hd : Bool} {fuel : Nat} {cs : List Value} {y : DataW H × List MemPlace} (hf : DataW.trod enc Try.prog W 0 sp hd fuel 26 cs = some y) :
    ∃ n ws, cs = (tvv n ws).toList ∧ ws.length = 7 ∧ (∀ i, ws.getD i 0 < 18446744073709551616) ∧ (-9223372036854775808 ≤ n ∧ n ≤ 9223372036854775807) := by
  obtain ⟨xs, m, rfl, hx, hlen, hxl, hfs⟩ := DataW.trod_struct Try.underlying26 hf
  have hlen : cs.length = 8 := by
    have h8 : Try.prog.cellsOf 26 = 8 := by kernel_rfl
    rw [← h8]; exact hlen
  have h0 := hfs 0 _ rfl
  have h1 := hfs 1 _ rfl
  change DataW.trod enc Try.prog W 0 sp hd m 3 ((cs.drop 0).take (Try.prog.cellsOf 3)) = _ at h0
  change DataW.trod enc Try.prog W 0 sp hd m 24 ((cs.drop 1).take (Try.prog.cellsOf 24)) = _ at h1
  rw [show Try.prog.cellsOf 3 = 1 from by kernel_rfl] at h0
  rw [show Try.prog.cellsOf 24 = 7 from by kernel_rfl] at h1
  have hxs0 : ∃ y, xs[0]? = some y := ⟨_, List.getElem?_eq_getElem (by rw [hxl]; decide)⟩
  have hxs1 : ∃ y, xs[1]? = some y := ⟨_, List.getElem?_eq_getElem (by rw [hxl]; decide)⟩
  obtain ⟨y0, e0⟩ := hxs0
  obtain ⟨y1, e1⟩ := hxs1
  have h0 := h0.trans e0
  have h1 := h1.trans e1
  obtain ⟨n, hn, _, wn⟩ := DataW.trod_int Try.underlying3 h0
  obtain ⟨zs, m2, rfl, hz, hzl, hzn, hzs⟩ := DataW.trod_array Try.underlying24 h1
  rw [show Try.prog.cellsOf 23 = 1 from by kernel_rfl] at hzs
  have each : ∀ i, i < 7 → ∃ k : Nat, cs[1 + i]? = some (.int .u64 (k : Int)) ∧ k < 18446744073709551616 := by
    intro i hi
    have hy : ∃ y, zs[i]? = some y := ⟨_, List.getElem?_eq_getElem (by rw [hzn]; exact hi)⟩
    obtain ⟨y, ey⟩ := hy
    obtain ⟨k, hk, _, wk⟩ := DataW.trod_int Try.underlying23 ((hzs i hi).trans ey)
    have hb := bounds_u64 wk
    refine ⟨k.toNat, ?_, by omega⟩
    have hh : (((cs.drop 1).take 7).drop (i * 1)).take 1 = [Value.int .u64 k] := hk
    have h2 := congrArg List.head? hh
    rw [List.head?_take, if_neg (by decide), List.head?_drop, Nat.mul_one, List.getElem?_take, if_pos hi, List.getElem?_drop] at h2
    rw [h2]
    simp
    omega
  have hc0 : cs[0]? = some (.int .i64 n) := by
    have h2 := congrArg List.head? (show (cs.drop 0).take 1 = [Value.int .i64 n] from hn)
    rw [List.head?_take, if_neg (by decide), List.head?_drop] at h2
    exact h2
  obtain ⟨k0, g0, b0⟩ := each 0 (by decide)
  obtain ⟨k1, g1, b1⟩ := each 1 (by decide)
  obtain ⟨k2, g2, b2⟩ := each 2 (by decide)
  obtain ⟨k3, g3, b3⟩ := each 3 (by decide)
  obtain ⟨k4, g4, b4⟩ := each 4 (by decide)
  obtain ⟨k5, g5, b5⟩ := each 5 (by decide)
  obtain ⟨k6, g6, b6⟩ := each 6 (by decide)
  refine ⟨n, [k0, k1, k2, k3, k4, k5, k6], ?_, rfl, ?_, bounds_i64 wn⟩
  · apply List.ext_getElem?
    intro i
    show cs[i]? = [Value.int .i64 n, .int .u64 k0, .int .u64 k1, .int .u64 k2, .int .u64 k3, .int .u64 k4, .int .u64 k5, .int .u64 k6][i]?
    match i with
    | 0 => exact hc0
    | 1 => exact g0
    | 2 => exact g1
    | 3 => exact g2
    | 4 => exact g3
    | 5 => exact g4
    | 6 => exact g5
    | 7 => exact g6
    | i + 8 => rw [List.getElem?_eq_none (by omega)]; rfl
  · intro i
    match i with
    | 0 => exact b0
    | 1 => exact b1
    | 2 => exact b2
    | 3 => exact b3
    | 4 => exact b4
    | 5 => exact b5
    | 6 => exact b6
    | i + 7 => simp
theorem take_at (cs : List Value) (k : Nat) (v : Value) (h : (cs.drop k).take 1 = [v]) : cs[k]? = some v := by
  have h2 := congrArg List.head? h
  rw [List.head?_take, if_neg (by decide), List.head?_drop] at h2
  exact h2
set_option maxRecDepth 100000 in
theorem trod_op {sp : Nat → Bool} {hd : Bool} {fuel : Nat} {cs : List Value} {y : DataW H × List MemPlace} (hf : DataW.trod enc Try.prog W 0 sp hd fuel 58 cs = some y) :
    ∃ x : OpV, cs = x.cells ∧ x.ok := by
  obtain ⟨xs, m, rfl, hx, hlen, hxl, hfs⟩ := DataW.trod_struct Try.underlying58 hf
  have hlen : cs.length = 10 := by
    have h8 : Try.prog.cellsOf 58 = 10 := by kernel_rfl
    rw [← h8]; exact hlen
  have h0 := hfs 0 _ rfl
  have h1 := hfs 1 _ rfl
  have h2 := hfs 2 _ rfl
  change DataW.trod enc Try.prog W 0 sp hd m 3 ((cs.drop 0).take (Try.prog.cellsOf 3)) = _ at h0
  change DataW.trod enc Try.prog W 0 sp hd m 26 ((cs.drop 1).take (Try.prog.cellsOf 26)) = _ at h1
  change DataW.trod enc Try.prog W 0 sp hd m 3 ((cs.drop 9).take (Try.prog.cellsOf 3)) = _ at h2
  rw [show Try.prog.cellsOf 3 = 1 from by kernel_rfl] at h0 h2
  rw [show Try.prog.cellsOf 26 = 8 from by kernel_rfl] at h1
  have hxl : xs.length = 3 := hxl
  obtain ⟨k, hk, _, wk⟩ := DataW.trod_int Try.underlying3 (h0.trans (List.getElem?_eq_getElem (by rw [hxl]; decide)))
  obtain ⟨n, ws, hn, hl, hw, hb⟩ := trod_tr (h1.trans (List.getElem?_eq_getElem (by rw [hxl]; decide)))
  obtain ⟨j, hj, _, wj⟩ := DataW.trod_int Try.underlying3 (h2.trans (List.getElem?_eq_getElem (by rw [hxl]; decide)))
  have c0 := take_at _ _ _ hk
  have c9 := take_at _ _ _ hj
  refine ⟨⟨k, n, ws, j⟩, ?_, ⟨hl, hw, hb.1, hb.2⟩, bounds_i64 wj⟩
  have e : cs = cs.take 1 ++ ((cs.drop 1).take 8 ++ (cs.drop 9).take 1) := by
    have e1 : (cs.drop 9).take 1 = cs.drop 9 := List.take_of_length_le (by rw [List.length_drop]; omega)
    have e2 : (cs.drop 1).drop 8 = cs.drop 9 := by rw [List.drop_drop]
    rw [e1, ← e2, List.take_append_drop, List.take_append_drop]
  rw [e, hn]
  have hk' : cs.take 1 = [Value.int .i64 k] := hk
  have hj' : (cs.drop 9).take 1 = [Value.int .i64 j] := hj
  rw [hk', hj']
  rfl
instance : Inhabited OpV := ⟨⟨0, 0, [], 0⟩⟩
set_option maxRecDepth 100000 in
theorem open_ops {base : Nat} {v : Value} {d : DataW H} {p : List MemPlace}
    (hval : Value.okWide Try.prog W .any base 50 v) (h : DataW.Trod enc Try.prog W 0 (fun _ => true) true 50 v d p) :
    ∃ A c l, v = .slice A (List.length l) c ∧ opKd.C W A l.length l := by
  obtain ⟨a0, len, cap, rfl⟩ := okWide_slice Try.underlying50 hval
  obtain ⟨fuel, hf⟩ := h
  rcases open_slice Try.underlying50 hf with ⟨hcs, _⟩ | ⟨a, n, c, m, f, D, Pl, hcs, _, hl, hm, hmm, _, hi⟩
  · simp [Value.cells] at hcs
    obtain ⟨rfl, rfl, rfl⟩ := hcs
    exact ⟨none, 0, [], rfl, Kd.C_nil _ _⟩
  · simp [Value.cells] at hcs
    obtain ⟨rfl, rfl, rfl⟩ := hcs
    rw [show Try.prog.cellsOf 58 = 10 from by kernel_rfl] at hi
    simp only [if_true] at hmm
    subst hmm
    obtain ⟨f, hfx⟩ := choose_lt (α := OpV) (p := fun i x => x.ok ∧ ∀ j u, x.cells[j]? = some u → W.cell? (a.add (i * 10 + j)) = some u) (fun i him => by
      obtain ⟨cs', hc, ht⟩ := hi i him
      obtain ⟨_, hlen, hcell⟩ := World.cells?_some hc
      obtain ⟨x, rfl, hx⟩ := trod_op ht
      refine ⟨x, hx, fun j u hu => ?_⟩
      have hj : j < 10 := by rw [← hlen]; exact (List.getElem?_eq_some_iff.1 hu).1
      rw [← Go.Deep.add_add, hcell j hj, hu])
    refine ⟨some a, m, (List.range len).map f, by simp, by simp, by simp; unfold maxLen at hm; omega, fun hp => ⟨a, rfl, fun j x hx => ?_⟩⟩
    have hj : j < len := by have := (List.getElem?_eq_some_iff.1 hx).1; simpa using this
    have : x = f j := by
      rw [List.getElem?_map, List.getElem?_range hj] at hx
      exact (Option.some.inj hx).symm
    subst this
    obtain ⟨h1, h2⟩ := hfx j (by omega)
    exact ⟨(f j).cells, (f j).len h1, ⟨h1, rfl⟩, h2⟩
end
end Go.Proofs.Ytpebnldoimoahaa
