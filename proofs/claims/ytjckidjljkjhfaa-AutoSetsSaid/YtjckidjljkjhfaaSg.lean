/- States of several cells: boxes, loads, lists of them. -/
import Derived.Test.YtjckidjljkjhfaaC1
import Derived.Great.BuildSlice
namespace Go.Proofs.Ytjckidjljkjhfaa
open Go.RowKit Go.Proofs.YtjckidjljkjhfaaW.PrintWords
set_option linter.unusedSimpArgs false
set_option linter.unusedVariables false
theorem fold_set {α : Type} (v : Array α) : ∀ (k : Nat) (cs : Array α), cs.size = v.size → k ≤ v.size → (∀ i, i < k → cs[i]? = v[i]?) → ((v.toList.drop k).zipIdx k).foldl (fun cs (p : α × Nat) => cs.setIfInBounds (0 + p.2) p.1) cs = v := by
  intro k
  induction h : v.size - k generalizing k with
  | zero =>
    intro cs hc hk hi
    have hkv : k = v.size := by omega
    rw [List.drop_eq_nil_of_le (by simp; omega)]
    show cs = v
    apply Array.ext_getElem?
    intro i
    by_cases hlt : i < k
    · exact hi i hlt
    · rw [Array.getElem?_eq_none (by omega), Array.getElem?_eq_none (by omega)]
  | succ n ih =>
    intro cs hc hk hi
    have hlt : k < v.size := by omega
    rw [List.drop_eq_getElem_cons (by simpa using hlt), List.zipIdx_cons, List.foldl_cons]
    refine ih (k + 1) (by omega) _ (by simpa using hc) (by omega) (fun i hi2 => ?_)
    simp only [Nat.zero_add]
    by_cases e : k = i
    · subst e
      rw [Array.getElem?_setIfInBounds_self_of_lt (by omega)]
      simp
    · rw [Array.getElem?_setIfInBounds_ne e]
      exact hi i (by omega)
section
variable {P : Program} {ops : Array Oper} {rest : List Oper} {o : Oper} {a : Act} {w : World} {Q : Exit → Act → World → Prop}
theorem run_boxA {t e : TypeId} (ht : P.underlying t = some (.slice e)) {z : Value} {n bytes : Nat} (hi : (P.info? e).map (fun i => (i.zero, i.size, i.bytes)) = some (some z, n, bytes)) (hn : 0 < n) (hn2 : n ≤ 1000) {cs : Array Value} (hc : cs.size = n) (w : World) :
    (Instr.buildSlice t 1 #[(0, .agg cs)]).run P w = .ok (.slice (some ⟨w.heap.size, 0, none⟩) 1 1) (w.alloc (.cells cs e)) := by
  obtain ⟨i0, hi, hz0, hz1, hz2⟩ := info_parts hi
  refine run_buildSlice w t e 1 _ cs i0 z ht hi hz0 (by rw [hz1]; omega) (by rw [hz1]; omega) ?_
  rw [hz1, Nat.one_mul]
  show Instr.fill _ _ [(0, .agg cs)] = _
  unfold Instr.fill
  simp only [Nat.zero_mul]
  have hcc : (Value.agg cs).cells = cs := rfl
  rw [hcc, if_neg (by simp [hc])]
  unfold Instr.fill
  congr 1
  have := fold_set cs 0 ((Array.range n).map (z.cells[· % z.cells.size]!)) (by simp [hc]) (Nat.zero_le _) (fun i hi => absurd hi (by omega))
  rw [List.drop_zero] at this
  rw [← Array.foldl_toList, Array.toList_zipIdx]
  exact this
theorem gate_lit {t : TypeId} {n : Nat} {parts : Array (Nat × Operand)} (_ho : o.op = .buildSlice t n parts) (h : wpList P ops Q (o :: rest) a w) : wpList P ops Q (o :: rest) a w := h
/-- A box of one value of several cells. -/
theorem wpl_boxA (hgd : o.guard = none) (t e : TypeId) (x : Operand) (ho : o.op = .buildSlice t 1 #[(0, x)]) (cs : Array Value) (hx : a.eval x = .agg cs) (ht : P.underlying t = some (.slice e)) {z : Value} {n bytes : Nat} (hi : (P.info? e).map (fun i => (i.zero, i.size, i.bytes)) = some (some z, n, bytes)) (hn : 0 < n) (hn2 : n ≤ 1000) (hc : cs.size = n)
    (h : wpList P ops Q rest (a.put o.dst (.slice (some ⟨w.heap.size, 0, none⟩) 1 1)) (w.alloc (.cells cs e))) : wpList P ops Q (o :: rest) a w :=
  wpList_plain hgd fun K hK => by
    have hrun := run_boxA ht hi hn hn2 hc w
    unfold Oper.wp execOp
    simp only [ho, List.map_toArray, List.map_cons, List.map_nil, hx, Sem.run_bind, hrun, Result.andThen_ok, Sem.run_pure]
    exact hK _ _ h
/-- A whole struct is loaded from wherever it lies. -/
theorem run_loadVar_at (w : World) (a : Addr) (ty : TypeId) (cs : List Value) (d : TypeDesc) (hc : ∀ j v, cs[j]? = some v → w.cell? (a.add j) = some v)
    (hd : (match d with | .struct _ | .array _ _ => true | _ => false) = true) (hu : P.underlying ty = some d) (hi : (P.info? ty).map (·.size) = some cs.length) :
    (loadVar ty a).run P w = .ok (.agg cs.toArray) w := by
  have hl : (loadCells a cs.length).run P w = .ok cs.toArray w := run_loadCells_list (P := P) w a cs hc
  cases hq : P.info? ty with
  | none => simp [hq] at hi
  | some i =>
    have hs : i.size = cs.length := by simpa [hq] using hi
    have hagg : (isAgg ty).run P w = .ok true w := by
      unfold isAgg
      rw [Sem.run_bind, run_underlying hu w]
      cases d <;> simp_all
    simp [loadVar, Sem.run_bind, hagg, sizeOf, typeInfo, hq, hs, hl]
/-- In block lb, from cell i on, lie these cells. -/
def HasC (w : World) (lb i : Nat) (cs : Array Value) : Prop := ∀ j v, cs[j]? = some v → w.cell? ⟨lb, i + j, none⟩ = some v
theorem HasC.keep {w w' : World} {lb i : Nat} {cs : Array Value} (h : HasC w lb i cs) (hb : Below w.heap.size w w') : HasC w' lb i cs := fun j v hv => (hb.cell (World.block_lt_of_cell? _ _ (h j v hv))).trans (h j v hv)
theorem HasC.kept {w w' : World} {lb i : Nat} {cs : Array Value} (h : HasC w lb i cs) (hb : w'.heap[lb]? = w.heap[lb]?) : HasC w' lb i cs := fun j v hv => (World.cell?_of_block (a := ⟨lb, i + j, none⟩) hb).trans (h j v hv)
theorem HasC.run {w : World} {lb i : Nat} {cs : Array Value} (h : HasC w lb i cs) {ty : TypeId} {d : TypeDesc} (hd : (match d with | .struct _ | .array _ _ => true | _ => false) = true) (hu : P.underlying ty = some d) (hi : (P.info? ty).map (·.size) = some cs.size) :
    (loadVar ty ⟨lb, i, none⟩).run P w = .ok (.agg cs) w := by
  have := run_loadVar_at (P := P) w ⟨lb, i, none⟩ ty cs.toList d (fun j v hv => by
    rw [Addr.add_mid]
    exact h j v (by simpa using hv)) hd hu (by simpa using hi)
  simpa using this
theorem HasC.ld {lb i : Nat} {cs : Array Value} (h : HasC w lb i cs) (hgd : o.guard = none) (ty : TypeId) (x : Operand) (ho : o.op = .load ty x) (hx : a.eval x = .pointer (some ⟨lb, i, none⟩)) {d : TypeDesc} (hd : (match d with | .struct _ | .array _ _ => true | _ => false) = true) (hu : P.underlying ty = some d) (hi : (P.info? ty).map (·.size) = some cs.size)
    (hk : wpList P ops Q rest (a.put o.dst (.agg cs)) w) : wpList P ops Q (o :: rest) a w :=
  wpList_plain hgd fun K hK => by
    have hrun := h.run (P := P) hd hu hi
    unfold Oper.wp execOp
    simp only [ho, hx, Instr.loadAt, Instr.sureAddr, Sem.run_bind, Sem.run_pure, Result.andThen_ok, hrun]
    exact hK _ _ hk
theorem HasC.yi {S : World → Prop} {lb i : Nat} {cs : Array Value} {ty : TypeId} (x : Operand) (ho : o.op = .load ty x) (hg : Region.wanted o (yielded ops a.tmps) = true) (hx : a.eval x = .pointer (some ⟨lb, i, none⟩)) {d : TypeDesc} (hd : (match d with | .struct _ | .array _ _ => true | _ => false) = true) (hu : P.underlying ty = some d) (hi : (P.info? ty).map (·.size) = some cs.size)
    (h : ∀ w, S w → HasC w lb i cs) : YieldsIf P ops S o (.agg cs) a :=
  yi_val hg fun w hw => by
    have hrun := (h w hw).run (P := P) hd hu hi
    unfold execOp
    simp only [ho, hx, Instr.loadAt, Instr.sureAddr, Sem.run_bind, Sem.run_pure, Result.andThen_ok, hrun]
/-- A list of the call's own that holds something: where its elements lie. -/
theorem own_formG {σ : Type} {cc : σ → List Value} {n : Nat} {hl : ∀ s, (cc s).length = n} {h1 : ∀ s, ∀ u ∈ cc s, u.oneCell' = true} {e base : Nat} {ok : Nat → Prop} {W : World} {v : Value} {zs : List σ} (h : (flatK cc n hl h1).R e W base ok v zs) (hp : 0 < zs.length) :
    ∃ g c, v = .slice (some ⟨g, 0, none⟩) zs.length c ∧ base ≤ g ∧ g < W.heap.size ∧ ∀ i s, zs[i]? = some s → HasC W g (i * n) (cc s).toArray := by
  obtain ⟨A, c, rfl, hc1, hC⟩ := Kd.R_reads h
  obtain ⟨inner, hi⟩ := Kd.R_own h
  rcases hi.2 with ⟨he, hn0⟩ | ⟨g, cap, cur, hg, hbg, hgc, _⟩
  · injection he with _ he _
    omega
  · injection hg with hA _ _
    subst hA
    refine ⟨g, c, rfl, hbg, hp_lt hgc, fun i s hs j u hu => ?_⟩
    obtain ⟨ad, hA, hcell⟩ := hC.2.2 hp
    injection hA with hA
    subst hA
    obtain ⟨cs, hcs, hK, hcc⟩ := hcell i s hs
    have hK2 : cs = cc s := hK
    rw [hK2] at hcc
    have := hcc j u (by simpa using hu)
    rw [add_plain] at this
    exact this
/-- A list of one. -/
theorem R_oneG {σ : Type} {cc : σ → List Value} {n : Nat} {hl : ∀ s, (cc s).length = n} {h1 : ∀ s, ∀ u ∈ cc s, u.oneCell' = true} {e base g : Nat} {W : World} {s : σ} {cs : Array Value} (hg : W.heap[g]? = some (.cells cs e (0, 0))) (hcs : cs.toList = cc s) (hb : base ≤ g) :
    (flatK cc n hl h1).R e W base (fun _ => True) (.slice (some ⟨g, 0, none⟩) 1 1) [s] := by
  have hz : cs.size = n := by rw [← Array.length_toList, hcs, hl]
  refine ⟨fun _ _ => trivial, cc s, ⟨?_, .inr ⟨g, 1, cs, rfl, hb, hg, Nat.le_refl _, by unfold maxLen; omega, ?_, ?_⟩⟩, ?_⟩
  · show (cc s).length = [s].length * n
    rw [hl]; simp
  · show cs.size = 1 * n
    rw [hz]; simp
  · show cs.toList.take ([s].length * n) = cc s
    rw [hcs, List.take_of_length_le (by rw [hl]; simp)]
  · have h := (Reps.none (fun (x : σ) (c : List Value) => c = cc x) n).snoc (p := s) (c := cc s) rfl (hl s)
    rw [List.nil_append, List.nil_append] at h
    exact h
/-- A struct is laid into a block just made. -/
theorem st_new {cs old : Array Value} {ty : TypeId} (p q : Operand) (ho : o.op = .store ty p q) (hgd : o.guard = none) (hx : a.eval p = .pointer (some ⟨w.heap.size, 0, none⟩)) (hy : a.eval q = .agg cs) (hi : (P.info? ty).map (·.size) = some cs.size) (hc : old.size = cs.size) (h1 : cs.all (·.oneCell') = true)
    (h : wpList P ops Q rest (a.put o.dst undef) (w.alloc (.cells cs ty))) : wpList P ops Q (o :: rest) a (w.alloc (.cells old ty)) :=
  wpList_store_row hgd ty p q ho w.heap.size _ hx hy ty old (hp_new rfl) hi hc h1 (by rw [World.setRow_alloc_new]; exact h)
end
end Go.Proofs.Ytjckidjljkjhfaa
