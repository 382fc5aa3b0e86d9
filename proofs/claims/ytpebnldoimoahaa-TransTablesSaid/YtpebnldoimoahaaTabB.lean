/- The walk of the program's table's Put. -/
import Derived.Test.YtpebnldoimoahaaTabA
import Derived.Test.YtpebnldoimoahaaWApart
namespace Go.Proofs.Ytpebnldoimoahaa
open Go.RowKit Go.Proofs.YtpebnldoimoahaaW.PrintWords
set_option linter.unusedSimpArgs false
set_option linter.unusedVariables false
set_option maxRecDepth 100000
/-- What Put answers, and the list behind it. -/
def putR (n : Int) (L : List (Int × List Nat)) (x : Int × List Nat) : Nat × Bool × Int × List (Int × List Nat) :=
  if goodT x.1 x.2 = true ∧ x.1 = n then (if x ∈ L then (fndN L x, false, 0, L) else if 512 ≤ L.length then (0, false, 2, L) else (L.length, true, 0, L ++ [x])) else (0, false, 130, L)
theorem putR_ok {n : Int} {L : List (Int × List Nat)} (h : LOk n L) {x : Int × List Nat} (hx : okT x) : LOk n (putR n L x).2.2.2 := by
  unfold putR
  split
  · split
    · exact h
    · rename_i hm
      split
      · exact h
      · refine ⟨fun y hy => ?_, ?_, by simp; omega, h.b⟩
        · rcases List.mem_append.1 hy with hy | hy
          · exact h.ok y hy
          · rw [List.mem_singleton.1 hy]; exact hx
        · exact List.nodup_append.2 ⟨h.nd, by simp, fun a ha b hb e => hm (by rw [List.mem_singleton.1 hb] at e; exact e ▸ ha)⟩
  · exact h
def PutR (w : World) (base : Nat) (c : Nat → Nat) (i : Nat) (x : Value) (n : Int) (r : Nat × Bool × Int × List (Int × List Nat)) (e : Ending) (w' : World) : Prop :=
  e = .returned (.tuple #[.int .i64 ((r.1 : Nat) : Int), .bool r.2.1, .int .i64 r.2.2.1]) ∧ PTab w' base c i x n r.2.2.2 ∧ Fr w w' base (fun k => c k = i ∨ c k = i + 1 ∨ c k = i + 2)
theorem run_row1 (n : Int) (ws : List Nat) (h : ws.length = 7) (W : World) :
    (Instr.buildSlice 53 1 #[(0, .agg (tvv n ws))]).run Try.prog W = .ok (.slice (some ⟨W.heap.size, 0, none⟩) 1 1) (W.alloc (.cells (tvv n ws) 26 (0, 0))) := by
  have hinfo : (Try.prog.info? 26).map (fun i => (i.zero, i.size, i.bytes)) = some (some (.agg #[.int .i64 0, .int .u64 0, .int .u64 0, .int .u64 0, .int .u64 0, .int .u64 0, .int .u64 0, .int .u64 0]), 8, 64) := by kernel_rfl
  obtain ⟨i0, hi, hz0, hz1, hz2⟩ := info_parts hinfo
  match ws, h with
  | [x0, x1, x2, x3, x4, x5, x6], _ =>
    simp [Instr.buildSlice, run_underlying Try.underlying53, sizeOf, typeInfo, zeroValue, hi, hz0, hz1, Result.andThen, Instr.fill, Value.cells, tvv, newRow, show Array.range 8 = #[0, 1, 2, 3, 4, 5, 6, 7] from rfl]
section
variable {ops : Array Oper} {Q : Exit → Act → World → Prop} {o : Oper} {a : Act} {w : World} {K : Act → World → Prop}
/-- A variadic's box of one packed value. -/
theorem wp_row1 (x : Operand) (ho : o.op = .buildSlice 53 1 #[(0, x)]) {n : Int} {ws : List Nat} (hx : a.eval x = .agg (tvv n ws)) (hl : ws.length = 7)
    (h : K (a.put o.dst (.slice (some ⟨w.heap.size, 0, none⟩) 1 1)) (w.alloc (.cells (tvv n ws).toList.toArray 26 (0, 0)))) : o.wp Try.prog a w K Q := by
  have h1 := run_row1 n ws hl w
  have h2 : (execOp a.eval o).run Try.prog w = .ok (.value (.slice (some ⟨w.heap.size, 0, none⟩) 1 1)) (w.alloc (.cells (tvv n ws) 26 (0, 0))) := by
    unfold execOp
    simp [ho, hx, h1, Sem.run_bind, Result.andThen_ok]
  unfold Oper.wp
  rw [h2, Oper.upon_value]
  rw [Array.toArray_toList] at h
  exact h
theorem run_store1 {P : Program} (w : World) (b j : Nat) (ty : TypeId) (v u : Value) (hi : (P.info? ty).map (·.size) = some 1) (hv : v.cells = #[v]) (h1 : v.oneCell' = true) (hc : w.cell? ⟨b, j, none⟩ = some u) (hf : w.frozen? ⟨b, j, none⟩ = false) :
    (Instr.storeAt ty (.pointer (some ⟨b, j, none⟩)) v).run P w = .ok () (w.setCell ⟨b, j, none⟩ v) := by
  have h := run_storeCells_cells (P := P) b j [v] 0 w (fun k hk => by obtain rfl : k = 0 := (by simpa using hk); simp [hc]) (fun k hk => by obtain rfl : k = 0 := (by simpa using hk); simpa using hf) (fun x hx => by rw [List.mem_singleton.1 hx]; exact h1)
  cases hq : P.info? ty with
  | none => simp [hq] at hi
  | some i =>
    have hs : i.size = 1 := by simpa [hq] using hi
    simp [Instr.storeAt, Instr.sureAddr, storeVar, sizeOf, typeInfo, hq, hs, hv, h, World.setCells, Sem.run_bind, Result.andThen_ok]
theorem wp_load1 (ty : TypeId) (x : Operand) (ho : o.op = .load ty x) (ad : Addr) (hx : a.eval x = .pointer (some ad)) {v : Value} (d : TypeDesc) (hu : Try.prog.underlying ty = some d) (hd : (match d with | .struct _ | .array _ _ => false | _ => true) = true) (hc : w.cell? ad = some v)
    (h : K (a.put o.dst v) w) : o.wp Try.prog a w K Q := by
  have hagg : (isAgg ty).run Try.prog w = .ok false w := by
    unfold isAgg
    rw [Sem.run_bind, run_underlying hu w]
    cases d <;> simp_all
  have h2 : (execOp a.eval o).run Try.prog w = .ok (.value v) w := by
    unfold execOp
    simp only [ho, hx, Instr.loadAt, Instr.sureAddr, Sem.run_bind, Sem.run_pure, Result.andThen_ok]
    simp [loadVar, Sem.run_bind, hagg, hc]
  unfold Oper.wp
  rw [h2, Oper.upon_value]
  exact h
theorem wp_store1 (ty : TypeId) (x y : Operand) (ho : o.op = .store ty x y) (b j : Nat) (v u : Value) (hx : a.eval x = .pointer (some ⟨b, j, none⟩)) (hy : a.eval y = v) (hi : (Try.prog.info? ty).map (·.size) = some 1) (hv : v.cells = #[v]) (h1 : v.oneCell' = true) (hc : w.cell? ⟨b, j, none⟩ = some u) (hf : w.frozen? ⟨b, j, none⟩ = false)
    (h : K (a.put o.dst undef) (w.setCell ⟨b, j, none⟩ v)) : o.wp Try.prog a w K Q := by
  have h1 := run_store1 (P := Try.prog) w b j ty v u hi hv h1 hc hf
  unfold Oper.wp execOp
  simp only [ho, hx, hy, Sem.run_bind, h1, Result.andThen_ok, Sem.run_pure]
  exact h
end
section
variable {α : Type} {P : Program} {l : List Oper} {Q : Exit → Act → World → Prop} {md : Region.Mode} {S : World → Prop} {o : Oper} {a : Act}
/-- An append onto a list of the call's own, the one operation that comes next. -/
theorem any_append (d : Kd α) {w0 W : World} (base : Nat) {fuel : Nat} {listed : Array Bool} {i : Nat} (hi : l[i]? = some o) (hr : Region.ready md l.toArray listed = [i]) (hg : Region.wanted o (yielded l.toArray a.tmps) = true) (s x : Operand) (t e : TypeId) (z : Value) (bytes : Nat)
    (ho : o.op = .call { callee := .builtin .append, args := #[s, x], argTypes := #[t, t] })
    (ht : P.underlying t = some (.slice e)) (hinfo : (P.info? e).map (fun i => (i.zero, i.size, i.bytes)) = some (some z, d.sz, bytes)) (hz : z.cells.size = d.sz) (hs0 : 0 < d.sz) (hb0 : 0 < bytes)
    (v : Value) (xs : List α) (p : α) (cs : List Value) (ok okp : Nat → Prop) (hs : a.eval s = v) (hx : a.eval x = .slice (some ⟨W.heap.size, 0, none⟩) 1 1) (hp : d.M W base okp p cs) (hokp : ∀ k, okp k → ok k ∧ some k ≠ v.ownBlock) (hfresh : ∀ k, W.heap.size ≤ k → ok k)
    (HO : d.R e W base ok v xs) (HB : Below base w0 W) (hbase : base ≤ W.heap.size) (hl : (xs.length + 1) * bytes ≤ 140737488355328)
    (h : ∀ v1 w1, d.R e w1 base ok v1 (xs ++ [p]) → Below base w0 w1 → W.grownBy w1 v.ownBlock → S w1 ∧ wpAnyH P md l.toArray Q S fuel (listed.setIfInBounds i true) (a.put o.dst v1) w1) :
    wpAnyH P md l.toArray Q S (fuel + 1) listed a (W.alloc (.cells cs.toArray e)) :=
  any_one hi hr hg <| by
    have h1 := Kd.R_append_step (Kc := fun a' w' => S w' ∧ wpAnyH P md l.toArray Q S fuel (listed.setIfInBounds i true) a' w') (Q := Q) d base hg s x t e z bytes ho ht hinfo hz hs0 hb0 v xs p cs ok okp hs hx hp hokp hfresh HO HB hbase hl (fun v1 w1 h1 h2 h3 _ => h v1 w1 h1 h2 h3)
    rwa [if_pos hg] at h1
end
variable {w : World} {base : Nat} {c : Nat → Nat} {i g b : Nat} {sl : Value} {n : Int} {L : List (Int × List Nat)}
/-- What is no transformation, or one of other points. -/
theorem put_no1 (h : PTabAt w base c i g b sl n L) (hL : LOk n L) (hbase : base ≤ w.heap.size) (x : Int × List Nat) (hx : okT x) (hg : goodT x.1 x.2 = false) :
    Calls Try.prog 61 #[.pointer (some ⟨g, 0, none⟩), .agg (tvv x.1 x.2)] w (PutR w base c i (.pointer (some ⟨g, 0, none⟩)) n (putR n L x)) := by
  rw [show putR n L x = (0, false, 130, L) by unfold putR; rw [hg]; rw [if_neg (by simp)]]
  have H := Lib.hid (h.below (bl_alloc (Below.refl w.heap.size w) (TR x.1 x.2)))
  have HX := Lib.hid hx
  have HT := Lib.hid h
  have HBS := Lib.hid hbase
  have hlt := hp_lt h.var
  have HCK := Aside0.mk (check_any x.1 x.2 hx.1 (Lib.hid hx.2.1))
  rw [hg] at HCK
  clear h hL hx hg hbase
  go_enter Try.func61, Try.ntmps61
  go_wp2_with fail
  refine (good_alive H.out).mono ?_
  rintro e w' ⟨rfl, rfl⟩
  go_wp2
  refine wp_region_held_drew (S := fun w' => w'.heap[w.heap.size]? = some (TR x.1 x.2) ∧ Below w.heap.size w w') (by kernel_rfl) ⟨hp_new rfl, (bl_alloc (Below.refl _ _) _).drew⟩ (fun hS => ?_)
  refine any_take (i := 0) rfl (by kernel_rfl) (by kernel_rfl) (by kernel_rfl) (fun _ _ _ h => h) hS (yi_row _ _ rfl (by rfl) (w.heap.size) rfl ((tvv x.1 x.2)) _ Try.underlying26 rfl ((tr_z _ _ HX.out.1)) (fun w' h' => ⟨_, _, h'.1⟩)) ?_
  (try simp only [Act.put, List.setIfInBounds_toArray, List.set_cons_zero, List.set_cons_succ])
  refine any_call (i := 1) rfl (by kernel_rfl) (by rfl) 18 #[.agg (tvv x.1 x.2)] ?x2 (HCK.out _) ?_
  case x2 => (simp [go_sem])
  (try simp only [Act.put, List.setIfInBounds_toArray, List.set_cons_zero, List.set_cons_succ])
  rintro e w2 ⟨rfl, hb⟩
  have hS2 : w2.heap[w.heap.size]? = some (TR x.1 x.2) ∧ Below w.heap.size w w2 := ⟨hp_below' hb hS.1, bl_then hS.2 hb⟩
  refine ⟨_, rfl, hS2, ?_⟩
  (try simp only [Act.put, List.setIfInBounds_toArray, List.set_cons_zero, List.set_cons_succ])
  refine any_take (i := 2) (v := .bool true) rfl (by kernel_rfl) (by kernel_rfl) (by kernel_rfl) (fun _ _ _ h => h) hS2 (yi_val (by rfl) (fun w' h' => ?y5)) ?_
  case y5 => first | rfl | (go_simp; done) | (go_simp; omega)
  (try simp only [Act.put, List.setIfInBounds_toArray, List.set_cons_zero, List.set_cons_succ])
  refine any_take (i := 3) (v := ?v7) rfl (by kernel_rfl) (by kernel_rfl) (by kernel_rfl) (fun _ _ _ h => h) hS2 (.inl ⟨by rfl, ?y7⟩) ?_
  case y7 => (intro w' h'; go_simp; with_reducible rfl)
  (try simp only [Act.put, List.setIfInBounds_toArray, List.set_cons_zero, List.set_cons_succ])
  refine any_take (i := 4) (v := undef) rfl (by kernel_rfl) (by kernel_rfl) (by kernel_rfl) (fun _ _ _ h => h) hS2 (.inr ⟨by rfl, rfl⟩) ?_
  (try simp only [Act.put, List.setIfInBounds_toArray, List.set_cons_zero, List.set_cons_succ])
  refine any_take (i := 5) (v := undef) rfl (by kernel_rfl) (by kernel_rfl) (by kernel_rfl) (fun _ _ _ h => h) hS2 (.inr ⟨by rfl, rfl⟩) ?_
  (try simp only [Act.put, List.setIfInBounds_toArray, List.set_cons_zero, List.set_cons_succ])
  refine any_take (i := 6) (v := undef) rfl (by kernel_rfl) (by kernel_rfl) (by kernel_rfl) (fun _ _ _ h => h) hS2 (.inr ⟨by rfl, rfl⟩) ?_
  (try simp only [Act.put, List.setIfInBounds_toArray, List.set_cons_zero, List.set_cons_succ])
  refine any_take (i := 7) (v := undef) rfl (by kernel_rfl) (by kernel_rfl) (by kernel_rfl) (fun _ _ _ h => h) hS2 (.inr ⟨by rfl, rfl⟩) ?_
  (try simp only [Act.put, List.setIfInBounds_toArray, List.set_cons_zero, List.set_cons_succ])
  refine any_take (i := 8) (v := undef) rfl (by kernel_rfl) (by kernel_rfl) (by kernel_rfl) (fun _ _ _ h => h) hS2 (.inr ⟨by rfl, rfl⟩) ?_
  (try simp only [Act.put, List.setIfInBounds_toArray, List.set_cons_zero, List.set_cons_succ])
  refine any_take (i := 9) (v := undef) rfl (by kernel_rfl) (by kernel_rfl) (by kernel_rfl) (fun _ _ _ h => h) hS2 (.inr ⟨by rfl, rfl⟩) ?_
  (try simp only [Act.put, List.setIfInBounds_toArray, List.set_cons_zero, List.set_cons_succ])
  refine any_take (i := 10) (v := undef) rfl (by kernel_rfl) (by kernel_rfl) (by kernel_rfl) (fun _ _ _ h => h) hS2 (.inr ⟨by rfl, rfl⟩) ?_
  (try simp only [Act.put, List.setIfInBounds_toArray, List.set_cons_zero, List.set_cons_succ])
  refine any_take (i := 11) (v := ?v10) rfl (by kernel_rfl) (by kernel_rfl) (by kernel_rfl) (fun _ _ _ h => h) hS2 (.inl ⟨by rfl, ?y10⟩) ?_
  case y10 => (intro w' h'; go_simp; with_reducible rfl)
  (try simp only [Act.put, List.setIfInBounds_toArray, List.set_cons_zero, List.set_cons_succ])
  refine wpAnyH_done (by kernel_rfl) ?_ _
  have HB2 := Lib.hid hS2.2
  clear hS hS2 hb HCK
  go_wp2
  go_ret3
  exact ⟨rfl, ⟨_, _, _, rfl, HT.out.below HB2.out⟩, Fr.of_below HB2.out HBS.out⟩
theorem put_no2 (h : PTabAt w base c i g b sl n L) (hL : LOk n L) (hbase : base ≤ w.heap.size) (x : Int × List Nat) (hx : okT x) (hg : goodT x.1 x.2 = true) (hn : x.1 ≠ n) :
    Calls Try.prog 61 #[.pointer (some ⟨g, 0, none⟩), .agg (tvv x.1 x.2)] w (PutR w base c i (.pointer (some ⟨g, 0, none⟩)) n (putR n L x)) := by
  rw [show putR n L x = (0, false, 130, L) by unfold putR; rw [if_neg (fun e => hn e.2)]]
  have H := Lib.hid (h.below (bl_alloc (Below.refl w.heap.size w) (TR x.1 x.2)))
  have HX := Lib.hid hx
  have HT := Lib.hid h
  have HBS := Lib.hid hbase
  have HV := Lib.hid h.var
  have HN : Hid ((x.1 != n) = true) := Lib.hid (by rw [bne_iff_ne]; exact hn)
  have hlt := hp_lt h.var
  have HCK := Aside0.mk (check_any x.1 x.2 hx.1 (Lib.hid hx.2.1))
  rw [hg] at HCK
  clear h hL hx hg hbase hn
  go_enter Try.func61, Try.ntmps61
  go_wp2_with fail
  refine (good_alive H.out).mono ?_
  rintro e w' ⟨rfl, rfl⟩
  go_wp2
  refine wp_region_held_drew (S := fun w' => w'.heap[w.heap.size]? = some (TR x.1 x.2) ∧ w'.heap[g]? = some (.cells #[.int .i64 n, .map (some b), sl] 55 (0, 0)) ∧ Below w.heap.size w w') (by kernel_rfl) ⟨hp_new rfl, hp_old HV.out, (bl_alloc (Below.refl _ _) _).drew⟩ (fun hS => ?_)
  refine any_take (i := 0) rfl (by kernel_rfl) (by kernel_rfl) (by kernel_rfl) (fun _ _ _ h => h) hS (yi_row _ _ rfl (by rfl) (w.heap.size) rfl ((tvv x.1 x.2)) _ Try.underlying26 rfl ((tr_z _ _ HX.out.1)) (fun w' h' => ⟨_, _, h'.1⟩)) ?_
  (try simp only [Act.put, List.setIfInBounds_toArray, List.set_cons_zero, List.set_cons_succ])
  refine any_call (i := 1) rfl (by kernel_rfl) (by rfl) 18 #[.agg (tvv x.1 x.2)] ?x13 (HCK.out _) ?_
  case x13 => (simp [go_sem])
  (try simp only [Act.put, List.setIfInBounds_toArray, List.set_cons_zero, List.set_cons_succ])
  rintro e w2 ⟨rfl, hb⟩
  have hS2 : w2.heap[w.heap.size]? = some (TR x.1 x.2) ∧ w2.heap[g]? = some (.cells #[.int .i64 n, .map (some b), sl] 55 (0, 0)) ∧ Below w.heap.size w w2 := ⟨hp_below' hb hS.1, hp_below' hb hS.2.1, bl_then hS.2.2 hb⟩
  refine ⟨_, rfl, hS2, ?_⟩
  (try simp only [Act.put, List.setIfInBounds_toArray, List.set_cons_zero, List.set_cons_succ])
  refine any_take (i := 2) (v := .bool false) rfl (by kernel_rfl) (by kernel_rfl) (by kernel_rfl) (fun _ _ _ h => h) hS2 (yi_val (by rfl) (fun w' h' => ?y16)) ?_
  case y16 => first | rfl | (go_simp; done) | (go_simp; omega)
  (try simp only [Act.put, List.setIfInBounds_toArray, List.set_cons_zero, List.set_cons_succ])
  refine any_take (i := 3) (v := ?v18) rfl (by kernel_rfl) (by kernel_rfl) (by kernel_rfl) (fun _ _ _ h => h) hS2 (.inl ⟨by rfl, ?y18⟩) ?_
  case y18 => (intro w' h'; go_simp; with_reducible rfl)
  (try simp only [Act.put, List.setIfInBounds_toArray, List.set_cons_zero, List.set_cons_succ])
  refine any_take (i := 4) (v := ?v19) rfl (by kernel_rfl) (by kernel_rfl) (by kernel_rfl) (fun _ _ _ h => h) hS2 (.inl ⟨by rfl, ?y19⟩) ?_
  case y19 => (intro w' h'; go_simp; with_reducible rfl)
  (try simp only [Act.put, List.setIfInBounds_toArray, List.set_cons_zero, List.set_cons_succ])
  refine any_take (i := 5) (v := .int .i64 x.1) rfl (by kernel_rfl) (by kernel_rfl) (by kernel_rfl) (fun _ _ _ h => h) hS2 (yi_cell _ _ rfl (by rfl) ⟨w.heap.size, 0, none⟩ rfl _ Try.underlying3 rfl (fun w' h' => (cell_of_row _ _ _ _ _ _ h'.1).trans (tvv_zero _ _))) ?_
  (try simp only [Act.put, List.setIfInBounds_toArray, List.set_cons_zero, List.set_cons_succ])
  refine any_take (i := 6) (v := ?v22) rfl (by kernel_rfl) (by kernel_rfl) (by kernel_rfl) (fun _ _ _ h => h) hS2 (.inl ⟨by rfl, ?y22⟩) ?_
  case y22 => (intro w' h'; go_simp; with_reducible rfl)
  (try simp only [Act.put, List.setIfInBounds_toArray, List.set_cons_zero, List.set_cons_succ])
  refine any_take (i := 7) (v := ?v23) rfl (by kernel_rfl) (by kernel_rfl) (by kernel_rfl) (fun _ _ _ h => h) hS2 (.inl ⟨by rfl, ?y23⟩) ?_
  case y23 => (intro w' h'; go_simp; with_reducible rfl)
  (try simp only [Act.put, List.setIfInBounds_toArray, List.set_cons_zero, List.set_cons_succ])
  refine any_take (i := 8) (v := ?v24) rfl (by kernel_rfl) (by kernel_rfl) (by kernel_rfl) (fun _ _ _ h => h) hS2 (.inl ⟨by rfl, ?y24⟩) ?_
  case y24 => (intro w' h'; go_simp; with_reducible rfl)
  (try simp only [Act.put, List.setIfInBounds_toArray, List.set_cons_zero, List.set_cons_succ])
  refine any_take (i := 9) (v := .int .i64 n) rfl (by kernel_rfl) (by kernel_rfl) (by kernel_rfl) (fun _ _ _ h => h) hS2 (yi_cell _ _ rfl (by rfl) ⟨g, 0, none⟩ rfl _ Try.underlying3 rfl (fun w' h' => (by rw [cell_of_row _ _ _ _ _ _ h'.2.1]; rfl))) ?_
  (try simp only [Act.put, List.setIfInBounds_toArray, List.set_cons_zero, List.set_cons_succ])
  have hne := HN.out
  refine any_take (i := 10) (v := .bool true) rfl (by kernel_rfl) (by kernel_rfl) (by kernel_rfl) (fun _ _ _ h => h) hS2 (yi_val (by rfl) (fun w' h' => ?y26)) ?_
  case y26 => first | rfl | (go_simp; done) | (go_simp; omega)
  (try simp only [Act.put, List.setIfInBounds_toArray, List.set_cons_zero, List.set_cons_succ])
  refine any_take (i := 11) (v := ?v28) rfl (by kernel_rfl) (by kernel_rfl) (by kernel_rfl) (fun _ _ _ h => h) hS2 (.inl ⟨by rfl, ?y28⟩) ?_
  case y28 => (intro w' h'; go_simp; with_reducible rfl)
  (try simp only [Act.put, List.setIfInBounds_toArray, List.set_cons_zero, List.set_cons_succ])
  refine wpAnyH_done (by kernel_rfl) ?_ _
  have HB2 := Lib.hid hS2.2.2
  clear hS hS2 hb HCK hne HV
  go_wp2
  go_ret3
  exact ⟨rfl, ⟨_, _, _, rfl, HT.out.below HB2.out⟩, Fr.of_below HB2.out HBS.out⟩
theorem put_end (h : PTabAt w base c i g b sl n L) {w2 w4 w1 : World} {v1 : Value} {x : Int × List Nat} (hb2 : Below w.heap.size w w2) (hmap : MapIs w4 b (ents (L ++ [x]))) (hturn : Turned w2.drew.drew w4 b) (hb : Below base w w1) (hg : w4.drew.grownBy w1 sl.ownBlock)
    (ho : trKd.R 26 w1 base (fun k => c k = i) v1 (L ++ [x])) (hv : w1.heap[g]? = some (.cells #[.int .i64 n, .map (some b), sl] 55 (0, 0))) (hb4 : b < w4.heap.size) :
    PTabAt (w1.setCell ⟨g, 2, none⟩ v1) base c i g b v1 n (L ++ [x]) ∧ Fr w (w1.setCell ⟨g, 2, none⟩ v1) base (fun k => c k = i ∨ c k = i + 1 ∨ c k = i + 2) := by
  have hbg : b ≠ g := by rintro rfl; have h1 := h.cg; have h2 := h.cb; omega
  have hown : ∀ k, sl.ownBlock = some k → c k = i := h.row.1
  have hsz : w.heap.size ≤ w4.heap.size := by rw [hturn.size]; exact hb2.size
  refine ⟨⟨?_, ?_, ?_, h.cg, h.cb, h.bg, h.bb⟩, ?_, ?_, ?_⟩
  · rw [heap_setCell_same _ _ _ _ _ _ hv]; rfl
  · refine hmap.of ?_
    rw [heap_setCell_other _ _ _ _ (by show b ≠ g; exact hbg)]
    exact hg.block b hb4 (fun e => by have := hown b e.symm; have := h.cb; omega)
  · exact Kd.R_far ho (p := ⟨g, 2, none⟩) (fun k hk => by rintro rfl; have := h.cg; show False; omega) v1
  · exact hb.setCell (p := ⟨g, 2, none⟩) h.bg v1
  · exact Nat.le_trans hsz (Nat.le_trans hg.size (by simp))
  · intro k hk hM
    have hkg : k ≠ g := by rintro rfl; exact hM (.inr (.inl h.cg))
    have hkb : k ≠ b := by rintro rfl; exact hM (.inr (.inr h.cb))
    rw [heap_setCell_other _ _ _ _ (by show k ≠ g; exact hkg)]
    refine (hg.block k (Nat.lt_of_lt_of_le hk hsz) (fun e => hM (.inl (hown k e.symm)))).trans ?_
    exact (hturn.block k hkb).trans (hb2.block k hk)
/-- A transformation of n points. -/
theorem put_yes (h : PTabAt w base c i g b sl n L) (hL : LOk n L) (hbase : base ≤ w.heap.size) (hf : ∀ k, w.heap.size ≤ k → c k = i) (x : Int × List Nat) (hx : okT x) (hg : goodT x.1 x.2 = true) (hn : x.1 = n) :
    Calls Try.prog 61 #[.pointer (some ⟨g, 0, none⟩), .agg (tvv x.1 x.2)] w (PutR w base c i (.pointer (some ⟨g, 0, none⟩)) n (putR n L x)) := by
  have HR : Hid (putR n L x = if x ∈ L then (fndN L x, false, 0, L) else if 512 ≤ L.length then (0, false, 2, L) else (L.length, true, 0, L ++ [x])) := Lib.hid (by unfold putR; rw [if_pos ⟨hg, hn⟩])
  generalize putR n L x = R at *
  have H := Lib.hid (h.below (bl_alloc (Below.refl w.heap.size w) (TR x.1 x.2)))
  have HX := Lib.hid hx
  have HL := Lib.hid hL
  have HF := Lib.hid hf
  have HT := Lib.hid h
  have HBS := Lib.hid hbase
  have HV := Lib.hid h.var
  have HN : Hid ((x.1 != n) = false) := Lib.hid (by rw [bne_eq_false_iff_eq]; exact hn)
  have hlt := hp_lt h.var
  have HCK := Aside0.mk (check_any x.1 x.2 hx.1 (Lib.hid hx.2.1))
  rw [hg] at HCK
  clear h hL hx hg hbase hn hf
  go_enter Try.func61, Try.ntmps61
  go_wp2_with fail
  refine (good_alive H.out).mono ?_
  rintro e w' ⟨rfl, rfl⟩
  go_wp2
  refine wp_region_held_drew (S := fun w' => w'.heap[w.heap.size]? = some (TR x.1 x.2) ∧ w'.heap[g]? = some (.cells #[.int .i64 n, .map (some b), sl] 55 (0, 0)) ∧ Below w.heap.size w w') (by kernel_rfl) ⟨hp_new rfl, hp_old HV.out, (bl_alloc (Below.refl _ _) _).drew⟩ (fun hS => ?_)
  refine any_take (i := 0) rfl (by kernel_rfl) (by kernel_rfl) (by kernel_rfl) (fun _ _ _ h => h) hS (yi_row _ _ rfl (by rfl) (w.heap.size) rfl ((tvv x.1 x.2)) _ Try.underlying26 rfl ((tr_z _ _ HX.out.1)) (fun w' h' => ⟨_, _, h'.1⟩)) ?_
  (try simp only [Act.put, List.setIfInBounds_toArray, List.set_cons_zero, List.set_cons_succ])
  refine any_call (i := 1) rfl (by kernel_rfl) (by rfl) 18 #[.agg (tvv x.1 x.2)] ?x31 (HCK.out _) ?_
  case x31 => (simp [go_sem])
  (try simp only [Act.put, List.setIfInBounds_toArray, List.set_cons_zero, List.set_cons_succ])
  rintro e w2 ⟨rfl, hb⟩
  have hS2 : w2.heap[w.heap.size]? = some (TR x.1 x.2) ∧ w2.heap[g]? = some (.cells #[.int .i64 n, .map (some b), sl] 55 (0, 0)) ∧ Below w.heap.size w w2 := ⟨hp_below' hb hS.1, hp_below' hb hS.2.1, bl_then hS.2.2 hb⟩
  refine ⟨_, rfl, hS2, ?_⟩
  (try simp only [Act.put, List.setIfInBounds_toArray, List.set_cons_zero, List.set_cons_succ])
  refine any_take (i := 2) (v := .bool false) rfl (by kernel_rfl) (by kernel_rfl) (by kernel_rfl) (fun _ _ _ h => h) hS2 (yi_val (by rfl) (fun w' h' => ?y34)) ?_
  case y34 => first | rfl | (go_simp; done) | (go_simp; omega)
  (try simp only [Act.put, List.setIfInBounds_toArray, List.set_cons_zero, List.set_cons_succ])
  refine any_take (i := 3) (v := ?v36) rfl (by kernel_rfl) (by kernel_rfl) (by kernel_rfl) (fun _ _ _ h => h) hS2 (.inl ⟨by rfl, ?y36⟩) ?_
  case y36 => (intro w' h'; go_simp; with_reducible rfl)
  (try simp only [Act.put, List.setIfInBounds_toArray, List.set_cons_zero, List.set_cons_succ])
  refine any_take (i := 4) (v := ?v37) rfl (by kernel_rfl) (by kernel_rfl) (by kernel_rfl) (fun _ _ _ h => h) hS2 (.inl ⟨by rfl, ?y37⟩) ?_
  case y37 => (intro w' h'; go_simp; with_reducible rfl)
  (try simp only [Act.put, List.setIfInBounds_toArray, List.set_cons_zero, List.set_cons_succ])
  refine any_take (i := 5) (v := .int .i64 x.1) rfl (by kernel_rfl) (by kernel_rfl) (by kernel_rfl) (fun _ _ _ h => h) hS2 (yi_cell _ _ rfl (by rfl) ⟨w.heap.size, 0, none⟩ rfl _ Try.underlying3 rfl (fun w' h' => (cell_of_row _ _ _ _ _ _ h'.1).trans (tvv_zero _ _))) ?_
  (try simp only [Act.put, List.setIfInBounds_toArray, List.set_cons_zero, List.set_cons_succ])
  refine any_take (i := 6) (v := ?v40) rfl (by kernel_rfl) (by kernel_rfl) (by kernel_rfl) (fun _ _ _ h => h) hS2 (.inl ⟨by rfl, ?y40⟩) ?_
  case y40 => (intro w' h'; go_simp; with_reducible rfl)
  (try simp only [Act.put, List.setIfInBounds_toArray, List.set_cons_zero, List.set_cons_succ])
  refine any_take (i := 7) (v := ?v41) rfl (by kernel_rfl) (by kernel_rfl) (by kernel_rfl) (fun _ _ _ h => h) hS2 (.inl ⟨by rfl, ?y41⟩) ?_
  case y41 => (intro w' h'; go_simp; with_reducible rfl)
  (try simp only [Act.put, List.setIfInBounds_toArray, List.set_cons_zero, List.set_cons_succ])
  refine any_take (i := 8) (v := ?v42) rfl (by kernel_rfl) (by kernel_rfl) (by kernel_rfl) (fun _ _ _ h => h) hS2 (.inl ⟨by rfl, ?y42⟩) ?_
  case y42 => (intro w' h'; go_simp; with_reducible rfl)
  (try simp only [Act.put, List.setIfInBounds_toArray, List.set_cons_zero, List.set_cons_succ])
  refine any_take (i := 9) (v := .int .i64 n) rfl (by kernel_rfl) (by kernel_rfl) (by kernel_rfl) (fun _ _ _ h => h) hS2 (yi_cell _ _ rfl (by rfl) ⟨g, 0, none⟩ rfl _ Try.underlying3 rfl (fun w' h' => (by rw [cell_of_row _ _ _ _ _ _ h'.2.1]; rfl))) ?_
  (try simp only [Act.put, List.setIfInBounds_toArray, List.set_cons_zero, List.set_cons_succ])
  have hne := HN.out
  refine any_take (i := 10) (v := .bool false) rfl (by kernel_rfl) (by kernel_rfl) (by kernel_rfl) (fun _ _ _ h => h) hS2 (yi_val (by rfl) (fun w' h' => ?y44)) ?_
  case y44 => first | rfl | (go_simp; done) | (go_simp; omega)
  (try simp only [Act.put, List.setIfInBounds_toArray, List.set_cons_zero, List.set_cons_succ])
  refine any_take (i := 11) (v := ?v46) rfl (by kernel_rfl) (by kernel_rfl) (by kernel_rfl) (fun _ _ _ h => h) hS2 (.inl ⟨by rfl, ?y46⟩) ?_
  case y46 => (intro w' h'; go_simp; with_reducible rfl)
  (try simp only [Act.put, List.setIfInBounds_toArray, List.set_cons_zero, List.set_cons_succ])
  refine wpAnyH_done (by kernel_rfl) ?_ _
  have HB2 := Lib.hid hS2.2.2
  have HX2 := Lib.hid hS2.1
  have HT2 := Lib.hid (HT.out.below hS2.2.2)
  clear hS hS2 hb HCK hne HV H HN
  have HLK := Lib.hid (look_run HL.out HX.out (w := w2.drew) HT2.out.map)
  by_cases hm : x ∈ L
  · obtain rfl : R = (fndN L x, false, 0, L) := by rw [HR.out, if_pos hm]
    have HM := Lib.hid hm
    rw [decide_eq_true hm] at HLK
    clear hm HR
    generalize fndN L x = f at *
    go_wp2
    refine wp_region_held_drew (S := fun w' => w' = w2.drew) (by kernel_rfl) rfl (fun hS => ?_)
    have e0 : w2.drew.heap[g]? = some (.cells #[.int .i64 n, .map (some b), sl] 55 (0, 0)) := HT2.out.var
    have e1 : w2.drew.heap[w.heap.size]? = some (TR x.1 x.2) := HX2.out
    refine any_take (i := 0) (v := ?v49) rfl (by kernel_rfl) (by kernel_rfl) (by kernel_rfl) (fun _ _ _ h => h) hS (.inl ⟨by rfl, ?y49⟩) ?_
    case y49 => (intro w' h'; go_simp; with_reducible rfl)
    (try simp only [Act.put, List.setIfInBounds_toArray, List.set_cons_zero, List.set_cons_succ])
    refine any_take (i := 1) (v := ?v50) rfl (by kernel_rfl) (by kernel_rfl) (by kernel_rfl) (fun _ _ _ h => h) hS (.inl ⟨by rfl, ?y50⟩) ?_
    case y50 => (intro w' h'; go_simp; with_reducible rfl)
    (try simp only [Act.put, List.setIfInBounds_toArray, List.set_cons_zero, List.set_cons_succ])
    refine any_take (i := 2) (v := ?v51) rfl (by kernel_rfl) (by kernel_rfl) (by kernel_rfl) (fun _ _ _ h => h) hS (.inl ⟨by rfl, ?y51⟩) ?_
    case y51 => (intro w' h'; go_simp; with_reducible rfl)
    (try simp only [Act.put, List.setIfInBounds_toArray, List.set_cons_zero, List.set_cons_succ])
    refine any_take (i := 3) (v := .map (some b)) rfl (by kernel_rfl) (by kernel_rfl) (by kernel_rfl) (fun _ _ _ h => h) hS (yi_cell _ _ rfl (by rfl) ⟨g, 1, none⟩ rfl _ Try.underlying52 rfl (fun w' h' => (by rw [h', cell_of_row _ _ _ _ _ _ e0]; rfl))) ?_
    (try simp only [Act.put, List.setIfInBounds_toArray, List.set_cons_zero, List.set_cons_succ])
    refine any_take (i := 4) rfl (by kernel_rfl) (by kernel_rfl) (by kernel_rfl) (fun _ _ _ h => h) hS (yi_row _ _ rfl (by rfl) (w.heap.size) rfl ((tvv x.1 x.2)) _ Try.underlying26 rfl ((tr_z _ _ HX.out.1)) (fun w' h' => ⟨_, _, ((congrArg (fun W : World => W.heap[w.heap.size]?) h').trans e1)⟩)) ?_
    (try simp only [Act.put, List.setIfInBounds_toArray, List.set_cons_zero, List.set_cons_succ])
    refine any_take (i := 5) (v := .tuple #[.int .i64 ((f : Nat) : Int), .bool true]) rfl (by kernel_rfl) (by kernel_rfl) (by kernel_rfl) (fun _ _ _ h => h) hS (yi_look _ _ _ _ rfl (by rfl) (fun w' h' => (by rw [h']; exact HLK.out))) ?_
    (try simp only [Act.put, List.setIfInBounds_toArray, List.set_cons_zero, List.set_cons_succ])
    refine any_take (i := 6) (v := ?v56) rfl (by kernel_rfl) (by kernel_rfl) (by kernel_rfl) (fun _ _ _ h => h) hS (.inl ⟨by rfl, ?y56⟩) ?_
    case y56 => (intro w' h'; go_simp; with_reducible rfl)
    (try simp only [Act.put, List.setIfInBounds_toArray, List.set_cons_zero, List.set_cons_succ])
    refine any_take (i := 7) (v := ?v57) rfl (by kernel_rfl) (by kernel_rfl) (by kernel_rfl) (fun _ _ _ h => h) hS (.inl ⟨by rfl, ?y57⟩) ?_
    case y57 => (intro w' h'; go_simp; with_reducible rfl)
    (try simp only [Act.put, List.setIfInBounds_toArray, List.set_cons_zero, List.set_cons_succ])
    refine any_take (i := 8) (v := ?v58) rfl (by kernel_rfl) (by kernel_rfl) (by kernel_rfl) (fun _ _ _ h => h) hS (.inl ⟨by rfl, ?y58⟩) ?_
    case y58 => (intro w' h'; go_simp; with_reducible rfl)
    (try simp only [Act.put, List.setIfInBounds_toArray, List.set_cons_zero, List.set_cons_succ])
    refine any_take (i := 9) (v := ?v59) rfl (by kernel_rfl) (by kernel_rfl) (by kernel_rfl) (fun _ _ _ h => h) hS (.inl ⟨by rfl, ?y59⟩) ?_
    case y59 => (intro w' h'; go_simp; with_reducible rfl)
    (try simp only [Act.put, List.setIfInBounds_toArray, List.set_cons_zero, List.set_cons_succ])
    refine any_take (i := 10) (v := ?v60) rfl (by kernel_rfl) (by kernel_rfl) (by kernel_rfl) (fun _ _ _ h => h) hS (.inl ⟨by rfl, ?y60⟩) ?_
    case y60 => (intro w' h'; go_simp; with_reducible rfl)
    (try simp only [Act.put, List.setIfInBounds_toArray, List.set_cons_zero, List.set_cons_succ])
    refine wpAnyH_done (by kernel_rfl) ?_ _
    clear hS e0 e1
    go_wp2
    go_ret3
    exact ⟨rfl, ⟨_, _, _, rfl, HT2.out.below (Below.refl _ _).drew⟩, Fr.of_below HB2.out.drew HBS.out⟩
  · rw [decide_eq_false hm, show fndN L x = 0 by unfold fndN; rw [if_neg hm]] at HLK
    have HM := Lib.hid hm
    obtain ⟨A, cap, hsl, _⟩ := HT2.out.len
    have HSL := Lib.hid hsl
    clear hm hsl
    go_wp2
    refine wp_region_held_drew (S := fun w' => w' = w2.drew) (by kernel_rfl) rfl (fun hS => ?_)
    have e0 : w2.drew.heap[g]? = some (.cells #[.int .i64 n, .map (some b), sl] 55 (0, 0)) := HT2.out.var
    have e1 : w2.drew.heap[w.heap.size]? = some (TR x.1 x.2) := HX2.out
    refine any_take (i := 0) (v := ?v63) rfl (by kernel_rfl) (by kernel_rfl) (by kernel_rfl) (fun _ _ _ h => h) hS (.inl ⟨by rfl, ?y63⟩) ?_
    case y63 => (intro w' h'; go_simp; with_reducible rfl)
    (try simp only [Act.put, List.setIfInBounds_toArray, List.set_cons_zero, List.set_cons_succ])
    refine any_take (i := 1) (v := ?v64) rfl (by kernel_rfl) (by kernel_rfl) (by kernel_rfl) (fun _ _ _ h => h) hS (.inl ⟨by rfl, ?y64⟩) ?_
    case y64 => (intro w' h'; go_simp; with_reducible rfl)
    (try simp only [Act.put, List.setIfInBounds_toArray, List.set_cons_zero, List.set_cons_succ])
    refine any_take (i := 2) (v := ?v65) rfl (by kernel_rfl) (by kernel_rfl) (by kernel_rfl) (fun _ _ _ h => h) hS (.inl ⟨by rfl, ?y65⟩) ?_
    case y65 => (intro w' h'; go_simp; with_reducible rfl)
    (try simp only [Act.put, List.setIfInBounds_toArray, List.set_cons_zero, List.set_cons_succ])
    refine any_take (i := 3) (v := .map (some b)) rfl (by kernel_rfl) (by kernel_rfl) (by kernel_rfl) (fun _ _ _ h => h) hS (yi_cell _ _ rfl (by rfl) ⟨g, 1, none⟩ rfl _ Try.underlying52 rfl (fun w' h' => (by rw [h', cell_of_row _ _ _ _ _ _ e0]; rfl))) ?_
    (try simp only [Act.put, List.setIfInBounds_toArray, List.set_cons_zero, List.set_cons_succ])
    refine any_take (i := 4) rfl (by kernel_rfl) (by kernel_rfl) (by kernel_rfl) (fun _ _ _ h => h) hS (yi_row _ _ rfl (by rfl) (w.heap.size) rfl ((tvv x.1 x.2)) _ Try.underlying26 rfl ((tr_z _ _ HX.out.1)) (fun w' h' => ⟨_, _, ((congrArg (fun W : World => W.heap[w.heap.size]?) h').trans e1)⟩)) ?_
    (try simp only [Act.put, List.setIfInBounds_toArray, List.set_cons_zero, List.set_cons_succ])
    refine any_take (i := 5) (v := .tuple #[.int .i64 ((0 : Nat) : Int), .bool false]) rfl (by kernel_rfl) (by kernel_rfl) (by kernel_rfl) (fun _ _ _ h => h) hS (yi_look _ _ _ _ rfl (by rfl) (fun w' h' => (by rw [h']; exact HLK.out))) ?_
    (try simp only [Act.put, List.setIfInBounds_toArray, List.set_cons_zero, List.set_cons_succ])
    refine any_take (i := 6) (v := ?v70) rfl (by kernel_rfl) (by kernel_rfl) (by kernel_rfl) (fun _ _ _ h => h) hS (.inl ⟨by rfl, ?y70⟩) ?_
    case y70 => (intro w' h'; go_simp; with_reducible rfl)
    (try simp only [Act.put, List.setIfInBounds_toArray, List.set_cons_zero, List.set_cons_succ])
    refine any_take (i := 7) (v := ?v71) rfl (by kernel_rfl) (by kernel_rfl) (by kernel_rfl) (fun _ _ _ h => h) hS (.inl ⟨by rfl, ?y71⟩) ?_
    case y71 => (intro w' h'; go_simp; with_reducible rfl)
    (try simp only [Act.put, List.setIfInBounds_toArray, List.set_cons_zero, List.set_cons_succ])
    refine any_take (i := 8) (v := ?v72) rfl (by kernel_rfl) (by kernel_rfl) (by kernel_rfl) (fun _ _ _ h => h) hS (.inl ⟨by rfl, ?y72⟩) ?_
    case y72 => (intro w' h'; go_simp; with_reducible rfl)
    (try simp only [Act.put, List.setIfInBounds_toArray, List.set_cons_zero, List.set_cons_succ])
    refine any_take (i := 9) (v := ?v73) rfl (by kernel_rfl) (by kernel_rfl) (by kernel_rfl) (fun _ _ _ h => h) hS (.inl ⟨by rfl, ?y73⟩) ?_
    case y73 => (intro w' h'; go_simp; with_reducible rfl)
    (try simp only [Act.put, List.setIfInBounds_toArray, List.set_cons_zero, List.set_cons_succ])
    refine any_take (i := 10) (v := ?v74) rfl (by kernel_rfl) (by kernel_rfl) (by kernel_rfl) (fun _ _ _ h => h) hS (.inl ⟨by rfl, ?y74⟩) ?_
    case y74 => (intro w' h'; go_simp; with_reducible rfl)
    (try simp only [Act.put, List.setIfInBounds_toArray, List.set_cons_zero, List.set_cons_succ])
    refine wpAnyH_done (by kernel_rfl) ?_ _
    clear hS e0 e1
    have c2 : w2.drew.cell? ⟨g, 2, none⟩ = some (.slice A L.length cap) := by rw [cell_of_row _ _ _ _ _ _ (show w2.drew.heap[g]? = _ from HT2.out.var), ← HSL.out]; rfl
    by_cases hfull : 512 ≤ L.length
    · obtain rfl : R = (0, false, 2, L) := by rw [HR.out, if_neg HM.out, if_pos hfull]
      clear HR
      go_wp2
      go_ret3
      exact ⟨rfl, ⟨_, _, _, rfl, HT2.out.below (Below.refl _ _).drew⟩, Fr.of_below HB2.out.drew HBS.out⟩
    · obtain rfl : R = (L.length, true, 0, L ++ [x]) := by rw [HR.out, if_neg HM.out, if_neg hfull]
      clear HR
      go_wp2
      have hbox : w.heap.size ≠ b := by have := HT.out.map.lt; omega
      have hgb : g ≠ b := by intro e; have h1 := HT.out.cg; have h2 := HT.out.cb; rw [e] at h1; omega
      clear c2
      refine wp_region_held_drew (S := fun w' => w'.heap[w.heap.size]? = some (TR x.1 x.2) ∧ w'.heap[g]? = some (.cells #[.int .i64 n, .map (some b), sl] 55 (0, 0))) (by kernel_rfl) ⟨HX2.out, HT2.out.var⟩ (fun hS => ?_)
      refine any_take (i := 0) (v := ?v77) rfl (by kernel_rfl) (by kernel_rfl) (by kernel_rfl) (fun _ _ _ h => h) hS (.inl ⟨by rfl, ?y77⟩) ?_
      case y77 => (intro w' h'; go_simp; with_reducible rfl)
      (try simp only [Act.put, List.setIfInBounds_toArray, List.set_cons_zero, List.set_cons_succ])
      refine any_take (i := 1) (v := ?v78) rfl (by kernel_rfl) (by kernel_rfl) (by kernel_rfl) (fun _ _ _ h => h) hS (.inl ⟨by rfl, ?y78⟩) ?_
      case y78 => (intro w' h'; go_simp; with_reducible rfl)
      (try simp only [Act.put, List.setIfInBounds_toArray, List.set_cons_zero, List.set_cons_succ])
      refine any_take (i := 2) (v := ?v79) rfl (by kernel_rfl) (by kernel_rfl) (by kernel_rfl) (fun _ _ _ h => h) hS (.inl ⟨by rfl, ?y79⟩) ?_
      case y79 => (intro w' h'; go_simp; with_reducible rfl)
      (try simp only [Act.put, List.setIfInBounds_toArray, List.set_cons_zero, List.set_cons_succ])
      refine any_take (i := 3) (v := .map (some b)) rfl (by kernel_rfl) (by kernel_rfl) (by kernel_rfl) (fun _ _ _ h => h) hS (yi_cell _ _ rfl (by rfl) ⟨g, 1, none⟩ rfl _ Try.underlying52 rfl (fun w' h' => (by rw [cell_of_row _ _ _ _ _ _ h'.2]; rfl))) ?_
      (try simp only [Act.put, List.setIfInBounds_toArray, List.set_cons_zero, List.set_cons_succ])
      refine any_take (i := 4) rfl (by kernel_rfl) (by kernel_rfl) (by kernel_rfl) (fun _ _ _ h => h) hS (yi_row _ _ rfl (by rfl) (w.heap.size) rfl ((tvv x.1 x.2)) _ Try.underlying26 rfl ((tr_z _ _ HX.out.1)) (fun w' h' => ⟨_, _, h'.1⟩)) ?_
      (try simp only [Act.put, List.setIfInBounds_toArray, List.set_cons_zero, List.set_cons_succ])
      refine any_take (i := 5) (v := ?v83) rfl (by kernel_rfl) (by kernel_rfl) (by kernel_rfl) (fun _ _ _ h => h) hS (.inl ⟨by rfl, ?y83⟩) ?_
      case y83 => (intro w' h'; go_simp; with_reducible rfl)
      (try simp only [Act.put, List.setIfInBounds_toArray, List.set_cons_zero, List.set_cons_succ])
      obtain ⟨w4, hrun, hmap, hturn⟩ := put_run HL.out HX.out HM.out (w := w2.drew.drew) HT2.out.map
      have HX4 : w4.heap[w.heap.size]? = some (TR x.1 x.2) := (hturn.block _ hbox).trans HX2.out
      have HV4 : w4.heap[g]? = some (.cells #[.int .i64 n, .map (some b), sl] 55 (0, 0)) := (hturn.block _ hgb).trans HT2.out.var
      refine any_put (i := 6) rfl (by kernel_rfl) (by rfl) _ _ _ _ rfl hrun ⟨HX4, HV4⟩ ?_
      (try simp only [Act.put, List.setIfInBounds_toArray, List.set_cons_zero, List.set_cons_succ])
      refine wpAnyH_done (by kernel_rfl) ?_ _
      have hb4 : b < w4.heap.size := hmap.lt
      have hinfo : (Try.prog.info? 26).map (fun i => (i.zero, i.size, i.bytes)) = some (some (.agg #[.int .i64 0, .int .u64 0, .int .u64 0, .int .u64 0, .int .u64 0, .int .u64 0, .int .u64 0, .int .u64 0]), 8, 64) := by kernel_rfl
      have hrow4 : trKd.R 26 w4.drew base (fun k => c k = i) sl L := Kd.R_drew (Kd.R_move HT2.out.row (fun k hk => hturn.block k (by rintro rfl; have := HT.out.cb; omega)))
      have hbel4 : Below base w w4.drew := ((hturn.below ((HB2.out.mono HBS.out).drew.drew) HT.out.bb)).drew
      have hsz4 : w.heap.size ≤ w4.heap.size := by rw [hturn.size]; exact HB2.out.size
      have hbase4 : base ≤ w4.drew.heap.size := Nat.le_trans HBS.out hsz4
      have hfr : ∀ k, w4.drew.heap.size ≤ k → c k = i := fun k hk => HF.out k (Nat.le_trans hsz4 hk)
      have hbx1 : w.heap.size < w4.drew.heap.size := hp_lt HX4
      have hbx2 : some w.heap.size ≠ sl.ownBlock := fun e => Nat.lt_irrefl _ (Kd.R_lt HT.out.row _ e.symm)
      have hgo : some g ≠ sl.ownBlock := fun e => by have h1 := HT.out.row.1 g e.symm; have h2 := HT.out.cg; omega
      clear hrun HLK
      go_wp2
      refine wp_region_held_drew (S := fun w' => w'.heap[w.heap.size]? = some (TR x.1 x.2)) (by kernel_rfl) HX4 (fun hS => ?_)
      refine any_take (i := 0) (v := ?v87) rfl (by kernel_rfl) (by kernel_rfl) (by kernel_rfl) (fun _ _ _ h => h) hS (.inl ⟨by rfl, ?y87⟩) ?_
      case y87 => (intro w' h'; go_simp; with_reducible rfl)
      (try simp only [Act.put, List.setIfInBounds_toArray, List.set_cons_zero, List.set_cons_succ])
      refine any_take (i := 1) (v := ?v88) rfl (by kernel_rfl) (by kernel_rfl) (by kernel_rfl) (fun _ _ _ h => h) hS (.inl ⟨by rfl, ?y88⟩) ?_
      case y88 => (intro w' h'; go_simp; with_reducible rfl)
      (try simp only [Act.put, List.setIfInBounds_toArray, List.set_cons_zero, List.set_cons_succ])
      refine any_take (i := 2) (v := ?v89) rfl (by kernel_rfl) (by kernel_rfl) (by kernel_rfl) (fun _ _ _ h => h) hS (.inl ⟨by rfl, ?y89⟩) ?_
      case y89 => (intro w' h'; go_simp; with_reducible rfl)
      (try simp only [Act.put, List.setIfInBounds_toArray, List.set_cons_zero, List.set_cons_succ])
      refine any_take (i := 3) (v := ?v90) rfl (by kernel_rfl) (by kernel_rfl) (by kernel_rfl) (fun _ _ _ h => h) hS (.inl ⟨by rfl, ?y90⟩) ?_
      case y90 => (intro w' h'; go_simp; with_reducible rfl)
      (try simp only [Act.put, List.setIfInBounds_toArray, List.set_cons_zero, List.set_cons_succ])
      refine any_take (i := 5) rfl (by kernel_rfl) (by kernel_rfl) (by kernel_rfl) (fun _ _ _ h => h) hS (yi_row _ _ rfl (by rfl) (w.heap.size) rfl ((tvv x.1 x.2)) _ Try.underlying26 rfl ((tr_z _ _ HX.out.1)) (fun w' h' => ⟨_, _, h'⟩)) ?_
      (try simp only [Act.put, List.setIfInBounds_toArray, List.set_cons_zero, List.set_cons_succ])
      refine any_two (i := 4) (j := 6) (by kernel_rfl) rfl rfl (by rfl) (by rfl) ?_ ?_
      · refine wp_load1 53 _ rfl ⟨g, 2, none⟩ rfl _ Try.underlying53 rfl (v := sl) (by rw [cell_of_row _ _ _ _ _ _ (show w4.drew.heap[g]? = _ from HV4)]; rfl) ⟨HX4, ?_⟩
        (try simp only [Act.put, List.setIfInBounds_toArray, List.set_cons_zero, List.set_cons_succ])
        refine any_one (i := 6) rfl (by kernel_rfl) (by rfl) (wp_row1 _ rfl rfl HX.out.1 ⟨hp_old HX4, ?_⟩)
        (try simp only [Act.put, List.setIfInBounds_toArray, List.set_cons_zero, List.set_cons_succ])
        refine any_append trKd (w0 := w) (W := w4.drew) base (i := 7) rfl (by kernel_rfl) (by rfl) _ _ 53 26 _ 64 rfl Try.underlying53 hinfo (by kernel_rfl) (by decide) (by decide) sl L x (tvv x.1 x.2).toList (fun k => c k = i) (fun _ => False) rfl rfl ⟨HX.out, rfl⟩ (fun _ hk => hk.elim) hfr hrow4 hbel4 hbase4 (by omega) (fun v1 w1 ho hb hg => ?_)
        have HX5 : w1.heap[w.heap.size]? = some (TR x.1 x.2) := (hg.block _ hbx1 hbx2).trans HX4
        have HV5 : w1.heap[g]? = some (.cells #[.int .i64 n, .map (some b), sl] 55 (0, 0)) := (hg.block _ (hp_lt HV4) hgo).trans HV4
        have hval := Kd.R_val ho
        refine ⟨HX5, ?_⟩
        (try simp only [Act.put, List.setIfInBounds_toArray, List.set_cons_zero, List.set_cons_succ])
        refine any_take (i := 8) (v := ?v97) rfl (by kernel_rfl) (by kernel_rfl) (by kernel_rfl) (fun _ _ _ h => h) HX5 (.inl ⟨by rfl, ?y97⟩) ?_
        case y97 => (intro w' h'; go_simp; with_reducible rfl)
        (try simp only [Act.put, List.setIfInBounds_toArray, List.set_cons_zero, List.set_cons_succ])
        refine any_take (i := 9) (v := ?v98) rfl (by kernel_rfl) (by kernel_rfl) (by kernel_rfl) (fun _ _ _ h => h) HX5 (.inl ⟨by rfl, ?y98⟩) ?_
        case y98 => (intro w' h'; go_simp; with_reducible rfl)
        (try simp only [Act.put, List.setIfInBounds_toArray, List.set_cons_zero, List.set_cons_succ])
        refine any_one (i := 10) rfl (by kernel_rfl) (by rfl) (wp_store1 53 _ _ rfl g 2 v1 sl rfl rfl (by kernel_rfl) (Array.ext' hval.1) hval.2 (by rw [cell_of_row _ _ _ _ _ _ HV5]; rfl) (frozen_of_row _ _ _ _ _ HV5) ⟨hp_cell (by show w.heap.size ≠ g; omega) HX5, ?_⟩)
        (try simp only [Act.put, List.setIfInBounds_toArray, List.set_cons_zero, List.set_cons_succ])
        refine wpAnyH_done (by kernel_rfl) ?_ _
        have HFIN := Lib.hid (put_end HT.out HB2.out hmap hturn hb hg ho HV5 hb4)
        clear hb hg ho hval HX5 HV5
        go_wp2
        go_ret3
        exact ⟨rfl, ⟨_, _, _, rfl, HFIN.out.1⟩, HFIN.out.2⟩
      · refine wp_row1 _ rfl rfl HX.out.1 ⟨hp_old HX4, ?_⟩
        (try simp only [Act.put, List.setIfInBounds_toArray, List.set_cons_zero, List.set_cons_succ])
        refine any_one (i := 4) rfl (by kernel_rfl) (by rfl) (wp_load1 53 _ rfl ⟨g, 2, none⟩ rfl _ Try.underlying53 rfl (v := sl) (by rw [cell_of_row _ _ _ _ _ _ (hp_old (show w4.drew.heap[g]? = _ from HV4))]; rfl) ⟨hp_old HX4, ?_⟩)
        (try simp only [Act.put, List.setIfInBounds_toArray, List.set_cons_zero, List.set_cons_succ])
        refine any_append trKd (w0 := w) (W := w4.drew) base (i := 7) rfl (by kernel_rfl) (by rfl) _ _ 53 26 _ 64 rfl Try.underlying53 hinfo (by kernel_rfl) (by decide) (by decide) sl L x (tvv x.1 x.2).toList (fun k => c k = i) (fun _ => False) rfl rfl ⟨HX.out, rfl⟩ (fun _ hk => hk.elim) hfr hrow4 hbel4 hbase4 (by omega) (fun v1 w1 ho hb hg => ?_)
        have HX5 : w1.heap[w.heap.size]? = some (TR x.1 x.2) := (hg.block _ hbx1 hbx2).trans HX4
        have HV5 : w1.heap[g]? = some (.cells #[.int .i64 n, .map (some b), sl] 55 (0, 0)) := (hg.block _ (hp_lt HV4) hgo).trans HV4
        have hval := Kd.R_val ho
        refine ⟨HX5, ?_⟩
        (try simp only [Act.put, List.setIfInBounds_toArray, List.set_cons_zero, List.set_cons_succ])
        refine any_take (i := 8) (v := ?v105) rfl (by kernel_rfl) (by kernel_rfl) (by kernel_rfl) (fun _ _ _ h => h) HX5 (.inl ⟨by rfl, ?y105⟩) ?_
        case y105 => (intro w' h'; go_simp; with_reducible rfl)
        (try simp only [Act.put, List.setIfInBounds_toArray, List.set_cons_zero, List.set_cons_succ])
        refine any_take (i := 9) (v := ?v106) rfl (by kernel_rfl) (by kernel_rfl) (by kernel_rfl) (fun _ _ _ h => h) HX5 (.inl ⟨by rfl, ?y106⟩) ?_
        case y106 => (intro w' h'; go_simp; with_reducible rfl)
        (try simp only [Act.put, List.setIfInBounds_toArray, List.set_cons_zero, List.set_cons_succ])
        refine any_one (i := 10) rfl (by kernel_rfl) (by rfl) (wp_store1 53 _ _ rfl g 2 v1 sl rfl rfl (by kernel_rfl) (Array.ext' hval.1) hval.2 (by rw [cell_of_row _ _ _ _ _ _ HV5]; rfl) (frozen_of_row _ _ _ _ _ HV5) ⟨hp_cell (by show w.heap.size ≠ g; omega) HX5, ?_⟩)
        (try simp only [Act.put, List.setIfInBounds_toArray, List.set_cons_zero, List.set_cons_succ])
        refine wpAnyH_done (by kernel_rfl) ?_ _
        have HFIN := Lib.hid (put_end HT.out HB2.out hmap hturn hb hg ho HV5 hb4)
        clear hb hg ho hval HX5 HV5
        go_wp2
        go_ret3
        exact ⟨rfl, ⟨_, _, _, rfl, HFIN.out.1⟩, HFIN.out.2⟩
end Go.Proofs.Ytpebnldoimoahaa
