/- Merged by tools/merge2.py out of: XWords XRegion XTrA XPack XTrB XOpen XEqT XTrC XTrD XTrE XMake XCyc XTrF XSl XTrG XTrH XTrI XTrJ XRfA XRfB XRfC XRfD XRfE XRfF XRfG XLent XStay XHp (a claim bears 60 files at most). -/
import Derived.Test.YtpebnldoimoahaaRows
import Derived.WalkKit
import Derived.WalkSpells
import Derived.WalkLawsBesides
import Derived.Deep.WholeRow
import Derived.Lib.Hide
import Derived.Deep.RegionHeld3
import Derived.Deep.MidRow
import Derived.Laws.Bits64b
import Derived.IntWalk
import Derived.Test.YtpebnldoimoahaaWMore
import Derived.Test.YtpebnldoimoahaaWSized
import Derived.ProofKit
import Derived.OpenShut
import Derived.SizedLaws
import Derived.ChangeKeysEq
import Derived.Laws.StructEq
import Derived.Test.YtpebnldoimoahaaWRepsOne
namespace Go.Proofs.Ytpebnldoimoahaa
open Go.RowKit

theorem hp_old {w : World} {o v : Obj} {k : Nat} (h : w.heap[k]? = some v) : (w.alloc o).heap[k]? = some v := by
  have hk : k < w.heap.size := (Array.getElem?_eq_some_iff.1 h).1
  exact (Below.heap_alloc w o k hk).trans h
theorem hp_new {w : World} {o : Obj} {k : Nat} (h : k = w.heap.size) : (w.alloc o).heap[k]? = some o := by
  subst h; exact heap_alloc_new w o
theorem hp_cell {w : World} {a : Addr} {u : Value} {v : Obj} {k : Nat} (hk : k ≠ a.block) (h : w.heap[k]? = some v) : (w.setCell a u).heap[k]? = some v :=
  (heap_setCell_other w a k u hk).trans h
theorem hp_row {w : World} {g : Nat} {cs : Array Value} {v : Obj} {k : Nat} (hk : k ≠ g) (h : w.heap[k]? = some v) : (w.setRow g cs).heap[k]? = some v :=
  (setRow_other w g k cs hk).trans h
theorem hp_below {B : Nat} {w w' : World} {v : Obj} {k : Nat} (hb : Below B w w') (hk : k < B) (h : w.heap[k]? = some v) : w'.heap[k]? = some v :=
  (hb.block k hk).trans h
theorem hp_below' {w w' : World} {v : Obj} {k : Nat} (hb : Below w.heap.size w w') (h : w.heap[k]? = some v) : w'.heap[k]? = some v :=
  hp_below hb (Array.getElem?_eq_some_iff.1 h).1 h
theorem hp_lt {w : World} {v : Obj} {k : Nat} (h : w.heap[k]? = some v) : k < w.heap.size := (Array.getElem?_eq_some_iff.1 h).1

theorem bl_alloc {w W : World} (h : Below w.heap.size w W) (o : Obj) : Below w.heap.size w (W.alloc o) := h.alloc h.size o
theorem bl_cell {w W : World} (h : Below w.heap.size w W) {p : Addr} (hp : w.heap.size ≤ p.block) (u : Value) : Below w.heap.size w (W.setCell p u) := h.setCell hp u
theorem bl_row {B : Nat} {w W : World} (h : Below B w W) {g : Nat} (hg : B ≤ g) (cs : Array Value) : Below B w (W.setRow g cs) :=
  ⟨by simp [h.os], by simp [h.tape], by simp [h.output], by simp [h.size], fun k hk => by rw [setRow_other _ _ _ _ (by omega)]; exact h.block k hk⟩
theorem bl_drewN {B : Nat} {w W : World} (h : Below B w W) (n : Nat) : Below B w (W.drewN n) := ⟨h.os, h.tape, h.output, h.size, h.block⟩
theorem bl_then {w W W' : World} (h : Below w.heap.size w W) (k : Below W.heap.size W W') : Below w.heap.size w W' := h.trans (k.mono h.size)
theorem bl_trans {B : Nat} {w W W' : World} (h : Below B w W) (hB : B ≤ W.heap.size) (k : Below W.heap.size W W') : Below B w W' := h.trans (k.mono hB)

end Go.Proofs.Ytpebnldoimoahaa

namespace Go.Proofs.Ytpebnldoimoahaa
open Go.RowKit
section
variable {P : Program} {ops : Array Oper} {Q : Exit → Act → World → Prop} {md : Region.Mode} {S : World → Prop} {o : Oper} {a : Act} {w : World}
/-- An operation that yields v wherever S holds. -/
theorem yi_val {v : Value} (hg : Region.wanted o (yielded ops a.tmps) = true) (h : ∀ w, S w → (execOp a.eval o).run P w = .ok (.value v) w) : YieldsIf P ops S o v a :=
  .inl ⟨hg, h⟩
/-- '==', '<' and the like, whose guard against panics is met. -/
theorem yi_bin {v : Value} (op : BinOp) (t : TypeId) (x y : Operand) (u : TypeId) (ho : o.op = .binOp op t x y u) (hg : Region.wanted o (yielded ops a.tmps) = true)
    (h : ∀ w, S w → (eqGuard op t x y (a.eval x) (a.eval y)).run P w = .ok () w ∧ (binOp op t (a.eval x) (a.eval y)).run P w = .ok v w) : YieldsIf P ops S o v a :=
  yi_val hg fun w hw => by
    obtain ⟨h1, h2⟩ := h w hw
    unfold execOp
    simp only [ho, Sem.run_bind, h1, h2, Result.andThen_ok, Sem.run_pure]
/-- A number, string, pointer, slice or map is loaded from a cell. -/
theorem yi_cell {v : Value} (t : TypeId) (x : Operand) (ho : o.op = .load t x) (hg : Region.wanted o (yielded ops a.tmps) = true) (ad : Addr) (hx : a.eval x = .pointer (some ad))
    (d : TypeDesc) (hu : P.underlying t = some d) (hd : (match d with | .struct _ | .array _ _ => false | _ => true) = true) (h : ∀ w, S w → w.cell? ad = some v) : YieldsIf P ops S o v a :=
  yi_val hg fun w hw => by
    have hagg : (isAgg t).run P w = .ok false w := by
      unfold isAgg
      rw [Sem.run_bind, run_underlying hu w]
      cases d <;> simp_all
    unfold execOp
    simp only [ho, hx, Instr.loadAt, Instr.sureAddr, Sem.run_bind, Sem.run_pure, Result.andThen_ok]
    simp [loadVar, Sem.run_bind, hagg, h w hw]
/-- A whole row (a struct, an array) out of a block. -/
theorem yi_row (t : TypeId) (x : Operand) (ho : o.op = .load t x) (hg : Region.wanted o (yielded ops a.tmps) = true) (g : Nat) (hx : a.eval x = .pointer (some ⟨g, 0, none⟩)) (cs : Array Value)
    (d : TypeDesc) (hu : P.underlying t = some d) (hd : (match d with | .struct _ | .array _ _ => true | _ => false) = true) (hi : (P.info? t).map (·.size) = some cs.size)
    (h : ∀ w, S w → ∃ t' fr, w.heap[g]? = some (.cells cs t' fr)) : YieldsIf P ops S o (.agg cs) a :=
  yi_val hg fun w hw => by
    obtain ⟨t', fr, hc⟩ := h w hw
    unfold execOp
    simp only [ho, hx, Instr.loadAt, Instr.sureAddr, Sem.run_bind, Sem.run_pure, Result.andThen_ok, run_loadVar_row w g t' t cs fr d hc hu hd hi]

end
/-- Two results: a row in a cell, a slot. -/
theorem results_cell_tmp {P : Program} {fn : Func} {p t : Tmp} {ty : TypeId} (h : fn.results = #[.cell p ty, .tmp t]) (tmps : Array Value) (w : World) (g : Nat) (t' : TypeId) (cs : Array Value) (fr : Nat × Nat) (d : TypeDesc)
    (hp : tmps.getD p undef = .pointer (some ⟨g, 0, none⟩)) (hg : w.heap[g]? = some (.cells cs t' fr))
    (hu : P.underlying ty = some d) (hd : (match d with | .struct _ | .array _ _ => true | _ => false) = true) (hi : (P.info? ty).map (·.size) = some cs.size) :
    (results fn tmps).run P w = .ok (.tuple #[.agg cs, tmps.getD t undef]) w := by
  have hp' : tmps[p]?.getD undef = .pointer (some ⟨g, 0, none⟩) := by simpa using hp
  simp [results, h, hp', asAddr, run_loadVar_row w g t' ty cs fr d hg hu hd hi]
section
variable {P : Program} {l : List Oper} {Q : Exit → Act → World → Prop} {md : Region.Mode} {S : World → Prop} {o : Oper} {a : Act} {w : World}
/-- Operation i is taken first. -/
theorem any_take {i : Nat} {v : Value} {fuel : Nat} {listed : Array Bool} (hi : l[i]? = some o)
    (hs : Region.noSelect l.toArray = true) (hf : Region.free md l.toArray listed i = true) (hr : (Region.ready md l.toArray listed).contains i = true)
    (hQ : ∀ c a w, Q (.panic c) (a.put o.dst v) w → Q (.panic c) a w) (hS : S w) (hy : YieldsIf P l.toArray S o v a)
    (h : wpAnyH P md l.toArray Q S fuel (listed.setIfInBounds i true) (a.put o.dst v) w) : wpAnyH P md l.toArray Q S (fuel + 1) listed a w :=
  wpAnyH_take (by simpa using hi) hs hf hr hQ hy hS h
/-- What comes next is one operation alone. -/
theorem any_one {fuel : Nat} {listed : Array Bool} {i : Nat} (hi : l[i]? = some o) (hr : Region.ready md l.toArray listed = [i]) (hg : Region.wanted o (yielded l.toArray a.tmps) = true)
    (h : o.wp P a w (fun a' w' => S w' ∧ wpAnyH P md l.toArray Q S fuel (listed.setIfInBounds i true) a' w') Q) : wpAnyH P md l.toArray Q S (fuel + 1) listed a w :=
  wpAnyH_all hr (by simp) fun j hj => by
    simp only [List.mem_singleton] at hj
    subst hj
    have ho : l.toArray[j]? = some o := by simpa using hi
    unfold wpOp
    simp only [ho]
    rw [if_pos hg]
    exact .inl h
/-- A call: by its contract. -/
theorem any_call {fuel : Nat} {listed : Array Bool} {i : Nat} {R : Ending → World → Prop} (hi : l[i]? = some o) (hr : Region.ready md l.toArray listed = [i]) (hg : Region.wanted o (yielded l.toArray a.tmps) = true)
    (f : FuncId) (args : Array Value) (hex : (execOp a.eval o).run P w = .ok (.enter f args) w) (hc : Calls P f args w R)
    (hR : ∀ e w', R e w' → ∃ v, e = .returned v ∧ S w' ∧ wpAnyH P md l.toArray Q S fuel (listed.setIfInBounds i true) (a.put o.dst v) w') : wpAnyH P md l.toArray Q S (fuel + 1) listed a w :=
  any_one hi hr hg <| by
    unfold Oper.wp
    rw [hex, Oper.upon_enter]
    refine hc.mono fun e w' h => ?_
    obtain ⟨v, rfl, h1, h2⟩ := hR e w' h
    exact ⟨h1, h2⟩
/-- A whole row into a block. -/
theorem any_row {fuel : Nat} {listed : Array Bool} {i : Nat} (hi : l[i]? = some o) (hr : Region.ready md l.toArray listed = [i]) (hg : Region.wanted o (yielded l.toArray a.tmps) = true) (ty : TypeId) (x y : Operand) (hop : o.op = .store ty x y)
    (g : Nat) (cells : Array Value) (hx : a.eval x = .pointer (some ⟨g, 0, none⟩)) (hy : a.eval y = .agg cells)
    (t : TypeId) (old : Array Value) (hgd : w.heap[g]? = some (.cells old t (0, 0))) (hz : (P.info? ty).map (·.size) = some cells.size)
    (hold : old.size = cells.size) (h1 : cells.all (·.oneCell') = true)
    (hS : S (w.setRow g cells)) (h : wpAnyH P md l.toArray Q S fuel (listed.setIfInBounds i true) (a.put o.dst undef) (w.setRow g cells)) : wpAnyH P md l.toArray Q S (fuel + 1) listed a w :=
  any_one hi hr hg (wp_store_row ty x y hop g cells hx hy t old hgd hz hold h1 ⟨hS, h⟩)
/-- A plain value that the last operation lays into a slot. -/
theorem any_val {fuel : Nat} {listed : Array Bool} {i : Nat} {v : Value} (hi : l[i]? = some o) (hr : Region.ready md l.toArray listed = [i]) (hg : Region.wanted o (yielded l.toArray a.tmps) = true) (hS : S w)
    (hex : (execOp a.eval o).run P w = .ok (.value v) w) (h : wpAnyH P md l.toArray Q S fuel (listed.setIfInBounds i true) (a.put o.dst v) w) : wpAnyH P md l.toArray Q S (fuel + 1) listed a w :=
  any_one hi hr hg <| by
    unfold Oper.wp
    rw [hex, Oper.upon_value]
    exact ⟨hS, h⟩
end
end Go.Proofs.Ytpebnldoimoahaa

namespace Go.Proofs.Ytpebnldoimoahaa
open Go.RowKit

/-- The cells of a list of images. -/
def img (l : List Nat) : Array Value := (l.map (fun (n : Nat) => Value.int .i64 n)).toArray
theorem img_size (l : List Nat) : (img l).size = l.length := by simp [img]
theorem img_get (l : List Nat) (i : Nat) (h : i < l.length) : (img l)[i]? = some (.int .i64 (l.getD i 0 : Nat)) := by
  simp [img, List.getElem?_eq_getElem h]
theorem img_set (l : List Nat) (i v : Nat) : (img l).setIfInBounds i (.int .i64 v) = img (l.set i v) := by
  simp [img, List.map_set]
theorem img_one (l : List Nat) : (img l).all (·.oneCell') = true := by
  simp [img, Value.oneCell']

/-- behind, the first k points done. -/
def bhd (k : Nat) (a b : List Nat) : List Nat := (List.range 64).map fun i => if i < k then b.getD (a.getD i 0) 0 else a.getD i 0
theorem bhd_len (k : Nat) (a b : List Nat) : (bhd k a b).length = 64 := by simp [bhd]
theorem bhd_zero (a b : List Nat) (h : a.length = 64) : bhd 0 a b = a := by
  apply List.ext_getElem (by simp [bhd, h])
  intro i h1 h2
  simp [bhd, h2]
theorem bhd_get (k : Nat) (a b : List Nat) (hk : k < 64) : (bhd k a b).getD k 0 = a.getD k 0 := by simp [bhd, hk]
theorem bhd_set (k : Nat) (a b : List Nat) : (bhd k a b).set k (b.getD (a.getD k 0) 0) = bhd (k + 1) a b := by
  apply List.ext_getElem (by simp [bhd])
  intro i h1 h2
  simp only [bhd, List.length_map, List.length_range] at h2
  simp only [bhd, List.getElem_set, List.getElem_map, List.getElem_range]
  by_cases e : k = i
  · subst e; simp
  · rw [if_neg e]
    by_cases h : i < k
    · rw [if_pos h, if_pos (by omega)]
    · rw [if_neg h, if_neg (by omega)]

def Bh (w wr : World) (l b : List Nat) : Prop := wr.heap[w.heap.size]? = some (.cells (img l) 98 (0, 0)) ∧ wr.heap[w.heap.size + 1]? = some (.cells (img b) 98 (0, 0)) ∧ (∃ c, wr.heap[w.heap.size + 1 + 1]? = some (.cells c 98 (0, 0)) ∧ c.size = 64) ∧ Below w.heap.size w wr
set_option maxHeartbeats 400000 in
theorem behind_any (n : Nat) (a b : List Nat) (h1 : n ≤ 64) (ha : a.length = 64) (hb : b.length = 64) (hin : ∀ i, a.getD i 0 < 64) (w : World) :
    Calls Try.prog 58 #[.int .i64 n, .agg (img a), .agg (img b)] w fun e w' => e = .returned (.agg (img (bhd n a b))) ∧ Below w.heap.size w w' := by
  have HA := Lib.hid ha; clear ha
  have HB := Lib.hid hb; clear hb
  have HI := Lib.hid hin; clear hin
  go_enter Try.func58, Try.ntmps58
  go_wp2
  go_loopw [9] (fun i wr => ∃ k : Nat, k ≤ n ∧ i = .int .i64 k ∧ Bh w wr (bhd k a b) b) (fun i _ => n - (intOf i).toNat)
  case atStart =>
    refine ⟨0, by omega, rfl, ?_⟩
    rw [bhd_zero a b HA.out]
    exact ⟨by repeat (first | exact hp_new (by simp) | refine hp_old ?_), by repeat (first | exact hp_new (by simp) | refine hp_old ?_), ⟨_, hp_new (by simp), rfl⟩, by repeat (first | exact Below.refl _ _ | refine bl_alloc ?_ _)⟩
  case round =>
    obtain ⟨k, hk, rfl, H⟩ := hrel
    by_cases hlt : k < n
    · have hk64 : k < 64 := by omega
      have hx64 := HI.out k
      have c1 : wr.cell? ⟨w.heap.size, k, none⟩ = some (.int .i64 ((a.getD k 0 : Nat) : Int)) := by
        rw [cell_of_row _ _ _ _ _ _ H.1, img_get _ _ (by rw [bhd_len]; omega), bhd_get k a b hk64]
      have c2 : wr.cell? ⟨w.heap.size + 1, a.getD k 0, none⟩ = some (.int .i64 ((b.getD (a.getD k 0) 0 : Nat) : Int)) := by
        rw [cell_of_row _ _ _ _ _ _ H.2.1, img_get _ _ (by rw [HB.out]; omega)]
      have f1 : wr.frozen? ⟨w.heap.size, k, none⟩ = false := frozen_of_row _ _ _ _ _ H.1
      have H2 : Bh w (wr.setCell ⟨w.heap.size, k, none⟩ (.int .i64 ((b.getD (a.getD k 0) 0 : Nat) : Int))) (bhd (k+1) a b) b := by
        obtain ⟨g1, g2, ⟨c, g3, g3'⟩, g4⟩ := H
        refine ⟨?_, hp_cell (by simp) g2, ⟨c, hp_cell (by simp; omega) g3, g3'⟩, bl_cell g4 (by simp) _⟩
        rw [heap_setCell_same _ _ _ _ _ _ g1, img_set, bhd_set k a b]
      clear H
      have H2 := Lib.hid H2
      generalize a.getD k 0 = x at *
      generalize b.getD x 0 = y at *
      go_wp2
      go_roundw
      case rel => exact ⟨k+1, by omega, by go_num, H2.out⟩
      case measure => simp [intOf]; omega
    · have : k = n := by omega
      subst this
      obtain ⟨g1, g2, ⟨c, g3, g3'⟩, g4⟩ := H
      have G1 := Lib.hid g1; have G3 := Lib.hid g3; have G3' := Lib.hid g3'; have G4 := Lib.hid g4
      clear g1 g2 g3 g3' g4
      go_wp2_with (first | (refine wpList_load_row rfl 98 _ rfl w.heap.size rfl 98 _ _ (.array 64 3) G1.out (by kernel_rfl) rfl (by rw [img_size, bhd_len]; kernel_rfl) ?_) | (refine wpList_store_row rfl 98 _ _ rfl (w.heap.size+1+1) _ rfl rfl 98 c G3.out (by rw [img_size, bhd_len]; kernel_rfl) (by rw [G3'.out, img_size, bhd_len]) (img_one _) ?_))
      refine bodyPost_ret (v := .agg (img (bhd k a b))) ?_ rfl ⟨rfl, bl_row G4.out (by omega) _⟩
      exact results_cell_row rfl _ _ (w.heap.size+1+1) 98 _ _ (.array 64 3) rfl (setRow_heap _ _ c _ _ _ G3.out) (by kernel_rfl) rfl (by rw [img_size, bhd_len]; kernel_rfl)
end Go.Proofs.Ytpebnldoimoahaa

namespace Go.Proofs.Ytpebnldoimoahaa

/-- c digits of a list from lo on, to the base 64. -/
def pw (l : List Nat) (lo : Nat) : Nat → Nat
  | 0 => 0
  | c + 1 => pw l lo c + l.getD (lo + c) 0 * 64 ^ c
theorem pw_lt (l : List Nat) (lo : Nat) (h : ∀ i, l.getD i 0 < 64) : ∀ c, pw l lo c < 64 ^ c
  | 0 => by simp [pw]
  | c + 1 => by
    have ih := pw_lt l lo h c
    have hd := h (lo + c)
    have : l.getD (lo + c) 0 * 64 ^ c ≤ 63 * 64 ^ c := Nat.mul_le_mul_right _ (by omega)
    simp only [pw, Nat.pow_succ]
    omega
/-- The words of the first i numbers. -/
def pks (l : List Nat) (i : Nat) : List Nat := (List.range 7).map fun j => pw l (10 * j) (min 10 (i - 10 * j))
theorem pks_len (l : List Nat) (i : Nat) : (pks l i).length = 7 := by simp [pks]
theorem pks_zero (l : List Nat) : pks l 0 = List.replicate 7 0 := by simp [pks, pw, List.range_succ, List.replicate]
theorem pks_getD (l : List Nat) (i j : Nat) (hj : j < 7) : (pks l i).getD j 0 = pw l (10 * j) (min 10 (i - 10 * j)) := by simp [pks, hj]
theorem pks_at (l : List Nat) (k : Nat) (hk : k < 64) : (pks l k).getD (k / 10) 0 = pw l (10 * (k / 10)) (k % 10) := by
  rw [pks_getD l k _ (by omega)]
  congr 1
  omega
theorem pks_set (l : List Nat) (k : Nat) : (pks l k).set (k / 10) (pw l (10 * (k / 10)) (k % 10) + l.getD k 0 * 64 ^ (k % 10)) = pks l (k + 1) := by
  apply List.ext_getElem (by simp [pks])
  intro j h1 h2
  simp only [pks, List.length_map, List.length_range] at h2
  simp only [pks, List.getElem_set, List.getElem_map, List.getElem_range]
  by_cases e : k / 10 = j
  · rw [if_pos e, ← e]
    have : min 10 (k + 1 - 10 * (k / 10)) = k % 10 + 1 := by omega
    rw [this]
    simp only [pw]
    rw [show 10 * (k / 10) + k % 10 = k by omega]
  · rw [if_neg e]
    congr 1
    omega
theorem pks_lt (l : List Nat) (i : Nat) (h : ∀ i, l.getD i 0 < 64) (j : Nat) : (pks l i).getD j 0 < 18446744073709551616 := by
  by_cases hj : j < 7
  · rw [pks_getD l i j hj]
    have h1 := pw_lt l (10 * j) h (min 10 (i - 10 * j))
    have h2 : 64 ^ (min 10 (i - 10 * j)) ≤ 64 ^ 10 := Nat.pow_le_pow_right (by omega) (by omega)
    have h3 : 64 ^ 10 = 1152921504606846976 := by decide
    omega
  · simp [pks, hj]
theorem shl_in (y m : Nat) (hy : y < 64) (hm : m < 10) : IntKind.u64.wrap ((y : Int) * 2 ^ (6 * m)) = ((y * 64 ^ m : Nat) : Int) := by
  have e : (2 : Int) ^ (6 * m) = ((64 ^ m : Nat) : Int) := by
    rw [Int.pow_mul]; norm_cast
  rw [e]
  have h2 : 64 ^ m ≤ 64 ^ 9 := Nat.pow_le_pow_right (by omega) (by omega)
  have h3 : 64 ^ 9 = 18014398509481984 := by decide
  have h4 : y * 64 ^ m ≤ 63 * 18014398509481984 := Nat.mul_le_mul (by omega) (by omega)
  have h5 : (y : Int) * ((64 ^ m : Nat) : Int) = ((y * 64 ^ m : Nat) : Int) := by push_cast; rfl
  rw [h5]
  exact IntWalk.u64_in _ ⟨by omega, by omega⟩
/-- The walk's step: a digit is laid over what is below it. -/
theorem or_in (x y m : Nat) (hx : x < 64 ^ m) (hy : y < 64) (hm : m < 10) :
    bits .or .u64 (x : Int) (IntKind.u64.wrap ((y : Int) * 2 ^ (6 * m))) = ((x + y * 64 ^ m : Nat) : Int) := by
  rw [shl_in y m hy hm]
  have h2 : 64 ^ m ≤ 64 ^ 9 := Nat.pow_le_pow_right (by omega) (by omega)
  have h3 : 64 ^ 9 = 18014398509481984 := by decide
  have h4 : y * 64 ^ m ≤ 63 * 18014398509481984 := Nat.mul_le_mul (by omega) (by omega)
  rw [bits_or_u64_nat _ _ (by omega) (by omega)]
  congr 1
  rw [show (64 : Nat) ^ m = 2 ^ (6 * m) by rw [Nat.pow_mul]] at hx ⊢
  rw [Nat.or_comm, Nat.mul_comm y, ← Nat.two_pow_add_eq_or_of_lt hx, Nat.add_comm]

/-- Point i's image, as the words tell it. -/
def im (ws : List Nat) (i : Nat) : Nat := ws.getD (i / 10) 0 / 64 ^ (i % 10) % 64
theorem im_lt (ws : List Nat) (i : Nat) : im ws i < 64 := Nat.mod_lt _ (by omega)
/-- The first k images, the others 0. -/
def ims (k : Nat) (ws : List Nat) : List Nat := (List.range 64).map fun i => if i < k then im ws i else 0
theorem ims_len (k : Nat) (ws : List Nat) : (ims k ws).length = 64 := by simp [ims]
theorem ims_zero (ws : List Nat) : ims 0 ws = List.replicate 64 0 := by
  apply List.ext_getElem (by simp [ims])
  intro i h1 h2
  rw [List.getElem_replicate]
  simp [ims]
theorem ims_getD (k : Nat) (ws : List Nat) (i : Nat) : (ims k ws).getD i 0 = if i < k ∧ i < 64 then im ws i else 0 := by
  by_cases h : i < 64
  · simp [ims, h]
  · simp [ims, h]
theorem ims_lt (k : Nat) (ws : List Nat) (i : Nat) : (ims k ws).getD i 0 < 64 := by
  rw [ims_getD]; split
  · exact im_lt _ _
  · omega
theorem ims_set (k : Nat) (ws : List Nat) : (ims k ws).set k (im ws k) = ims (k + 1) ws := by
  apply List.ext_getElem (by simp [ims])
  intro i h1 h2
  simp only [ims, List.getElem_set, List.getElem_map, List.getElem_range]
  by_cases e : k = i
  · subst e; simp
  · rw [if_neg e]
    by_cases h : i < k
    · rw [if_pos h, if_pos (by omega)]
    · rw [if_neg h, if_neg (by omega)]
/-- Is it a transformation? -/
def goodT (n : Int) (ws : List Nat) : Bool := decide (1 ≤ n) && decide (n ≤ 64) && (List.range n.toNat).all (fun i => decide (im ws i < n.toNat)) && decide (pks (ims n.toNat ws) n.toNat = ws)
theorem shr_in (x m : Nat) (hx : x < 18446744073709551616) : bits .and .u64 ((x : Int) / 2 ^ (6 * m)) 63 = ((x / 64 ^ m % 64 : Nat) : Int) := by
  have e : (2 : Int) ^ (6 * m) = ((64 ^ m : Nat) : Int) := by
    rw [Int.pow_mul]; norm_cast
  rw [e, show (x : Int) / ((64 ^ m : Nat) : Int) = ((x / 64 ^ m : Nat) : Int) by norm_cast]
  have : x / 64 ^ m ≤ x := Nat.div_le_self _ _
  have h := bits_and_u64_nat (x / 64 ^ m) 63 (by omega) (by omega)
  rw [show ((63 : Nat) : Int) = 63 by rfl] at h
  rw [h]
  congr 1
  exact Nat.and_two_pow_sub_one_eq_mod _ 6
theorem goodT_spec {n : Int} {ws : List Nat} (h : goodT n ws = true) : 1 ≤ n ∧ n ≤ 64 ∧ (∀ i, i < n.toNat → im ws i < n.toNat) ∧ pks (ims n.toNat ws) n.toNat = ws := by
  unfold goodT at h
  simp only [Bool.and_eq_true, decide_eq_true_eq, List.all_eq_true, List.mem_range] at h
  exact ⟨h.1.1.1, h.1.1.2, h.1.2, h.2⟩
end Go.Proofs.Ytpebnldoimoahaa

namespace Go.Proofs.Ytpebnldoimoahaa
open Go.RowKit
/-- The cells of a packed transformation. -/
def tvv (n : Int) (ws : List Nat) : Array Value := (Value.int .i64 n :: ws.map (fun (x : Nat) => Value.int .u64 x)).toArray
theorem tvv_size (n : Int) (ws : List Nat) : (tvv n ws).size = ws.length + 1 := by simp [tvv]
theorem tvv_zero (n : Int) (ws : List Nat) : (tvv n ws)[0]? = some (.int .i64 n) := by simp [tvv]
theorem tvv_get (n : Int) (ws : List Nat) (j : Nat) (h : j < ws.length) : (tvv n ws)[1 + j]? = some (.int .u64 (ws.getD j 0 : Nat)) := by
  rw [Nat.add_comm]; simp [tvv, List.getElem?_eq_getElem h]
theorem tvv_set (n : Int) (ws : List Nat) (j v : Nat) : (tvv n ws).setIfInBounds (1 + j) (.int .u64 v) = tvv n (ws.set j v) := by
  rw [Nat.add_comm]; simp [tvv, List.map_set]
theorem tvv_one (n : Int) (ws : List Nat) : (tvv n ws).all (·.oneCell') = true := by simp [tvv, Value.oneCell']
theorem tvv_zeros (n : Int) : tvv n (List.replicate 7 0) = #[.int .i64 n, .int .u64 0, .int .u64 0, .int .u64 0, .int .u64 0, .int .u64 0, .int .u64 0, .int .u64 0] := by
  simp [tvv, List.replicate]

def Pk (w wr : World) (n : Int) (l ws : List Nat) : Prop := wr.heap[w.heap.size]? = some (.cells (img l) 98 (0, 0)) ∧ wr.heap[w.heap.size + 1 + 1]? = some (.cells (tvv n ws) 26 (0, 0)) ∧ (∃ c, wr.heap[w.heap.size + 1]? = some (.cells c 26 (0, 0)) ∧ c.size = 8) ∧ Below w.heap.size w wr
set_option maxHeartbeats 400000 in
theorem pack_any (n : Nat) (a : List Nat) (h1 : n ≤ 64) (ha : a.length = 64) (hin : ∀ i, a.getD i 0 < 64) (w : World) :
    Calls Try.prog 53 #[.int .i64 n, .agg (img a)] w fun e w' => e = .returned (.agg (tvv n (pks a n))) ∧ Below w.heap.size w w' := by
  have HA := Lib.hid ha; clear ha
  have HI := Lib.hid hin; clear hin
  go_enter Try.func53, Try.ntmps53
  go_wp2
  go_loopw [10] (fun i wr => ∃ k : Nat, k ≤ n ∧ i = .int .i64 k ∧ Pk w wr n a (pks a k)) (fun i _ => n - (intOf i).toNat)
  case atStart =>
    refine ⟨0, by omega, rfl, ?_⟩
    rw [pks_zero]
    unfold Pk
    rw [tvv_zeros]
    exact ⟨by repeat (first | exact hp_new (by simp) | refine hp_old ?_), hp_new (by simp), ⟨_, hp_old (hp_new (by simp)), rfl⟩, by repeat (first | exact Below.refl _ _ | refine bl_alloc ?_ _)⟩
  case round =>
    obtain ⟨k, hk, rfl, H⟩ := hrel
    by_cases hlt : k < n
    · have hk64 : k < 64 := by omega
      have c1 : wr.cell? ⟨w.heap.size + 1 + 1, 1 + k / 10, none⟩ = some (.int .u64 ((pw a (10 * (k / 10)) (k % 10) : Nat) : Int)) := by
        rw [cell_of_row _ _ _ _ _ _ H.2.1, tvv_get _ _ _ (by rw [pks_len]; omega), pks_at a k hk64]
      have c2 : wr.cell? ⟨w.heap.size, k, none⟩ = some (.int .i64 ((a.getD k 0 : Nat) : Int)) := by
        rw [cell_of_row _ _ _ _ _ _ H.1, img_get _ _ (by rw [HA.out]; omega)]
      have f1 : wr.frozen? ⟨w.heap.size + 1 + 1, 1 + k / 10, none⟩ = false := frozen_of_row _ _ _ _ _ H.2.1
      have hy := HI.out k
      have hv := or_in (pw a (10 * (k / 10)) (k % 10)) (a.getD k 0) (k % 10) (pw_lt a _ HI.out _) hy (by omega)
      have H2 : Pk w (wr.setCell ⟨w.heap.size + 1 + 1, 1 + k / 10, none⟩ (.int .u64 (bits .or .u64 ((pw a (10 * (k / 10)) (k % 10) : Nat) : Int) (IntKind.u64.wrap (((a.getD k 0 : Nat) : Int) * 2 ^ (6 * (k % 10))))))).drew n a (pks a (k + 1)) := by
        obtain ⟨g1, g2, ⟨c, g3, g3'⟩, g4⟩ := H
        rw [hv]
        refine ⟨hp_cell (by simp; omega) g1, ?_, ⟨c, hp_cell (by simp) g3, g3'⟩, (bl_cell g4 (by simp; omega) _).drew⟩
        rw [heap_drew, heap_setCell_same _ _ _ _ _ _ g2, tvv_set, pks_set a k]
      clear H hv
      have H2 := Lib.hid H2
      generalize a.getD k 0 = y at *
      generalize pw a (10 * (k / 10)) (k % 10) = x at *
      go_wp2
      go_region
      go_wp2
      go_roundw
      case rel => exact ⟨k+1, by omega, by go_num, H2.out⟩
      case measure => simp [intOf]; omega
    · have : k = n := by omega
      subst this
      obtain ⟨g1, g2, ⟨c, g3, g3'⟩, g4⟩ := H
      have G1 := Lib.hid g1; have G2 := Lib.hid g2; have G3 := Lib.hid g3; have G3' := Lib.hid g3'; have G4 := Lib.hid g4
      clear g1 g2 g3 g3' g4
      go_wp2_with (first | (refine wpList_load_row rfl 26 _ rfl (w.heap.size+1+1) rfl 26 _ _ _ G2.out Try.underlying26 rfl (by rw [tvv_size, pks_len]; kernel_rfl) ?_) | (refine wpList_store_row rfl 26 _ _ rfl (w.heap.size+1) _ rfl rfl 26 c G3.out (by rw [tvv_size, pks_len]; kernel_rfl) (by rw [G3'.out, tvv_size, pks_len]) (tvv_one _ _) ?_))
      refine bodyPost_ret (v := .agg (tvv k (pks a k))) ?_ rfl ⟨rfl, bl_row G4.out (by omega) _⟩
      exact results_cell_row rfl _ _ (w.heap.size+1) 26 _ _ _ rfl (setRow_heap _ _ c _ _ _ G3.out) Try.underlying26 rfl (by rw [tvv_size, pks_len]; kernel_rfl)
end Go.Proofs.Ytpebnldoimoahaa

namespace Go.Proofs.Ytpebnldoimoahaa
open Go.ChangeShapes Go.WideShapes Go.ChangeAt Go.RowKit Go.Proofs.YtpebnldoimoahaaW.PrintWords
section
variable {H : Type} {enc : TypeId × Value → H} {W : World}
theorem open_list {P : Program} {base : Nat} {t e : TypeId} {v : Value} {d : DataW H} {p : List MemPlace} (ht : P.underlying t = some (.slice e)) (he : P.underlying e = some (.int .i64)) (hc : P.cellsOf e = 1)
    (hval : Value.okWide P W .any base t v) (h : DataW.Trod enc P W 0 (fun _ => true) true t v d p) :
    ∃ A c l, v = .slice A (List.length l) c ∧ Kd.C (Kd.int .i64) W A l.length l ∧ (∀ x ∈ l, -9223372036854775808 ≤ x ∧ x ≤ 9223372036854775807) := by
  obtain ⟨a0, len, cap, rfl⟩ := okWide_slice ht hval
  obtain ⟨fuel, hf⟩ := h
  rcases open_ints ht he hc hf with ⟨hcs, _⟩ | ⟨x, n, c, zs, hcs, _, hl, hm, hz, _, hcell, hwz⟩
  · simp [Value.cells] at hcs
    obtain ⟨rfl, rfl, rfl⟩ := hcs
    exact ⟨none, 0, [], rfl, Kd.C_nil _ _, by simp⟩
  · simp [Value.cells] at hcs
    obtain ⟨rfl, rfl, rfl⟩ := hcs
    have hz : zs.length = cap := by simpa using hz
    have hlen : (zs.take len).length = len := by rw [List.length_take]; omega
    refine ⟨some x, cap, zs.take len, by rw [hlen], ?_, ?_⟩
    · rw [hlen]
      refine Kd.C_of_reads (enc := Value.int .i64) (d := (0 : Int)) (h1 := fun _ => rfl) ⟨hlen, by unfold maxLen at hm; omega, fun _ => ⟨x, rfl, fun j hj => ?_⟩⟩
      rw [hcell j (by omega)]
      congr 1
      simp [List.getD_eq_getElem?_getD, hj]
    · intro y hy
      exact bounds_i64 (hwz y (List.mem_of_mem_take hy))
set_option maxRecDepth 100000 in
theorem open_tr {base : Nat} {v : Value} {d : DataW H} {p : List MemPlace}
    (hval : Value.okWide Try.prog W .any base 26 v) (h : DataW.Trod enc Try.prog W 0 (fun _ => true) true 26 v d p) :
    ∃ n ws, v = .agg (tvv n ws) ∧ ws.length = 7 ∧ (∀ i, ws.getD i 0 < 18446744073709551616) ∧ (-9223372036854775808 ≤ n ∧ n ≤ 9223372036854775807) := by
  have hv : ∃ cs : Array Value, v = .agg cs := by
    unfold Value.okWide at hval
    rw [Try.underlying26] at hval
    obtain ⟨cs, hcs, _⟩ := hval
    exact ⟨cs, hcs⟩
  obtain ⟨cs, rfl⟩ := hv
  obtain ⟨fuel, hf⟩ := h
  obtain ⟨xs, m, rfl, hx, hlen, hxl, hfs⟩ := DataW.trod_struct Try.underlying26 hf
  have hlen : cs.toList.length = 8 := by
    have h8 : Try.prog.cellsOf 26 = 8 := by kernel_rfl
    rw [← h8]; exact hlen
  have h0 := hfs 0 _ rfl
  have h1 := hfs 1 _ rfl
  change DataW.trod enc Try.prog W 0 (fun _ => true) true m 3 ((cs.toList.drop 0).take (Try.prog.cellsOf 3)) = _ at h0
  change DataW.trod enc Try.prog W 0 (fun _ => true) true m 24 ((cs.toList.drop 1).take (Try.prog.cellsOf 24)) = _ at h1
  rw [show Try.prog.cellsOf 3 = 1 from by kernel_rfl] at h0
  rw [show Try.prog.cellsOf 24 = 7 from by kernel_rfl] at h1
  have hxs0 : ∃ y, xs[0]? = some y := ⟨_, List.getElem?_eq_getElem (by rw [hxl]; decide)⟩
  have hxs1 : ∃ y, xs[1]? = some y := ⟨_, List.getElem?_eq_getElem (by rw [hxl]; decide)⟩
  obtain ⟨y0, e0⟩ := hxs0
  obtain ⟨y1, e1⟩ := hxs1
  have h0 := h0.trans e0
  have h1 := h1.trans e1
  obtain ⟨n, hn, _, wn⟩ := DataW.trod_int Try.underlying3 h0
  obtain ⟨zs, m2, rfl, hz, hzl, hzn, hzs⟩ := DataW.trod_array Try.underlying24 h1
  rw [show Try.prog.cellsOf 23 = 1 from by kernel_rfl] at hzs
  have each : ∀ i, i < 7 → ∃ k : Nat, cs.toList[1 + i]? = some (.int .u64 (k : Int)) ∧ k < 18446744073709551616 := by
    intro i hi
    have hy : ∃ y, zs[i]? = some y := ⟨_, List.getElem?_eq_getElem (by rw [hzn]; exact hi)⟩
    obtain ⟨y, ey⟩ := hy
    obtain ⟨k, hk, _, wk⟩ := DataW.trod_int Try.underlying23 ((hzs i hi).trans ey)
    have hb := bounds_u64 wk
    refine ⟨k.toNat, ?_, by omega⟩
    have hh : (((cs.toList.drop 1).take 7).drop (i * 1)).take 1 = [Value.int .u64 k] := hk
    have h2 := congrArg List.head? hh
    rw [List.head?_take, if_neg (by decide), List.head?_drop, Nat.mul_one, List.getElem?_take, if_pos hi, List.getElem?_drop] at h2
    rw [h2]
    simp
    omega
  have hc0 : cs.toList[0]? = some (.int .i64 n) := by
    have h2 := congrArg List.head? (show (cs.toList.drop 0).take 1 = [Value.int .i64 n] from hn)
    rw [List.head?_take, if_neg (by decide), List.head?_drop] at h2
    exact h2
  obtain ⟨k0, g0, b0⟩ := each 0 (by decide)
  obtain ⟨k1, g1, b1⟩ := each 1 (by decide)
  obtain ⟨k2, g2, b2⟩ := each 2 (by decide)
  obtain ⟨k3, g3, b3⟩ := each 3 (by decide)
  obtain ⟨k4, g4, b4⟩ := each 4 (by decide)
  obtain ⟨k5, g5, b5⟩ := each 5 (by decide)
  obtain ⟨k6, g6, b6⟩ := each 6 (by decide)
  refine ⟨n, [k0, k1, k2, k3, k4, k5, k6], ?_, rfl, ?_, bounds_i64 wn⟩
  · congr 1
    apply Array.ext'
    apply List.ext_getElem?
    intro i
    show cs.toList[i]? = [Value.int .i64 n, .int .u64 k0, .int .u64 k1, .int .u64 k2, .int .u64 k3, .int .u64 k4, .int .u64 k5, .int .u64 k6][i]?
    match i with
    | 0 => exact hc0
    | 1 => exact g0
    | 2 => exact g1
    | 3 => exact g2
    | 4 => exact g3
    | 5 => exact g4
    | 6 => exact g5
    | 7 => exact g6
    | i + 8 => rw [List.getElem?_eq_none (by omega)]; rfl
  · intro i
    match i with
    | 0 => exact b0
    | 1 => exact b1
    | 2 => exact b2
    | 3 => exact b3
    | 4 => exact b4
    | 5 => exact b5
    | 6 => exact b6
    | i + 7 => simp
end
end Go.Proofs.Ytpebnldoimoahaa

namespace Go.Proofs.Ytpebnldoimoahaa
open Go.RowKit
section
variable {P : Program} (w : World)
theorem eq_int1 (d : Nat) {t : TypeId} {k : IntKind} (hu : P.underlying t = some (.int k)) (a b : Int) : (Op.equalIn (d + 1) t (.int k a) (.int k b)).run P w = .ok (a == b) w := by
  simp [Op.equalIn, run_underlying hu]
theorem eq_items (d : Nat) {t : TypeId} {k : IntKind} (hu : P.underlying t = some (.int k)) (xs ys : List Int) : ∀ (is : List Nat), (∀ i ∈ is, i < xs.length ∧ i < ys.length) →
    (Op.eqItems (d + 1) t 1 (xs.map (Value.int k)).toArray (ys.map (Value.int k)).toArray is).run P w = .ok (decide (∀ i ∈ is, xs.getD i 0 = ys.getD i 0)) w
  | [], _ => by simp [Op.eqItems]
  | i :: is, h => by
    have hp : P.plainKey t = true := by simp [Program.plainKey, hu]
    obtain ⟨hx, hy⟩ := h i (by simp)
    have ih := eq_items d hu xs ys is (fun j hj => h j (by simp [hj]))
    have e1 : (part t (xs.map (Value.int k)).toArray (i * 1)).run P w = .ok (.int k (xs.getD i 0)) w := run_part_plain w hp (by simp [List.getElem?_eq_getElem hx])
    have e2 : (part t (ys.map (Value.int k)).toArray (i * 1)).run P w = .ok (.int k (ys.getD i 0)) w := run_part_plain w hp (by simp [List.getElem?_eq_getElem hy])
    simp only [Op.eqItems, Sem.run_bind, e1, e2, Result.andThen_ok, eq_int1 w d hu]
    by_cases e : xs.getD i 0 = ys.getD i 0
    · have e' : (xs.getD i 0 == ys.getD i 0) = true := by simpa using e
      rw [e', Bool.not_true, if_neg (by simp), ih]
      congr 1
      simp only [List.mem_cons, forall_eq_or_imp, e, true_and]
    · have e' : (xs.getD i 0 == ys.getD i 0) = false := by simpa using e
      rw [e', Bool.not_false, if_pos rfl]
      simp only [Sem.run_pure]
      congr 1
      symm
      rw [decide_eq_false_iff_not]
      intro hh
      exact e (hh i (by simp))
theorem eq_arr (d : Nat) {t e : TypeId} {n : Nat} {k : IntKind} (ht : P.underlying t = some (.array n e)) (hu : P.underlying e = some (.int k)) (hc : P.cellsOf e = 1) (xs ys : List Int) (hx : xs.length = n) (hy : ys.length = n) :
    (Op.equalIn (d + 2) t (.agg (xs.map (Value.int k)).toArray) (.agg (ys.map (Value.int k)).toArray)).run P w = .ok (decide (xs = ys)) w := by
  obtain ⟨i, hi⟩ := info_of_underlying (P := P) hu
  rw [run_equalIn_array w (d+1) _ _ ht hi, hc, eq_items w d hu xs ys _ (by intro i hi; simp at hi; omega)]
  congr 1
  apply decide_eq_decide.2
  constructor
  · intro h
    apply List.ext_getElem (by omega)
    intro j h1 h2
    have := h j (by simp; omega)
    simpa [List.getElem?_eq_getElem h1, List.getElem?_eq_getElem h2] using this
  · rintro rfl; simp
end
theorem eqf2 {P : Program} {d : Nat} {xs ys : Array Value} {f g : Field} {a b a' b' : Value} {r s : Bool} {w : World} (hn : (f.name == "_") = false) (hm : (g.name == "_") = false)
    (ha : (part f.type xs f.offset).run P w = .ok a w) (hb : (part f.type ys f.offset).run P w = .ok b w) (he : (Op.equalIn d f.type a b).run P w = .ok r w)
    (ha' : (part g.type xs g.offset).run P w = .ok a' w) (hb' : (part g.type ys g.offset).run P w = .ok b' w) (he' : (Op.equalIn d g.type a' b').run P w = .ok s w) :
    (Op.eqFields d xs ys [f, g]).run P w = .ok (r && s) w := by
  have hn' : f.name ≠ "_" := by simpa using hn
  have hm' : g.name ≠ "_" := by simpa using hm
  simp only [Op.eqFields, if_pos hn', if_pos hm', Sem.run_bind, ha, hb, he, Result.andThen_ok]
  cases r
  · simp
  · cases s <;> simp [ha', hb', he']
theorem tvv_cast (n : Int) (ws : List Nat) : tvv n ws = (Value.int .i64 n :: (ws.map (fun (x : Nat) => (x : Int))).map (Value.int .u64)).toArray := by simp [tvv, Function.comp_def]
theorem part_words (w : World) (n : Int) (ws : List Nat) (h : ws.length = 7) : (part 24 (tvv n ws) 1).run Try.prog w = .ok (.agg ((ws.map (fun (x : Nat) => (x : Int))).map (Value.int .u64)).toArray) w := by
  match ws, h with
  | [x0, x1, x2, x3, x4, x5, x6], _ => simp [part, tvv, go_sem]
set_option maxRecDepth 100000 in
theorem eqT (d : Nat) (w : World) (n m : Int) (xs ys : List Nat) (hx : xs.length = 7) (hy : ys.length = 7) :
    (Op.equalIn (d + 3) 26 (.agg (tvv n xs)) (.agg (tvv m ys))).run Try.prog w = .ok (decide (n = m ∧ xs = ys)) w := by
  have hf : Try.prog.fieldsOf 26 = #[{ name := "N", type := 3, offset := 0, embedded := false, tag := "", pkgPath := "", byteOffset := 0 },
        { name := "Words", type := 24, offset := 1, embedded := false, tag := "", pkgPath := "", byteOffset := 8 }] := by simp [Program.fieldsOf, Try.underlying26]
  rw [run_equalIn_struct (P := Try.prog) w (d + 2) 26 _ _ (by rw [hf]; exact Try.underlying26) (by kernel_rfl), hf]
  have hp : Try.prog.plainKey 3 = true := by kernel_rfl
  have e1 : ∀ n ws, (part 3 (tvv n ws) 0).run Try.prog w = .ok (.int .i64 n) w := fun n ws => run_part_plain w hp (tvv_zero n ws)
  have e3 := eq_arr (P := Try.prog) w d Try.underlying24 Try.underlying23 (by kernel_rfl) (xs.map (fun (x : Nat) => (x : Int))) (ys.map (fun (x : Nat) => (x : Int))) (by simpa using hx) (by simpa using hy)
  refine (eqf2 (by kernel_rfl) (by kernel_rfl) (e1 _ _) (e1 _ _) (eq_int1 w (d+1) Try.underlying3 n m) (part_words w n xs hx) (part_words w m ys hy) e3).trans ?_
  congr 1
  have : (xs.map (fun (x : Nat) => (x : Int)) = ys.map (fun (x : Nat) => (x : Int))) ↔ xs = ys := List.map_inj_right (fun a b h => Int.ofNat.inj h)
  rw [Bool.decide_and, show (n == m) = decide (n = m) from rfl, decide_eq_decide.2 this]
set_option maxRecDepth 100000 in
theorem run_eqT (w : World) (n m : Int) (xs ys : List Nat) (hx : xs.length = 7) (hy : ys.length = 7) :
    (binOp .eql 26 (.agg (tvv n xs)) (.agg (tvv m ys))).run Try.prog w = .ok (.bool (decide (n = m ∧ xs = ys))) w := by
  have h : (Op.equalIn Op.maxDepth 26 (.agg (tvv n xs)) (.agg (tvv m ys))).run Try.prog w = .ok (decide (n = m ∧ xs = ys)) w := eqT 9997 w n m xs ys hx hy
  simp only [binOp]
  simp [Op.equal, h]
set_option maxRecDepth 100000 in
theorem run_neT (w : World) (n m : Int) (xs ys : List Nat) (hx : xs.length = 7) (hy : ys.length = 7) :
    (binOp .neq 26 (.agg (tvv n xs)) (.agg (tvv m ys))).run Try.prog w = .ok (.bool (!decide (n = m ∧ xs = ys))) w := by
  have h : (Op.equalIn Op.maxDepth 26 (.agg (tvv n xs)) (.agg (tvv m ys))).run Try.prog w = .ok (decide (n = m ∧ xs = ys)) w := eqT 9997 w n m xs ys hx hy
  simp only [binOp]
  simp [Op.equal, h]
end Go.Proofs.Ytpebnldoimoahaa

namespace Go.Proofs.Ytpebnldoimoahaa
open Go.RowKit

def Op (w wr : World) (n : Int) (ws l : List Nat) : Prop := wr.heap[w.heap.size]? = some (.cells (tvv n ws) 26 (0, 0)) ∧ wr.heap[w.heap.size + 1 + 1]? = some (.cells (img l) 98 (0, 0)) ∧ (∃ c, wr.heap[w.heap.size + 1]? = some (.cells c 98 (0, 0)) ∧ c.size = 64) ∧ Below w.heap.size w wr
/-- What open answers: the images, and whether it is a transformation. -/
def OpenR (n : Int) (ws : List Nat) (w : World) (e : Ending) (w' : World) : Prop :=
  ∃ l, l.length = 64 ∧ e = .returned (.tuple #[.agg (img l), .bool (goodT n ws)]) ∧ (goodT n ws = true → l = ims n.toNat ws) ∧ Below w.heap.size w w'
theorem goodT_small {n : Int} {ws : List Nat} (h : ¬ (1 ≤ n ∧ n ≤ 64)) : goodT n ws = false := by
  unfold goodT
  by_cases h1 : 1 ≤ n
  · rw [decide_eq_false (p := n ≤ 64) (by omega)]; simp
  · rw [decide_eq_false h1]; simp
theorem goodT_point {n k : Nat} {ws : List Nat} (hk : k < n) (h : n ≤ im ws k) : goodT n ws = false := by
  unfold goodT
  have : (List.range (n : Int).toNat).all (fun i => decide (im ws i < (n : Int).toNat)) = false := by
    rw [Bool.eq_false_iff]
    intro hh
    rw [List.all_eq_true] at hh
    have := hh k (by simp; omega)
    simp at this; omega
  rw [this]; simp
theorem goodT_all {n : Nat} {ws : List Nat} (h0 : 1 ≤ n) (h1 : n ≤ 64) (h : ∀ i, i < n → im ws i < n) : goodT n ws = decide (pks (ims n ws) n = ws) := by
  unfold goodT
  rw [decide_eq_true (p := (1 : Int) ≤ n) (by omega), decide_eq_true (p := (n : Int) ≤ 64) (by omega), Int.toNat_natCast]
  have : (List.range n).all (fun i => decide (im ws i < n)) = true := by
    rw [List.all_eq_true]; intro i hi; simp at hi; simpa using h i hi
  rw [this]; simp
set_option maxHeartbeats 800000 in
set_option maxRecDepth 100000 in
theorem open_in (n : Nat) (ws : List Nat) (h0 : 1 ≤ n) (h1 : n ≤ 64) (hl : ws.length = 7) (hw : Hid (∀ i, ws.getD i 0 < 18446744073709551616)) (w : World) :
    Calls Try.prog 55 #[.agg (tvv n ws)] w (OpenR n ws w) := by
  have HL := Lib.hid hl; clear hl
  have hz : ∀ l : List Nat, l.length = 64 → (Try.prog.info? 98).map (·.size) = some (img l).size := fun l h => by rw [img_size, h]; kernel_rfl
  have HZ := Lib.hid hz; clear hz
  have z := tvv_zero n ws
  go_enter Try.func55, Try.ntmps55
  go_wp2
  go_loopw [17] (fun i wr => ∃ k : Nat, k ≤ n ∧ i = .int .i64 k ∧ Hid (∀ i, i < k → im ws i < n) ∧ Op w wr n ws (ims k ws)) (fun i _ => n - (intOf i).toNat)
  case atStart =>
    refine ⟨0, by omega, rfl, Lib.hid (by omega), ?_⟩
    rw [ims_zero]
    exact ⟨hp_old (hp_old (hp_new rfl)), hp_new (by simp), ⟨_, hp_old (hp_new (by simp)), rfl⟩, by repeat (first | exact Below.refl _ _ | refine bl_alloc ?_ _)⟩
  case round =>
    obtain ⟨k, hk, rfl, HI, H⟩ := hrel
    have c0 : wr.cell? ⟨w.heap.size, 0, none⟩ = some (.int .i64 n) := by
      rw [cell_of_row _ _ _ _ _ _ H.1, tvv_zero]
    by_cases hlt : k < n
    · have hk64 : k < 64 := by omega
      have c1 : wr.cell? ⟨w.heap.size, 1 + k / 10, none⟩ = some (.int .u64 ((ws.getD (k / 10) 0 : Nat) : Int)) := by
        rw [cell_of_row _ _ _ _ _ _ H.1, tvv_get _ _ _ (by rw [HL.out]; omega)]
      have f1 : wr.frozen? ⟨w.heap.size + 1 + 1, k, none⟩ = false := frozen_of_row _ _ _ _ _ H.2.1
      have c2 : wr.cell? ⟨w.heap.size + 1 + 1, k, none⟩ = some (.int .i64 0) := by
        rw [cell_of_row _ _ _ _ _ _ H.2.1, img_get _ _ (by rw [ims_len]; omega), ims_getD, if_neg (by omega)]; rfl
      have hv : bits .and .u64 (((ws.getD (k / 10) 0 : Nat) : Int) / 2 ^ (6 * (k % 10))) 63 = ((im ws k : Nat) : Int) := shr_in _ _ (hw.out _)
      have hi1 : im ws k < 64 := im_lt ws k
      have H2 : Op w (wr.setCell ⟨w.heap.size + 1 + 1, k, none⟩ (.int .i64 ((im ws k : Nat) : Int))).drew n ws (ims (k + 1) ws) := by
        obtain ⟨g1, g2, ⟨c, g3, g3'⟩, g4⟩ := H
        refine ⟨hp_cell (by simp; omega) g1, ?_, ⟨c, hp_cell (by simp) g3, g3'⟩, (bl_cell g4 (by simp; omega) _).drew⟩
        rw [heap_drew, heap_setCell_same _ _ _ _ _ _ g2, img_set, ims_set k ws]
      clear H
      have H2 := Lib.hid H2
      have HP : Hid (n ≤ im ws k → goodT n ws = false) := Lib.hid (goodT_point hlt)
      have HN : Hid (im ws k < n → ∀ i, i < k + 1 → im ws i < n) := Lib.hid (fun h i hi => by
        by_cases e : i = k
        · subst e; exact h
        · exact HI.out i (by omega))
      generalize im ws k = y at *
      generalize ws.getD (k / 10) 0 = x at *
      by_cases hyn : y < n
      · have hd : decide ((n : Int) ≤ y) = false := by simp; omega
        go_wp2
        go_region
        go_wp2
        go_roundw
        case rel => exact ⟨k+1, by omega, by go_num, Lib.hid (HN.out hyn), H2.out⟩
        case measure => simp [intOf]; omega
      · have hd : decide ((n : Int) ≤ y) = true := by simp; omega
        obtain ⟨g1, g2, ⟨c, g3, g3'⟩, g4⟩ := H2.out
        have G2 := Lib.hid g2; have G3 := Lib.hid g3; have G3' := Lib.hid g3'; have G4 := Lib.hid g4
        clear g1 g2 g3 g3' g4
        go_wp2
        go_region
        go_wp2_with (first | (refine wpList_load_row rfl 98 _ rfl (w.heap.size+1+1) rfl 98 _ _ _ G2.out Try.underlying98 rfl (HZ.out _ (ims_len _ _)) ?_) | (refine wpList_store_row rfl 98 _ _ rfl (w.heap.size+1) _ rfl rfl 98 c G3.out (HZ.out _ (ims_len _ _)) (by rw [G3'.out, img_size, ims_len]) (img_one _) ?_))
        refine bodyPost_ret (v := .tuple #[.agg (img (ims (k + 1) ws)), .bool false]) ?_ rfl ⟨ims (k + 1) ws, ims_len _ _, by rw [HP.out (by omega)], fun h => absurd h (by rw [HP.out (by omega)]; simp), bl_row G4.out (by omega) _⟩
        refine (results_cell_tmp (p := 2) (t := 3) (by rfl) _ _ (w.heap.size + 1) 98 _ _ _ ?_ (setRow_heap _ _ c _ _ _ G3.out) Try.underlying98 rfl (HZ.out _ (ims_len _ _))).trans ?_ <;> rfl
    · have : k = n := by omega
      subst this
      obtain ⟨g1, g2, ⟨c, g3, g3'⟩, g4⟩ := H
      have G1 := Lib.hid g1; have G2 := Lib.hid g2; have G3 := Lib.hid g3; have G3' := Lib.hid g3'; have G4 := Lib.hid g4
      clear g1 g2 g3 g3' g4
      have ht : ∀ n (l : List Nat), l.length = 7 → (Try.prog.info? 26).map (·.size) = some (tvv n l).size := fun n l h => by rw [tvv_size, h]; kernel_rfl
      go_wp2_with fail
      refine wp_region_held_drew (S := fun w' => w'.heap[w.heap.size]? = some (.cells (tvv k ws) 26 (0, 0)) ∧ w'.heap[w.heap.size + 1 + 1]? = some (.cells (img (ims k ws)) 98 (0, 0)) ∧ (∃ c, w'.heap[w.heap.size + 1]? = some (.cells c 98 (0, 0)) ∧ c.size = 64) ∧ Below w.heap.size w w') (by kernel_rfl) ⟨G1.out, G2.out, ⟨c, G3.out, G3'.out⟩, G4.out.drew⟩ (fun hS => ?_)
      refine any_take (i := 0) rfl (by kernel_rfl) (by kernel_rfl) (by kernel_rfl) (fun _ _ _ h => h) hS (yi_row _ _ rfl rfl (w.heap.size + 1 + 1) rfl (img (ims k ws)) _ Try.underlying98 rfl (HZ.out _ (ims_len _ _)) (fun w' h' => ⟨_, _, h'.2.1⟩)) ?_
      (try simp only [Act.put, List.setIfInBounds_toArray, List.set_cons_zero, List.set_cons_succ])
      refine any_take (i := 3) rfl (by kernel_rfl) (by kernel_rfl) (by kernel_rfl) (fun _ _ _ h => h) hS (yi_row _ _ rfl rfl (w.heap.size + 1 + 1) rfl (img (ims k ws)) _ Try.underlying98 rfl (HZ.out _ (ims_len _ _)) (fun w' h' => ⟨_, _, h'.2.1⟩)) ?_
      (try simp only [Act.put, List.setIfInBounds_toArray, List.set_cons_zero, List.set_cons_succ])
      refine any_take (i := 1) (v := .pointer (some ⟨w.heap.size, 0, none⟩)) rfl (by kernel_rfl) (by kernel_rfl) (by kernel_rfl) (fun _ _ _ h => h) hS (.inl ⟨by rfl, fun w' h' => ?c1⟩) ?_
      (try simp only [Act.put, List.setIfInBounds_toArray, List.set_cons_zero, List.set_cons_succ])
      case c1 => go_simp
      refine any_take (i := 2) (v := .int .i64 k) rfl (by kernel_rfl) (by kernel_rfl) (by kernel_rfl) (fun _ _ _ h => h) hS (yi_cell _ _ rfl rfl ⟨w.heap.size, 0, none⟩ rfl _ Try.underlying3 rfl (fun w' h' => (cell_of_row _ _ _ _ _ _ h'.1).trans (tvv_zero _ _))) ?_
      (try simp only [Act.put, List.setIfInBounds_toArray, List.set_cons_zero, List.set_cons_succ])
      refine any_take (i := 5) rfl (by kernel_rfl) (by kernel_rfl) (by kernel_rfl) (fun _ _ _ h => h) hS (yi_row _ _ rfl rfl w.heap.size rfl (tvv k ws) _ Try.underlying26 rfl (ht _ _ HL.out) (fun w' h' => ⟨_, _, h'.1⟩)) ?_
      (try simp only [Act.put, List.setIfInBounds_toArray, List.set_cons_zero, List.set_cons_succ])
      refine any_call (i := 4) rfl (by kernel_rfl) rfl 53 #[.int .i64 k, .agg (img (ims k ws))] ?c2 (pack_any k (ims k ws) h1 (ims_len _ _) (ims_lt _ _) _) ?_
      case c2 => simp [go_sem]
      (try simp only [Act.put, List.setIfInBounds_toArray, List.set_cons_zero, List.set_cons_succ])
      rintro e w2 ⟨rfl, hb⟩
      have hS2 : w2.heap[w.heap.size]? = some (.cells (tvv k ws) 26 (0, 0)) ∧ w2.heap[w.heap.size + 1 + 1]? = some (.cells (img (ims k ws)) 98 (0, 0)) ∧ (∃ c, w2.heap[w.heap.size + 1]? = some (.cells c 98 (0, 0)) ∧ c.size = 64) ∧ Below w.heap.size w w2 :=
        ⟨hp_below' hb hS.1, hp_below' hb hS.2.1, ⟨c, hp_below' hb G3.out, G3'.out⟩, bl_trans hS.2.2.2 (Nat.le_of_lt (hp_lt hS.1)) hb⟩
      refine ⟨_, rfl, hS2, ?_⟩
      refine any_take (i := 6) (v := .bool (goodT k ws)) rfl (by kernel_rfl) (by kernel_rfl) (by kernel_rfl) (fun _ _ _ h => h) hS2 (yi_bin _ _ _ _ _ rfl rfl (fun w' h' => ⟨?c3, ?c4⟩)) ?_
      (try simp only [Act.put, List.setIfInBounds_toArray, List.set_cons_zero, List.set_cons_succ])
      case c3 => exact run_eqGuard_agg w' .eql 26 _ _ _ _ (by kernel_rfl)
      case c4 =>
        have h4 := run_eqT w' k k (pks (ims k ws) k) ws (pks_len _ _) HL.out
        refine Eq.trans h4 ?_
        rw [goodT_all h0 h1 HI.out]
        simp
      obtain ⟨c', gc, gc'⟩ := hS2.2.2.1
      have hS3 : (w2.setRow (w.heap.size + 1) (img (ims k ws))).heap[w.heap.size]? = some (.cells (tvv k ws) 26 (0, 0)) ∧ (w2.setRow (w.heap.size + 1) (img (ims k ws))).heap[w.heap.size + 1 + 1]? = some (.cells (img (ims k ws)) 98 (0, 0)) ∧ (∃ c, (w2.setRow (w.heap.size + 1) (img (ims k ws))).heap[w.heap.size + 1]? = some (.cells c 98 (0, 0)) ∧ c.size = 64) ∧ Below w.heap.size w (w2.setRow (w.heap.size + 1) (img (ims k ws))) :=
        ⟨hp_row (by omega) hS2.1, hp_row (by omega) hS2.2.1, ⟨_, setRow_heap _ _ c' _ _ _ gc, by rw [img_size, ims_len]⟩, bl_row hS2.2.2.2 (by omega) _⟩
      refine any_row (i := 7) rfl (by kernel_rfl) rfl _ _ _ rfl (w.heap.size + 1) (img (ims k ws)) rfl rfl 98 c' gc (HZ.out _ (ims_len _ _)) (by rw [gc', img_size, ims_len]) (img_one _) hS3 ?_
      refine any_val (i := 8) rfl (by kernel_rfl) rfl hS3 rfl ?_
      refine wpAnyH_done (by kernel_rfl) ?_ _
      go_wp2
      refine bodyPost_ret (v := .tuple #[.agg (img (ims k ws)), .bool (goodT k ws)]) ?_ rfl ⟨_, ims_len _ _, rfl, fun _ => rfl, hS3.2.2.2⟩
      refine (results_cell_tmp (p := 2) (t := 3) (by rfl) _ _ (w.heap.size + 1) 98 _ _ _ ?_ (setRow_heap _ _ c' _ _ _ gc) Try.underlying98 rfl (HZ.out _ (ims_len _ _))).trans ?_ <;> rfl
end Go.Proofs.Ytpebnldoimoahaa

namespace Go.Proofs.Ytpebnldoimoahaa
open Go.RowKit
theorem zeros_img : (#[.int .i64 0, .int .i64 0, .int .i64 0, .int .i64 0, .int .i64 0, .int .i64 0, .int .i64 0, .int .i64 0, .int .i64 0, .int .i64 0, .int .i64 0, .int .i64 0, .int .i64 0, .int .i64 0, .int .i64 0, .int .i64 0, .int .i64 0, .int .i64 0, .int .i64 0, .int .i64 0, .int .i64 0, .int .i64 0, .int .i64 0, .int .i64 0, .int .i64 0, .int .i64 0, .int .i64 0, .int .i64 0, .int .i64 0, .int .i64 0, .int .i64 0, .int .i64 0, .int .i64 0, .int .i64 0, .int .i64 0, .int .i64 0, .int .i64 0, .int .i64 0, .int .i64 0, .int .i64 0, .int .i64 0, .int .i64 0, .int .i64 0, .int .i64 0, .int .i64 0, .int .i64 0, .int .i64 0, .int .i64 0, .int .i64 0, .int .i64 0, .int .i64 0, .int .i64 0, .int .i64 0, .int .i64 0, .int .i64 0, .int .i64 0, .int .i64 0, .int .i64 0, .int .i64 0, .int .i64 0, .int .i64 0, .int .i64 0, .int .i64 0, .int .i64 0] : Array Value) = img (List.replicate 64 0) := by rfl
set_option maxRecDepth 100000 in
set_option maxHeartbeats 800000 in
theorem open_out (n : Int) (ws : List Nat) (hn : n < 1 ∨ 64 < n) (w : World) :
    Calls Try.prog 55 #[.agg (tvv n ws)] w (OpenR n ws w) := by
  have hz : ∀ l : List Nat, l.length = 64 → (Try.prog.info? 98).map (·.size) = some (img l).size := fun l h => by rw [img_size, h]; kernel_rfl
  have HZ := Lib.hid hz; clear hz
  have HG := Lib.hid (goodT_small (n := n) (ws := ws) (by omega))
  have z := tvv_zero n ws
  have hd : (decide (n < 1) || decide (64 < n)) = true := by simp; omega
  go_enter Try.func55, Try.ntmps55
  go_wp2_with (first | (refine wpList_load_row rfl 98 _ rfl (w.heap.size+1+1) rfl 98 (img (List.replicate 64 0)) _ _ (hp_new (by simp)) Try.underlying98 rfl (HZ.out _ (by simp)) ?_) | (refine wpList_store_row rfl 98 _ _ rfl (w.heap.size+1) (img (List.replicate 64 0)) rfl rfl 98 (img (List.replicate 64 0)) (hp_old (hp_new (by simp))) (HZ.out _ (by simp)) rfl (img_one _) ?_))
  all_goals
    refine bodyPost_ret (v := .tuple #[.agg (img (List.replicate 64 0)), .bool false]) ?_ rfl ⟨List.replicate 64 0, by simp, by rw [HG.out], fun h => absurd h (by rw [HG.out]; simp), bl_row (by repeat (first | exact Below.refl _ _ | refine bl_alloc ?_ _)) (by omega) _⟩
    refine (results_cell_tmp (p := 2) (t := 3) (by rfl) _ _ (w.heap.size + 1) 98 _ _ _ ?_ (setRow_heap _ _ (img (List.replicate 64 0)) _ _ _ (hp_old (hp_new (by simp)))) Try.underlying98 rfl (HZ.out _ (by simp))).trans ?_ <;> rfl
/-- Whatever the packed value. -/
theorem open_any (n : Int) (ws : List Nat) (hl : ws.length = 7) (hw : Hid (∀ i, ws.getD i 0 < 18446744073709551616)) (w : World) :
    Calls Try.prog 55 #[.agg (tvv n ws)] w (OpenR n ws w) := by
  by_cases h : 1 ≤ n ∧ n ≤ 64
  · obtain ⟨m, rfl⟩ := Int.eq_ofNat_of_zero_le (show 0 ≤ n by omega)
    exact open_in m ws (by omega) (by omega) hl hw w
  · exact open_out n ws (by omega) w
section
variable {ops : Array Oper} {rest : List Oper} {o : Oper} {a : Act} {w : World} {Q : Exit → Act → World → Prop}
theorem im_z (l : List Nat) (h : l.length = 64) : (Try.prog.info? 98).map (·.size) = some (img l).size := by rw [img_size, h]; kernel_rfl
theorem tr_z (n : Int) (l : List Nat) (h : l.length = 7) : (Try.prog.info? 26).map (·.size) = some (tvv n l).size := by rw [tvv_size, h]; kernel_rfl
theorem ld_im (g : Nat) {l : List Nat} {t : TypeId} {fr : Nat × Nat} (hl : l.length = 64) (hg : w.heap[g]? = some (.cells (img l) t fr)) (hgd : o.guard = none) (x : Operand) (ho : o.op = .load 98 x)
    (hx : a.eval x = .pointer (some ⟨g, 0, none⟩)) (h : wpList Try.prog ops Q rest (a.put o.dst (.agg (img l))) w) : wpList Try.prog ops Q (o :: rest) a w :=
  wpList_load_row hgd 98 x ho g hx t _ fr _ hg Try.underlying98 rfl (im_z l hl) h
theorem ld_tr (g : Nat) {n : Int} {l : List Nat} {t : TypeId} {fr : Nat × Nat} (hl : l.length = 7) (hg : w.heap[g]? = some (.cells (tvv n l) t fr)) (hgd : o.guard = none) (x : Operand) (ho : o.op = .load 26 x)
    (hx : a.eval x = .pointer (some ⟨g, 0, none⟩)) (h : wpList Try.prog ops Q rest (a.put o.dst (.agg (tvv n l))) w) : wpList Try.prog ops Q (o :: rest) a w :=
  wpList_load_row hgd 26 x ho g hx t _ fr _ hg Try.underlying26 rfl (tr_z n l hl) h
theorem st_im (g : Nat) {l : List Nat} {c : Array Value} {t : TypeId} (hl : l.length = 64) (hg : w.heap[g]? = some (.cells c t (0, 0))) (hc : c.size = 64) (hgd : o.guard = none) (x y : Operand) (ho : o.op = .store 98 x y)
    (hx : a.eval x = .pointer (some ⟨g, 0, none⟩)) (hy : a.eval y = .agg (img l)) (h : wpList Try.prog ops Q rest (a.put o.dst undef) (w.setRow g (img l))) : wpList Try.prog ops Q (o :: rest) a w :=
  wpList_store_row hgd 98 x y ho g _ hx hy t c hg (im_z l hl) (by rw [hc, img_size, hl]) (img_one _) h
theorem st_tr (g : Nat) {n : Int} {l : List Nat} {c : Array Value} {t : TypeId} (hl : l.length = 7) (hg : w.heap[g]? = some (.cells c t (0, 0))) (hc : c.size = 8) (hgd : o.guard = none) (x y : Operand) (ho : o.op = .store 26 x y)
    (hx : a.eval x = .pointer (some ⟨g, 0, none⟩)) (hy : a.eval y = .agg (tvv n l)) (h : wpList Try.prog ops Q rest (a.put o.dst undef) (w.setRow g (tvv n l))) : wpList Try.prog ops Q (o :: rest) a w :=
  wpList_store_row hgd 26 x y ho g _ hx hy t c hg (tr_z n l hl) (by rw [hc, tvv_size, hl]) (tvv_one _ _) h
theorem st_im_new {l : List Nat} {c : Array Value} {t : TypeId} (hl : l.length = 64) (hc : c.size = 64) (hgd : o.guard = none) (x y : Operand) (ho : o.op = .store 98 x y)
    (hx : a.eval x = .pointer (some ⟨w.heap.size, 0, none⟩)) (hy : a.eval y = .agg (img l)) (h : wpList Try.prog ops Q rest (a.put o.dst undef) (w.alloc (.cells (img l) t))) : wpList Try.prog ops Q (o :: rest) a (w.alloc (.cells c t)) :=
  st_im w.heap.size hl (hp_new rfl) hc hgd x y ho hx hy (by rw [World.setRow_alloc_new]; exact h)
theorem st_tr_new {n : Int} {l : List Nat} {c : Array Value} {t : TypeId} (hl : l.length = 7) (hc : c.size = 8) (hgd : o.guard = none) (x y : Operand) (ho : o.op = .store 26 x y)
    (hx : a.eval x = .pointer (some ⟨w.heap.size, 0, none⟩)) (hy : a.eval y = .agg (tvv n l)) (h : wpList Try.prog ops Q rest (a.put o.dst undef) (w.alloc (.cells (tvv n l) t))) : wpList Try.prog ops Q (o :: rest) a (w.alloc (.cells c t)) :=
  st_tr w.heap.size hl (hp_new rfl) hc hgd x y ho hx hy (by rw [World.setRow_alloc_new]; exact h)
end
/-- The error of a check. -/
def chkE (b : Bool) : Int := if b then 0 else 130
set_option maxRecDepth 100000 in
set_option maxHeartbeats 400000 in
/-- trans.Check: is it one? -/
theorem check_any (n : Int) (ws : List Nat) (hl : ws.length = 7) (hw : Hid (∀ i, ws.getD i 0 < 18446744073709551616)) (w : World) :
    Calls Try.prog 18 #[.agg (tvv n ws)] w fun e w' => e = .returned (.int .i64 (chkE (goodT n ws))) ∧ Below w.heap.size w w' := by
  have HL := Lib.hid hl; clear hl
  go_enter Try.func18, Try.ntmps18
  go_wp2_with (refine ld_tr w.heap.size HL.out (hp_new rfl) rfl _ rfl rfl ?_)
  refine (open_any n ws HL.out hw _).mono ?_
  rintro e w1 ⟨l, hl, rfl, hi, hb⟩
  have HB := Lib.hid hb; have HLL := Lib.hid hl; clear hi hl hb
  generalize hgb : goodT n ws = b at *
  have HGB := Lib.hid hgb; clear hgb
  cases b <;>
  · go_wp2_with (refine st_im_new HLL.out rfl rfl _ _ rfl rfl rfl ?_)
    go_ret
    exact ⟨by rw [HGB.out]; rfl, bl_alloc (bl_trans (bl_alloc (Below.refl _ _) _) (by simp) HB.out) _⟩
end Go.Proofs.Ytpebnldoimoahaa

namespace Go.Proofs.Ytpebnldoimoahaa
open Go.RowKit Go.Proofs.YtpebnldoimoahaaW.PrintWords

/-- May each be an image? -/
def okL (l : List Int) : Bool := l.all fun p => decide (0 ≤ p) && decide (p < l.length)
def nats (l : List Int) : List Nat := l.map Int.toNat
/-- The first k of a list, 64 long. -/
def padk (k : Nat) (L : List Nat) : List Nat := (List.range 64).map fun i => if i < k then L.getD i 0 else 0
theorem padk_len (k : Nat) (L : List Nat) : (padk k L).length = 64 := by simp [padk]
theorem padk_zero (L : List Nat) : padk 0 L = List.replicate 64 0 := by
  apply List.ext_getElem (by simp [padk])
  intro i h1 h2
  rw [List.getElem_replicate]
  simp [padk]
theorem padk_getD (k : Nat) (L : List Nat) (i : Nat) : (padk k L).getD i 0 = if i < k ∧ i < 64 then L.getD i 0 else 0 := by
  by_cases h : i < 64
  · simp [padk, h]
  · simp [padk, h]
theorem padk_set (k : Nat) (L : List Nat) : (padk k L).set k (L.getD k 0) = padk (k + 1) L := by
  apply List.ext_getElem (by simp [padk])
  intro i h1 h2
  simp only [padk, List.getElem_set, List.getElem_map, List.getElem_range]
  by_cases e : k = i
  · subst e; simp
  · rw [if_neg e]
    by_cases h : i < k
    · rw [if_pos h, if_pos (by omega)]
    · rw [if_neg h, if_neg (by omega)]
theorem pw_ext (L M : List Nat) (lo : Nat) : ∀ c, (∀ i, i < c → L.getD (lo + i) 0 = M.getD (lo + i) 0) → pw L lo c = pw M lo c
  | 0, _ => rfl
  | c + 1, h => by simp only [pw]; rw [pw_ext L M lo c (fun i hi => h i (by omega)), h c (by omega)]
theorem pks_ext (L M : List Nat) (n : Nat) (h : ∀ i, i < n → L.getD i 0 = M.getD i 0) : pks L n = pks M n := by
  unfold pks
  apply List.map_congr_left
  intro j _
  exact pw_ext L M _ _ fun i hi => h _ (by omega)
theorem pks_padk (L : List Nat) (n : Nat) (hn : n ≤ 64) : pks (padk n L) n = pks L n :=
  pks_ext _ _ _ fun i hi => by rw [padk_getD, if_pos (by omega)]

/-- What Make answers: N, the words, the error. -/
def makeT (l : List Int) : Int × List Nat × Int :=
  if l.length < 1 ∨ 64 < l.length then (0, List.replicate 7 0, 6)
  else if okL l then ((l.length : Int), pks (nats l) l.length, 0) else (0, List.replicate 7 0, 11)
theorem makeT_size {l : List Int} (h : l.length < 1 ∨ 64 < l.length) : makeT l = (0, List.replicate 7 0, 6) := if_pos h
theorem makeT_bad {l : List Int} (h : ¬ (l.length < 1 ∨ 64 < l.length)) (k : Nat) (hk : k < l.length) (hb : ¬ (0 ≤ l.getD k 0 ∧ l.getD k 0 < l.length)) : makeT l = (0, List.replicate 7 0, 11) := by
  unfold makeT
  rw [if_neg h, if_neg]
  intro hh
  unfold okL at hh
  rw [List.all_eq_true] at hh
  have := hh (l.getD k 0) (by simp [List.getD_eq_getElem?_getD, List.getElem?_eq_getElem hk])
  simp at this
  apply hb
  simpa using this
theorem makeT_good {l : List Int} (h : ¬ (l.length < 1 ∨ 64 < l.length)) (hg : ∀ i, i < l.length → 0 ≤ l.getD i 0 ∧ l.getD i 0 < l.length) : makeT l = ((l.length : Int), pks (nats l) l.length, 0) := by
  unfold makeT
  rw [if_neg h, if_pos]
  unfold okL
  rw [List.all_eq_true]
  intro x hx
  obtain ⟨i, hi, rfl⟩ := List.mem_iff_getElem.1 hx
  have := hg i hi
  simp [List.getD_eq_getElem?_getD, List.getElem?_eq_getElem hi] at this
  simpa using this

def Mk (w wr : World) (l : List Nat) : Prop := (∃ c, wr.heap[w.heap.size]? = some (.cells c 26 (0, 0)) ∧ c.size = 8) ∧ wr.heap[w.heap.size + 1]? = some (.cells (img l) 98 (0, 0)) ∧ Below w.heap.size w wr
set_option maxRecDepth 100000 in
set_option maxHeartbeats 800000 in
theorem make_any (A : Option Addr) (c : Nat) (l : List Int) (w : World) (hr : Kd.C (Kd.int .i64) w A l.length l) :
    Calls Try.prog 15 #[.slice A l.length c] w fun e w' => e = .returned (.tuple #[.agg (tvv (makeT l).1 (makeT l).2.1), .int .i64 (makeT l).2.2]) ∧ Below w.heap.size w w' := by
  have HR := Aside0.mk hr
  clear hr
  by_cases hs : l.length < 1 ∨ 64 < l.length
  · rw [makeT_size hs]
    have HS := Lib.hid hs; clear hs
    have hd : (decide ((l.length : Int) < 1) || decide (64 < (l.length : Int))) = true := by
      have := HS.out; simp; omega
    go_enter Try.func15, Try.ntmps15
    go_wp2_with (refine st_tr w.heap.size (n := 0) (l := List.replicate 7 0) (by simp) (hp_new rfl) rfl rfl _ _ rfl rfl rfl ?_)
    all_goals
      refine bodyPost_ret (v := .tuple #[.agg (tvv 0 (List.replicate 7 0)), .int .i64 6]) ?_ rfl ⟨rfl, bl_row (bl_alloc (Below.refl _ _) _) (by omega) _⟩
      refine (results_cell_tmp (p := 2) (t := 3) (by rfl) _ _ w.heap.size 26 _ _ _ ?_ (setRow_heap _ _ _ _ _ _ (hp_new rfl)) Try.underlying26 rfl (tr_z _ _ (by simp))).trans ?_ <;> rfl
  · have hmax : l.length ≤ 64 := by omega
    have hmin : 1 ≤ l.length := by omega
    have HS := Lib.hid hs; clear hs
    go_enter Try.func15, Try.ntmps15
    go_wp2
    go_loopw [19] (fun i wr => ∃ k : Nat, k ≤ l.length ∧ i = .int .i64 k ∧ Hid (∀ i, i < k → 0 ≤ l.getD i 0 ∧ l.getD i 0 < l.length) ∧ Mk w wr (padk k (nats l))) (fun i _ => l.length - (intOf i).toNat)
    case atStart =>
      refine ⟨0, by omega, rfl, Lib.hid (by omega), ?_⟩
      rw [padk_zero]
      exact ⟨⟨_, hp_old (hp_new rfl), rfl⟩, hp_new (by simp), by repeat (first | exact Below.refl _ _ | refine bl_alloc ?_ _)⟩
    case round =>
      obtain ⟨k, hk, rfl, HI, H⟩ := hrel
      obtain ⟨⟨c1, g1, g1'⟩, g2, g3⟩ := H
      by_cases hlt : k < l.length
      · obtain ⟨ad, rfl, hcell⟩ := Kd.at_int (Kd.C_below HR.out g3) k (by omega) (by omega)
        rw [Int.toNat_natCast] at hcell
        have f1 : wr.frozen? ⟨w.heap.size + 1, k, none⟩ = false := frozen_of_row _ _ _ _ _ g2
        have f2 : (wr.cell? ⟨w.heap.size + 1, k, none⟩) = some (.int .i64 0) := by
          rw [cell_of_row _ _ _ _ _ _ g2, img_get _ _ (by rw [padk_len]; omega), padk_getD, if_neg (by omega)]; rfl
        have HX := Lib.hid (show rd l k = l.getD k 0 by unfold rd; rw [Int.toNat_natCast])
        have HN := Lib.hid (show (nats l).getD k 0 = (l.getD k 0).toNat by simp [nats, List.getD_eq_getElem?_getD, List.getElem?_eq_getElem hlt])
        have G1 := Lib.hid g1; have G1' := Lib.hid g1'; have G2 := Lib.hid g2; have G3 := Lib.hid g3
        clear g1 g1' g2 g3
        by_cases hp : 0 ≤ rd l k ∧ rd l k < l.length
        · obtain ⟨hp0, hp1⟩ := hp
          have hd1 : decide (rd l k < 0) = false := by simp; omega
          have hd2 : decide ((l.length : Int) ≤ rd l k) = false := by simp; omega
          have H2 : Mk w (wr.setCell ⟨w.heap.size + 1, k, none⟩ (.int .i64 (rd l k))) (padk (k + 1) (nats l)) := by
            refine ⟨⟨c1, hp_cell (by simp) G1.out, G1'.out⟩, ?_, bl_cell G3.out (by simp) _⟩
            rw [heap_setCell_same _ _ _ _ _ _ G2.out, show rd l k = ((rd l k).toNat : Int) by omega, img_set, ← padk_set, HN.out, HX.out]
          have HI2 : Hid (∀ i, i < k + 1 → 0 ≤ l.getD i 0 ∧ l.getD i 0 < l.length) := Lib.hid (fun i hi => by
            by_cases e : i = k
            · subst e; rw [← HX.out]; exact ⟨hp0, hp1⟩
            · exact HI.out i (by omega))
          have H2 := Lib.hid H2
          generalize rd l k = p at *
          go_wp2
          go_roundw
          case rel => exact ⟨k+1, by omega, by go_num, HI2, H2.out⟩
          case measure => simp [intOf]; omega
        · have hd : (decide (rd l k < 0) || decide ((l.length : Int) ≤ rd l k)) = true := by simp; omega
          have HB := Lib.hid (makeT_bad HS.out k hlt (by rw [← HX.out]; exact hp))
          clear hp
          generalize rd l k = p at *
          go_wp2_with (refine st_tr w.heap.size (n := 0) (l := List.replicate 7 0) (by simp) G1.out G1'.out rfl _ _ rfl rfl rfl ?_)
          all_goals
            refine bodyPost_ret (v := .tuple #[.agg (tvv 0 (List.replicate 7 0)), .int .i64 11]) ?_ rfl ⟨by rw [HB.out], bl_row G3.out (by omega) _⟩
            refine (results_cell_tmp (p := 2) (t := 3) (by rfl) _ _ w.heap.size 26 _ _ _ ?_ (setRow_heap _ _ _ _ _ _ G1.out) Try.underlying26 rfl (tr_z _ _ (by simp))).trans ?_ <;> rfl
      · have : k = l.length := by omega
        subst this
        have HG := Lib.hid (makeT_good HS.out HI.out)
        have G1 := Lib.hid g1; have G1' := Lib.hid g1'; have G2 := Lib.hid g2; have G3 := Lib.hid g3
        clear g1 g1' g2 g3
        go_wp2_with (refine ld_im (w.heap.size + 1) (padk_len _ _) G2.out rfl _ rfl rfl ?_)
        refine (pack_any l.length (padk l.length (nats l)) hmax (padk_len _ _) ?hlt64 _).mono ?_
        case hlt64 =>
          intro i
          rw [padk_getD]
          split
          · rename_i h
            have := HI.out i h.1
            simp [nats, List.getD_eq_getElem?_getD, List.getElem?_eq_getElem h.1] at this ⊢
            omega
          · omega
        rintro e w2 ⟨rfl, hb⟩
        have HB := Lib.hid hb
        clear hb
        have HP := Lib.hid (pks_padk (nats l) l.length hmax)
        have G4 := Lib.hid (hp_below' HB.out G1.out)
        have G5 := Lib.hid (bl_then G3.out HB.out)
        go_wp2_with (refine st_tr w.heap.size (n := l.length) (l := pks (padk l.length (nats l)) l.length) (pks_len _ _) G4.out G1'.out rfl _ _ rfl rfl rfl ?_)
        refine bodyPost_ret (v := .tuple #[.agg (tvv l.length (pks (padk l.length (nats l)) l.length)), .int .i64 0]) ?_ rfl ⟨by rw [HG.out, HP.out], bl_row G5.out (by omega) _⟩
        refine (results_cell_tmp (p := 2) (t := 3) (by rfl) _ _ w.heap.size 26 _ _ _ ?_ (setRow_heap _ _ _ _ _ _ G4.out) Try.underlying26 rfl (tr_z _ _ (pks_len _ _))).trans ?_ <;> rfl
end Go.Proofs.Ytpebnldoimoahaa

namespace Go.Proofs.Ytpebnldoimoahaa
open Go.RowKit
theorem made_img (n : Nat) : madeCells (#[.int .i64 0] : Array Value) n = img (List.replicate n 0) := by
  apply Array.ext (by simp [size_madeCells, img])
  intro i h1 h2
  simp [madeCells, img, Nat.mod_one]
theorem info_int : (Try.prog.info? 3).map (fun i => (i.zero, i.size, i.bytes)) = some (some (.int .i64 0), 1, 8) := by kernel_rfl
theorem wpl_make {ops : Array Oper} {rest : List Oper} {o : Oper} {a : Act} {w : World} {Q : Exit → Act → World → Prop} (n : Nat) (hn : n ≤ 1000000) (hgd : o.guard = none) (l c : Operand) (ho : o.op = .makeSlice 22 l c)
    (hl : a.eval l = .int .i64 n) (hc : a.eval c = .int .i64 n)
    (h : wpList Try.prog ops Q rest (a.put o.dst (.slice (some ⟨w.heap.size, 0, none⟩) n n)) (w.alloc (.cells (img (List.replicate n 0)) 3))) : wpList Try.prog ops Q (o :: rest) a w := by
  obtain ⟨i0, hi, hz0, hz1, hz2⟩ := info_parts info_int
  have hr := run_make (P := Try.prog) w 22 3 i0 (.int .i64 0) Try.underlying22 hi hz0 .i64 .i64 n n (by omega) (Int.le_refl _) (by rw [hz2]; omega) (by omega)
  simp only [Int.toNat_natCast] at hr
  refine wpList_plain hgd fun K hK' => ?_
  unfold Oper.wp
  rw [hz1, Nat.mul_one, show (Value.int IntKind.i64 0).cells = #[.int .i64 0] from rfl, made_img] at hr
  simp [execOp, ho, hl, hc, hr, Result.andThen]
  exact hK' _ _ h
end Go.Proofs.Ytpebnldoimoahaa

namespace Go.Proofs.Ytpebnldoimoahaa

/-- Where k steps lead from v. -/
def orb (L : List Nat) (v : Nat) : Nat → Nat
  | 0 => v
  | k + 1 => L.getD (orb L v k) 0
def Inn (L : List Nat) (n : Nat) : Prop := ∀ i, i < n → L.getD i 0 < n
theorem orb_lt {L : List Nat} {n v : Nat} (h : Inn L n) (hv : v < n) : ∀ k, orb L v k < n
  | 0 => hv
  | k + 1 => h _ (orb_lt h hv k)
theorem orb_add (L : List Nat) (v a : Nat) : ∀ b, orb L v (a + b) = orb L (orb L v a) b
  | 0 => rfl
  | b + 1 => by show L.getD (orb L v (a + b)) 0 = _; rw [orb_add L v a b]; rfl
theorem orb_same {L : List Nat} {u v a b : Nat} (h : orb L u a = orb L v b) (c : Nat) : orb L u (a + c) = orb L v (b + c) := by
  rw [orb_add, orb_add, h]

/-- A list of different numbers below n is no longer than n. -/
theorem nodup_le : ∀ (n : Nat) (l : List Nat), l.Nodup → (∀ x ∈ l, x < n) → l.length ≤ n
  | 0, l, _, h => by
    cases l with
    | nil => simp
    | cons x l => exact absurd (h x (by simp)) (by omega)
  | n + 1, l, hd, h => by
    have h1 : (l.erase n).Nodup := hd.erase _
    have h2 : ∀ x ∈ l.erase n, x < n := fun x hx => by
      have := (List.Nodup.mem_erase_iff hd).1 hx
      have := h x this.2
      omega
    have := nodup_le n _ h1 h2
    have h3 := List.length_erase (a := n) (l := l)
    split at h3 <;> omega

/-- The first t points are different. -/
def fresh (L : List Nat) (v t : Nat) : Prop := ∀ i j, i < j → j < t → orb L v i ≠ orb L v j
theorem fresh_zero (L : List Nat) (v : Nat) : fresh L v 0 := fun _ _ _ h => absurd h (by omega)
theorem fresh_succ {L : List Nat} {v t : Nat} (h : fresh L v t) (h1 : ∀ i, i < t → orb L v i ≠ orb L v t) : fresh L v (t + 1) := fun i j hij hj => by
  by_cases e : j = t
  · subst e; exact h1 i hij
  · exact h i j hij (by omega)
theorem fresh_le {L : List Nat} {n v t : Nat} (h : Inn L n) (hv : v < n) (hf : fresh L v t) : t ≤ n := by
  have h1 : ((List.range t).map (orb L v)).Nodup := by
    rw [List.nodup_iff_pairwise_ne, List.pairwise_map]
    refine List.Pairwise.imp_of_mem ?_ (List.pairwise_lt_range (n := t))
    intro i j _ hj hij
    exact hf i j hij (List.mem_range.1 hj)
  have := nodup_le n _ h1 (fun x hx => by
    obtain ⟨k, _, rfl⟩ := List.mem_map.1 hx
    exact orb_lt h hv k)
  simpa using this

/-- m steps of tail, a round of p. -/
structure Tail (L : List Nat) (v m p : Nat) : Prop where
  fr : fresh L v (m + p)
  one : 1 ≤ p
  back : orb L v (m + p) = orb L v m
theorem Tail.unique {L : List Nat} {v m p m' p' : Nat} (h : Tail L v m p) (h' : Tail L v m' p') : m = m' ∧ p = p' := by
  have key : ∀ {a b c d : Nat}, Tail L v a b → Tail L v c d → ¬ (a + b < c + d) := fun {a b c d} h1 h2 hlt => by
    exact h2.fr a (a + b) (by have := h1.one; omega) hlt h1.back.symm
  have e : m + p = m' + p' := by
    have := key h h'; have := key h' h; omega
  have e2 : orb L v m = orb L v m' := by rw [← h.back, ← h'.back, e]
  have : m = m' := by
    rcases Nat.lt_trichotomy m m' with hl | hl | hl
    · exact absurd e2 (h.fr m m' hl (by have := h'.one; omega))
    · exact hl
    · exact absurd e2.symm (h.fr m' m hl (by have := h.one; omega))
  exact ⟨this, by omega⟩
/-- The tail and the round, found by search. -/
def hit (L : List Nat) (v t : Nat) : Bool := (List.range t).any fun s => orb L v s == orb L v t
def tlp (L : List Nat) (n v : Nat) : Nat × Nat :=
  match (List.range (n + 1)).find? (hit L v) with
  | some t => match (List.range t).find? (fun s => orb L v s == orb L v t) with
    | some s => (s, t - s)
    | none => (0, 1)
  | none => (0, 1)
theorem fresh_iff {L : List Nat} {v : Nat} : ∀ t, fresh L v t ↔ ∀ j, j < t → hit L v j = false
  | t => by
    constructor
    · intro h j hj
      rw [Bool.eq_false_iff]
      intro hh
      obtain ⟨s, hs, he⟩ := List.any_eq_true.1 hh
      exact h s j (List.mem_range.1 hs) hj (by simpa using he)
    · intro h i j hij hj he
      have := h j hj
      rw [Bool.eq_false_iff] at this
      exact this (List.any_eq_true.2 ⟨i, List.mem_range.2 hij, by simpa using he⟩)
theorem tlp_tail {L : List Nat} {n v : Nat} (h : Inn L n) (hv : v < n) : Tail L v (tlp L n v).1 (tlp L n v).2 := by
  have hex : ∃ t, t < n + 1 ∧ hit L v t = true := by
    apply Classical.byContradiction
    intro hno
    have hf : fresh L v (n + 1) := (fresh_iff _).2 fun j hj => by
      rw [Bool.eq_false_iff]; intro hh; exact hno ⟨j, hj, hh⟩
    have := fresh_le h hv hf
    omega
  unfold tlp
  cases hc : (List.range (n + 1)).find? (hit L v) with
  | none =>
    obtain ⟨t, ht, hh⟩ := hex
    rw [List.find?_eq_none] at hc
    exact absurd hh (hc t (List.mem_range.2 ht))
  | some t =>
    obtain ⟨h1, h2, h3⟩ := List.find?_range_eq_some.1 hc
    have hf : fresh L v t := (fresh_iff _).2 fun j hj => by simpa using h3 j hj
    cases hd : (List.range t).find? (fun s => orb L v s == orb L v t) with
    | none =>
      obtain ⟨s, hs, he⟩ := List.any_eq_true.1 h1
      rw [List.find?_eq_none] at hd
      exact absurd he (hd s hs)
    | some s =>
      obtain ⟨g1, g2, g3⟩ := List.find?_range_eq_some.1 hd
      have hs := List.mem_range.1 g2
      simp only [hd]
      refine ⟨?_, ?_, ?_⟩
      · rw [show s + (t - s) = t by omega]; exact hf
      · omega
      · rw [show s + (t - s) = t by omega]; simpa using Eq.symm (eq_of_beq g1)
theorem tlp_eq {L : List Nat} {n v m p : Nat} (h : Inn L n) (hv : v < n) (ht : Tail L v m p) : tlp L n v = (m, p) := by
  obtain ⟨e1, e2⟩ := (tlp_tail h hv).unique ht
  exact Prod.ext e1 e2

/-- Over the points below k: the longest tail, the least common multiple of the rounds. -/
def cyc (L : List Nat) (n : Nat) : Nat → Nat × Nat
  | 0 => (0, 1)
  | v + 1 => (max (cyc L n v).1 (tlp L n v).1, (cyc L n v).2 / Nat.gcd (cyc L n v).2 (tlp L n v).2 * (tlp L n v).2)
theorem lcm_form (a b : Nat) : a / Nat.gcd a b * b = Nat.lcm a b := by
  unfold Nat.lcm
  rw [Nat.mul_comm, ← Nat.mul_div_assoc b (Nat.gcd_dvd_left a b), Nat.mul_comm]

/-- Behind its tail a point comes round. -/
theorem Tail.round {L : List Nat} {v m p : Nat} (h : Tail L v m p) : ∀ c k, m ≤ k → orb L v (k + c * p) = orb L v k
  | 0, k, _ => by simp
  | c + 1, k, hk => by
    have e : orb L v (k + p) = orb L v k := by
      have := orb_same (c := k - m) h.back
      rw [show m + p + (k - m) = k + p by omega, show m + (k - m) = k by omega] at this
      exact this
    rw [show k + (c + 1) * p = (k + p) + c * p by rw [Nat.succ_mul]; omega, Tail.round h c (k + p) (by omega), e]
/-- And only so: two steps that lead to one point. -/
theorem Tail.eq_iff {L : List Nat} {v m p : Nat} (h : Tail L v m p) {k q : Nat} (hq : 0 < q) : orb L v (k + q) = orb L v k ↔ m ≤ k ∧ p ∣ q := by
  have hp := h.one
  constructor
  · intro he
    have hm : m ≤ k := by
      apply Classical.byContradiction
      intro hlt
      -- k < m: the point k comes again, beyond any length: reduce k + q into the first round
      have hk : k < m := by omega
      by_cases hs : k + q < m + p
      · exact h.fr k (k + q) (by omega) hs he.symm
      · have hr := h.round ((k + q - m) / p) (m + (k + q - m) % p) (by omega)
        have e1 : m + (k + q - m) % p + (k + q - m) / p * p = k + q := by
          have := Nat.div_add_mod (k + q - m) p
          rw [Nat.mul_comm] at this
          omega
        rw [e1, he] at hr
        have hlt2 : (k + q - m) % p < p := Nat.mod_lt _ (by omega)
        exact h.fr k (m + (k + q - m) % p) (by omega) (by omega) hr
    refine ⟨hm, ?_⟩
    apply Nat.dvd_of_mod_eq_zero
    apply Classical.byContradiction
    intro hne
    have hlt : q % p < p := Nat.mod_lt _ (by omega)
    have e1 : k + q = (k + q % p) + q / p * p := by
      have := Nat.div_add_mod q p
      rw [Nat.mul_comm] at this
      omega
    rw [e1, h.round (q / p) (k + q % p) (by omega)] at he
    -- both within the round: bring k into the first round
    have hr1 := h.round ((k - m) / p) (m + (k - m) % p) (by omega)
    have e2 : m + (k - m) % p + (k - m) / p * p = k := by
      have := Nat.div_add_mod (k - m) p
      rw [Nat.mul_comm] at this
      omega
    have hlt2 : (k - m) % p < p := Nat.mod_lt _ (by omega)
    have he2 := orb_same (c := (p - (k - m) % p)) he
    -- at k' = m + 0 round start
    have a1 : orb L v (k + (p - (k - m) % p)) = orb L v m := by
      have := h.round ((k - m) / p + 1) m (Nat.le_refl _)
      rw [show m + ((k - m) / p + 1) * p = k + (p - (k - m) % p) by rw [Nat.succ_mul]; omega] at this
      exact this
    have a2 : orb L v (k + q % p + (p - (k - m) % p)) = orb L v (m + q % p) := by
      have := h.round ((k - m) / p + 1) (m + q % p) (by omega)
      rw [show m + q % p + ((k - m) / p + 1) * p = k + q % p + (p - (k - m) % p) by rw [Nat.succ_mul]; omega] at this
      exact this
    rw [a1, a2] at he2
    exact h.fr m (m + q % p) (by omega) (by omega) he2.symm
  · rintro ⟨hm, c, rfl⟩
    rw [Nat.mul_comm]
    exact h.round c k hm

theorem three_pow (x : Nat) : x ^ 3 ≤ 3 ^ x := by
  match x with
  | 0 => decide
  | 1 => decide
  | 2 => decide
  | x + 3 =>
    induction x with
    | zero => decide
    | succ x ih =>
      have h : (x + 1 + 3) ^ 3 ≤ 3 * (x + 3) ^ 3 := by
        have e : 3 * (x + 3) ^ 3 = (x + 1 + 3) ^ 3 + (2 * x ^ 3 + 15 * x ^ 2 + 33 * x + 17) := by grind
        omega
      rw [show x + 1 + 3 = (x + 3) + 1 by omega, Nat.pow_succ 3]
      rw [show x + 1 + 3 = (x + 3) + 1 by omega] at h
      omega
/-- The rounds met so far: their points, all different; the multiple so far brings each of them back. -/
structure Met (L : List Nat) (n v p : Nat) (U : List Nat) : Prop where
  nd : U.Nodup
  lt : ∀ x ∈ U, x < n
  cl : ∀ x ∈ U, L.getD x 0 ∈ U
  back : ∀ x ∈ U, orb L x p = x
  pos : 1 ≤ p
  small : p ^ 3 ≤ 3 ^ U.length
theorem Met.orb {L : List Nat} {n v p : Nat} {U : List Nat} (h : Met L n v p U) {x : Nat} (hx : x ∈ U) : ∀ k, orb L x k ∈ U
  | 0 => hx
  | k + 1 => h.cl _ (h.orb hx k)
theorem orb_mul {L : List Nat} {x p : Nat} (h : orb L x p = x) : ∀ c, orb L x (p * c) = x
  | 0 => rfl
  | c + 1 => by rw [Nat.mul_succ, orb_add, orb_mul h c, h]
theorem met_step {L : List Nat} {n v p m r : Nat} {U : List Nat} (h : Inn L n) (hv : v < n) (hm : Met L n v p U) (ht : Tail L v m r) : ∃ U', Met L n (v + 1) (Nat.lcm p r) U' := by
  have hr := ht.one
  have hc : orb L (orb L v m) r = orb L v m := by rw [← orb_add]; exact ht.back
  by_cases hU : orb L v m ∈ U
  · have hd : r ∣ p := by
      have h1 := hm.back _ hU
      rw [← orb_add] at h1
      exact ((ht.eq_iff (by have := hm.pos; omega)).1 h1).2
    have e : Nat.lcm p r = p := by
      apply Nat.dvd_antisymm
      · exact Nat.lcm_dvd (Nat.dvd_refl _) hd
      · exact Nat.dvd_lcm_left _ _
    exact ⟨U, by rw [e]; exact ⟨hm.nd, hm.lt, hm.cl, hm.back, hm.pos, hm.small⟩⟩
  · have hnew : ∀ i, orb L v (m + i) ∉ U := fun i hi => by
      have h1 := hm.orb hi (i * r - i)
      rw [← orb_add] at h1
      have h2 : i ≤ i * r := Nat.le_mul_of_pos_right _ (by omega)
      rw [show m + i + (i * r - i) = m + i * r by omega, ht.round i m (Nat.le_refl _)] at h1
      exact hU h1
    refine ⟨U ++ (List.range r).map (fun i => orb L v (m + i)), ?_, ?_, ?_, ?_, ?_, ?_⟩
    · rw [List.nodup_append]
      refine ⟨hm.nd, ?_, ?_⟩
      · rw [List.nodup_iff_pairwise_ne, List.pairwise_map]
        refine List.Pairwise.imp_of_mem ?_ (List.pairwise_lt_range (n := r))
        intro i j _ hj hij
        exact ht.fr (m + i) (m + j) (by omega) (by have := List.mem_range.1 hj; omega)
      · intro a ha b hb hab
        obtain ⟨i, _, rfl⟩ := List.mem_map.1 hb
        exact hnew i (hab ▸ ha)
    · intro x hx
      rcases List.mem_append.1 hx with hx | hx
      · exact hm.lt x hx
      · obtain ⟨i, _, rfl⟩ := List.mem_map.1 hx
        exact orb_lt h hv _
    · intro x hx
      rcases List.mem_append.1 hx with hx | hx
      · exact List.mem_append_left _ (hm.cl x hx)
      · obtain ⟨i, hi, rfl⟩ := List.mem_map.1 hx
        have hi := List.mem_range.1 hi
        refine List.mem_append_right _ (List.mem_map.2 ?_)
        by_cases e : i + 1 = r
        · refine ⟨0, List.mem_range.2 (by omega), ?_⟩
          show orb L v m = orb L v (m + i + 1)
          rw [show m + i + 1 = m + r by omega]; exact ht.back.symm
        · exact ⟨i + 1, List.mem_range.2 (by omega), rfl⟩
    · intro x hx
      rcases List.mem_append.1 hx with hx | hx
      · obtain ⟨c, hc'⟩ := Nat.dvd_lcm_left p r
        rw [hc']; exact orb_mul (hm.back x hx) c
      · obtain ⟨i, _, rfl⟩ := List.mem_map.1 hx
        obtain ⟨c, hc'⟩ := Nat.dvd_lcm_right p r
        rw [hc']
        refine orb_mul ?_ c
        rw [← orb_add]
        have := ht.round 1 (m + i) (by omega)
        rwa [Nat.one_mul] at this
    · exact Nat.lcm_pos hm.pos hr
    · rw [List.length_append, List.length_map, List.length_range, Nat.pow_add]
      have h1 : Nat.lcm p r ≤ p * r := Nat.le_of_dvd (Nat.mul_pos hm.pos hr) (Nat.lcm_dvd (Nat.dvd_mul_right _ _) (Nat.dvd_mul_left _ _))
      calc (Nat.lcm p r) ^ 3 ≤ (p * r) ^ 3 := Nat.pow_le_pow_left h1 3
        _ = p ^ 3 * r ^ 3 := Nat.mul_pow ..
        _ ≤ 3 ^ U.length * 3 ^ r := Nat.mul_le_mul hm.small (three_pow r)
theorem cyc_met {L : List Nat} {n : Nat} (h : Inn L n) : ∀ k, k ≤ n → ∃ U, Met L n k (cyc L n k).2 U
  | 0, _ => ⟨[], List.nodup_nil, by simp, by simp, by simp, by simp [cyc], by simp [cyc]⟩
  | k + 1, hk => by
    obtain ⟨U, hU⟩ := cyc_met h k (by omega)
    have ht := tlp_tail h (show k < n by omega)
    show ∃ U, Met L n (k + 1) ((cyc L n k).2 / Nat.gcd (cyc L n k).2 (tlp L n k).2 * (tlp L n k).2) U
    rw [lcm_form]
    exact met_step h (by omega) hU ht
/-- The multiple is never large: no number of Go's overflows. -/
theorem cyc_small {L : List Nat} {n k : Nat} (h : Inn L n) (hk : k ≤ n) (hn : n ≤ 64) : 1 ≤ (cyc L n k).2 ∧ (cyc L n k).2 < 17179869184 := by
  obtain ⟨U, hU⟩ := cyc_met h k hk
  refine ⟨hU.pos, ?_⟩
  apply Classical.byContradiction
  intro hge
  have h1 : 17179869184 ^ 3 ≤ (cyc L n k).2 ^ 3 := Nat.pow_le_pow_left (by omega) 3
  have h2 : 3 ^ U.length ≤ 3 ^ 64 := Nat.pow_le_pow_right (by omega) (by have := nodup_le n U hU.nd hU.lt; omega)
  have h3 := hU.small
  have h4 : 3 ^ 64 < 17179869184 ^ 3 := by decide
  omega

/-- The marks: how far from v each point was met, and 1. -/
def atl (L : List Nat) (v n : Nat) : Nat → List Nat
  | 0 => List.replicate n 0
  | t + 1 => (atl L v n t).set (orb L v t) (t + 1)
theorem atl_len (L : List Nat) (v n : Nat) : ∀ t, (atl L v n t).length = n
  | 0 => by simp [atl]
  | t + 1 => by simp [atl, atl_len L v n t]
theorem atl_miss {L : List Nat} {v n x : Nat} : ∀ t, (∀ s, s < t → orb L v s ≠ x) → (atl L v n t).getD x 0 = 0
  | 0, _ => by
    simp only [atl, List.getD_eq_getElem?_getD, List.getElem?_replicate]
    split <;> rfl
  | t + 1, h => by
    have ih := atl_miss (L := L) (v := v) (n := n) (x := x) t (fun s hs => h s (by omega))
    simp only [atl, List.getD_eq_getElem?_getD]
    rw [List.getElem?_set_ne (h t (by omega)), ← List.getD_eq_getElem?_getD]
    exact ih
theorem atl_hit {L : List Nat} {v n : Nat} (h : Inn L n) (hv : v < n) : ∀ t, fresh L v t → ∀ s, s < t → (atl L v n t).getD (orb L v s) 0 = s + 1
  | 0, _, s, hs => absurd hs (by omega)
  | t + 1, hf, s, hs => by
    simp only [atl, List.getD_eq_getElem?_getD]
    by_cases e : s = t
    · subst e
      rw [List.getElem?_set_self (by rw [atl_len]; exact orb_lt h hv _)]; rfl
    · rw [List.getElem?_set_ne (fun e2 => hf s t (by omega) (by omega) e2.symm), ← List.getD_eq_getElem?_getD]
      exact atl_hit h hv t (fun i j hij hj => hf i j hij (by omega)) s (by omega)
/-- At a point that was met: the tail and the round are found. -/
theorem atl_tail {L : List Nat} {v n t c : Nat} (h : Inn L n) (hv : v < n) (hf : fresh L v t) (hc : (atl L v n t).getD (orb L v t) 0 = c) (hc0 : c ≠ 0) :
    1 ≤ c ∧ c ≤ t ∧ Tail L v (c - 1) (t + 1 - c) := by
  have hex : ∃ s, s < t ∧ orb L v s = orb L v t := by
    apply Classical.byContradiction
    intro hno
    apply hc0
    rw [← hc]
    exact atl_miss t fun s hs he => hno ⟨s, hs, he⟩
  obtain ⟨s, hs, he⟩ := hex
  have := atl_hit h hv t hf s hs
  rw [he, hc] at this
  refine ⟨by omega, by omega, ?_, by omega, ?_⟩
  · rw [show c - 1 + (t + 1 - c) = t by omega]; exact hf
  · rw [show c - 1 + (t + 1 - c) = t by omega, show c - 1 = s by omega]; exact he.symm
theorem atl_fresh {L : List Nat} {v n t : Nat} (h : Inn L n) (hv : v < n) (hf : fresh L v t) (hc : (atl L v n t).getD (orb L v t) 0 = 0) : fresh L v (t + 1) :=
  fresh_succ hf fun i hi he => by
    have := atl_hit h hv t hf i hi
    rw [he, hc] at this
    omega
end Go.Proofs.Ytpebnldoimoahaa

namespace Go.Proofs.Ytpebnldoimoahaa
open Go.RowKit Go.Proofs.YtpebnldoimoahaaW.PrintWords

/-- What Cycle answers. -/
def CycR (n : Int) (ws : List Nat) (w : World) (e : Ending) (w' : World) : Prop :=
  e = .returned (if goodT n ws then .tuple #[.int .i64 (cyc (ims n.toNat ws) n.toNat n.toNat).1, .int .i64 (cyc (ims n.toNat ws) n.toNat n.toNat).2, .int .i64 0] else .tuple #[.int .i64 0, .int .i64 0, .int .i64 130]) ∧ Below w.heap.size w w'
theorem per_fin (p a r : Nat) (z : Int) (hp : p < 17179869184) (hz : z = (r : Int)) (hb : p / a * r < 17179869184) : wrap64 (wrap64 ((p : Int) / (a : Int)) * z) = ((p / a * r : Nat) : Int) := by
  subst hz
  have h1 : p / a ≤ p := Nat.div_le_self _ _
  have e0 : (p : Int) / (a : Int) = ((p / a : Nat) : Int) := by push_cast; rfl
  rw [e0]
  generalize p / a = q at *
  rw [IntWalk.wrap64_in ((q : Nat) : Int) ⟨by omega, by omega⟩]
  have e : (q : Int) * (r : Int) = ((q * r : Nat) : Int) := by push_cast; rfl
  rw [e]
  generalize q * r = z at *
  exact IntWalk.wrap64_in _ ⟨by omega, by omega⟩
def Cw (w w1 wr : World) (m : Nat) (ws L : List Nat) : Prop := wr.heap[w.heap.size]? = some (.cells (tvv m ws) 26 (0, 0)) ∧ wr.heap[w1.heap.size]? = some (.cells (img L) 98 (0, 0)) ∧ Below w.heap.size w wr
set_option maxRecDepth 100000 in
set_option maxHeartbeats 2000000 in
theorem cycle_any (n : Int) (ws : List Nat) (hl : ws.length = 7) (hw : Hid (∀ i, ws.getD i 0 < 18446744073709551616)) (w : World) :
    Calls Try.prog 23 #[.agg (tvv n ws)] w (CycR n ws w) := by
  have HL := Lib.hid hl; clear hl
  have HZ := Lib.hid (tvv_zero n ws)
  go_enter Try.func23, Try.ntmps23
  go_wp2_with (refine ld_tr w.heap.size HL.out (hp_new rfl) rfl _ rfl rfl ?_)
  refine (open_any n ws HL.out hw _).mono ?_
  rintro e w1 ⟨l, hl, rfl, hi, hb⟩
  have HB := Lib.hid hb; have HLL := Lib.hid hl; have HI := Lib.hid hi; clear hl hb hi
  have HC := Lib.hid (rfl : CycR n ws w = CycR n ws w)
  by_cases hg : goodT n ws = true
  · obtain ⟨hn1, hn64, hin, _⟩ := goodT_spec hg
    obtain rfl := HI.out hg
    obtain ⟨m, rfl⟩ := Int.eq_ofNat_of_zero_le (show 0 ≤ n by omega)
    rw [Int.toNat_natCast] at *
    have HIN : Hid (Inn (ims m ws) m) := Lib.hid (fun i hi => by
      rw [ims_getD, if_pos (by omega)]; exact hin i hi)
    have HG := Lib.hid hg; clear hg hin HI
    generalize hL : ims m ws = L at *
    have HLL2 := Lib.hid hL; clear hL
    generalize hgb : goodT m ws = b at *
    have HGB := Lib.hid hgb; clear hgb
    obtain rfl : b = true := HG.out
    have hz1 : w.heap.size + 1 ≤ w1.heap.size := by have := HB.out.size; simpa using this
    have GB := Lib.hid (hp_below HB.out (show w.heap.size < (w.alloc (.cells (tvv m ws) 26)).heap.size by simp) (hp_new rfl))
    have hm1 : 1 ≤ m := by omega
    have hm64 : m ≤ 64 := by omega
    clear hn1 hn64
    have c0 : (w1.alloc (.cells (img L) 98)).cell? ⟨w.heap.size, 0, none⟩ = some (.int .i64 m) := by rw [cell_of_row _ _ _ _ _ _ (hp_old GB.out), HZ.out]
    have hne : ¬ (w.heap.size = w1.heap.size) := by omega
    go_wp2_with (refine st_im_new HLL.out rfl rfl _ _ rfl rfl rfl ?_)
    have HM := Lib.hid hne
    clear hne c0
    go_loopw [23, 2, 3] (fun i v2 v3 wr => ∃ k : Nat, k ≤ m ∧ i = .int .i64 k ∧ v2 = .int .i64 (cyc L m k).1 ∧ v3 = .int .i64 (cyc L m k).2 ∧ Cw w w1 wr m ws L) (fun i _ _ _ => m - (intOf i).toNat)
    case atStart =>
      exact ⟨0, by omega, rfl, rfl, rfl, hp_old GB.out, hp_new rfl, bl_alloc (bl_trans (bl_alloc (Below.refl _ _) _) (by simp) HB.out) _⟩
    case round =>
      obtain ⟨k, hk, rfl, rfl, rfl, H⟩ := hrel
      by_cases hlt : k < m
      · have c0 : wr.cell? ⟨w.heap.size, 0, none⟩ = some (.int .i64 m) := by rw [cell_of_row _ _ _ _ _ _ H.1, HZ.out]
        have HH := Lib.hid H; clear H
        have HCS := Lib.hid (cyc_small HIN.out (show k ≤ m by omega) hm64)
        generalize hidx : (cyc L m k).1 = idx at *
        generalize hper : (cyc L m k).2 = per at *
        have HIDX := Lib.hid hidx; have HPER := Lib.hid hper; clear hidx hper
        go_wp2_with (refine wpl_make m (by omega) rfl _ _ rfl rfl rfl ?_)
        have HK := Lib.hid hlt
        have HS : Hid ((wr.alloc (.cells (img (List.replicate m 0)) 3)).heap[wr.heap.size]? = some (.cells (img (List.replicate m 0)) 3 (0, 0)) ∧ Cw w w1 (wr.alloc (.cells (img (List.replicate m 0)) 3)) m ws L ∧ w1.heap.size < wr.heap.size) :=
          Lib.hid ⟨hp_new rfl, ⟨hp_old HH.out.1, hp_old HH.out.2.1, bl_alloc HH.out.2.2 _⟩, hp_lt HH.out.2.1⟩
        clear HH c0
        generalize wr.alloc (.cells (img (List.replicate m 0)) 3) = wA at *
        generalize wr.heap.size = D at *
        clear wr
        go_loopw [9, 10] (fun f u wi => ∃ t : Nat, t ≤ m ∧ f = .int .i64 (t + 1 : Nat) ∧ u = .int .i64 (orb L k t) ∧ Hid (fresh L k t) ∧ wi.heap[D]? = some (.cells (img (atl L k m t)) 3 (0, 0)) ∧ Cw w w1 wi m ws L) (fun f _ _ => m + 1 - (intOf f).toNat)
        case atStart =>
          exact ⟨0, by omega, rfl, rfl, Lib.hid (fresh_zero _ _), HS.out.1, HS.out.2.1⟩
        case round =>
          obtain ⟨t, ht, rfl, rfl, HF, gat, H⟩ := hrel
          have ho := orb_lt HIN.out HK.out t
          have a0 : wr.cell? ⟨D, orb L k t, none⟩ = some (.int .i64 (((atl L k m t).getD (orb L k t) 0 : Nat) : Int)) := by
            rw [cell_of_row _ _ _ _ _ _ gat, img_get _ _ (by rw [atl_len]; exact ho)]
          have a1 : wr.frozen? ⟨D, orb L k t, none⟩ = false := frozen_of_row _ _ _ _ _ gat
          have a2 : wr.cell? ⟨w1.heap.size, orb L k t, none⟩ = some (.int .i64 ((L.getD (orb L k t) 0 : Nat) : Int)) := by
            rw [cell_of_row _ _ _ _ _ _ H.2.1, img_get _ _ (by rw [HLL.out]; omega)]
          have GAT := Lib.hid gat; have HX := Lib.hid H; clear gat H
          have hd1 := HS.out.2.2
          by_cases hc : (atl L k m t).getD (orb L k t) 0 = 0
          · have HF2 := Lib.hid (atl_fresh HIN.out HK.out HF.out hc)
            have ht2 := fresh_le HIN.out HK.out HF2.out
            have H2 : (wr.setCell ⟨D, orb L k t, none⟩ (.int .i64 ((t + 1 : Nat) : Int))).heap[D]? = some (.cells (img (atl L k m (t + 1))) 3 (0, 0)) ∧ Cw w w1 (wr.setCell ⟨D, orb L k t, none⟩ (.int .i64 ((t + 1 : Nat) : Int))) m ws L := by
              refine ⟨?_, hp_cell (by show w.heap.size ≠ D; omega) HX.out.1, hp_cell (by show w1.heap.size ≠ D; omega) HX.out.2.1, bl_cell HX.out.2.2 (by show w.heap.size ≤ D; omega) _⟩
              rw [heap_setCell_same _ _ _ _ _ _ GAT.out, img_set]; rfl
            have H2 := Lib.hid H2
            rw [hc] at a0
            clear hc
            have HO : Hid (L.getD (orb L k t) 0 = orb L k (t + 1)) := Lib.hid rfl
            generalize L.getD (orb L k t) 0 = y at *
            generalize orb L k t = x at *
            go_wp2
            go_roundw
            case rel => exact ⟨t + 1, ht2, by go_num, by rw [HO.out], HF2, H2.out.1, H2.out.2⟩
            case measure => simp [intOf]; omega
          · obtain ⟨hc1, hc2, htl⟩ := atl_tail HIN.out HK.out HF.out rfl hc
            have HT := Lib.hid (tlp_eq HIN.out HK.out htl)
            have HP := Lib.hid htl.one
            clear htl
            have hcb : (((atl L k m t).getD (orb L k t) 0 : Nat) : Int) ≠ 0 := by omega
            have hcd : ((((atl L k m t).getD (orb L k t) 0 : Nat) : Int) == 0) = false := by rw [beq_eq_false_iff_ne]; exact hcb
            clear hc hcb
            have htm : t ≤ 64 := by omega
            generalize (atl L k m t).getD (orb L k t) 0 = c at *
            generalize orb L k t = x at *
            have hsub : ((t + 1 : Nat) : Int) - (c : Int) = ((t + 1 - c : Nat) : Int) := by omega
            have hsub2 : (c : Int) - 1 = ((c - 1 : Nat) : Int) := by omega
            have HS1 := Lib.hid hsub; have HS2 := Lib.hid hsub2
            clear hsub hsub2
            go_wp2
            all_goals
              go_loopw [12, 13] (fun x y wg => ∃ a b : Nat, x = .int .i64 a ∧ y = .int .i64 b ∧ Hid (Nat.gcd a b = Nat.gcd per (t + 1 - c)) ∧ a ≤ 17179869184 ∧ b ≤ 17179869184 ∧ Hid (Cw w w1 wg m ws L)) (fun _ y _ => (intOf y).toNat)
              case atStart =>
                exact ⟨per, t + 1 - c, rfl, by rw [← HS1.out]; go_num, Lib.hid rfl, by have := HCS.out; omega, by omega, HX⟩
              case round =>
                obtain ⟨a, b, rfl, rfl, HGC, ha, hb, HH⟩ := hrel
                by_cases hb0 : b = 0
                · subst hb0
                  have hga : a = Nat.gcd per (t + 1 - c) := by have := HGC.out; rwa [Nat.gcd_zero_right] at this
                  have hap : 0 < a := by rw [hga]; exact Nat.gcd_pos_of_pos_left _ (by have := HCS.out; omega)
                  have han : ((a : Int) == 0) = false := by rw [beq_eq_false_iff_ne]; omega
                  have hpp : per < 17179869184 := HCS.out.2
                  have HV : Hid (cyc L m (k + 1) = (max idx (c - 1), per / a * (t + 1 - c)) ∧ per / a * (t + 1 - c) < 17179869184) := by
                    have h1 : cyc L m (k + 1) = (max idx (c - 1), per / a * (t + 1 - c)) := by
                      show (max (cyc L m k).1 (tlp L m k).1, (cyc L m k).2 / Nat.gcd (cyc L m k).2 (tlp L m k).2 * (tlp L m k).2) = _
                      rw [HT.out, HIDX.out, HPER.out, ← hga]
                    have h2 := (cyc_small HIN.out (show k + 1 ≤ m by omega) hm64).2
                    rw [h1] at h2
                    exact Lib.hid ⟨h1, h2⟩
                  clear hga
                  go_wp2
                  go_roundw
                  case rel =>
                    refine ⟨k + 1, by omega, by go_num, ?_, ?_, HH.out⟩
                    · rw [HV.out.1]; congr 1; show _ = ((max idx (c - 1) : Nat) : Int); omega
                    · rw [HV.out.1]; congr 1; exact per_fin per a (t + 1 - c) ((t : Int) + 1 - (c : Int)) hpp (by omega) HV.out.2
                  case measure => simp [intOf]; omega
                · have hbp : 0 < b := by omega
                  have hbn : ((b : Int) == 0) = false := by rw [beq_eq_false_iff_ne]; omega
                  clear hb0
                  go_wp2
                  go_quiet (fail)
                  go_wp2
                  go_roundw
                  case rel => exact ⟨b, a % b, rfl, by go_num, Lib.hid (by rw [← HGC.out, Nat.gcd_comm a b, Nat.gcd_rec b a, Nat.gcd_comm]), hb, by have := Nat.mod_lt a hbp; omega, Lib.hid ⟨HH.out.1, HH.out.2.1, bl_drewN HH.out.2.2 _⟩⟩
                  case measure => simp [intOf]; have := Nat.mod_lt a hbp; omega
      · have : k = m := by omega
        subst this
        have HH := Lib.hid H; clear H
        go_wp2
        go_ret3
        exact ⟨by rw [HGB.out, if_pos rfl, Int.toNat_natCast, HLL2.out]; rfl, HH.out.2.2⟩
  · have hgf : goodT n ws = false := by simpa using hg
    have HG := Lib.hid hgf; clear hg hgf
    generalize hgb : goodT n ws = b at *
    have HGB := Lib.hid hgb; clear hgb
    obtain rfl : b = false := HG.out
    go_wp2_with (refine st_im_new HLL.out rfl rfl _ _ rfl rfl rfl ?_)
    go_ret3
    exact ⟨by rw [HGB.out]; rfl, bl_alloc (bl_trans (bl_alloc (Below.refl _ _) _) (by simp) HB.out) _⟩
end Go.Proofs.Ytpebnldoimoahaa

namespace Go.Proofs.Ytpebnldoimoahaa
open Go.RowKit Go.Proofs.YtpebnldoimoahaaW.PrintWords
/-- A list of the call's own. -/
abbrev Own (w : World) (base : Nat) (v : Value) (l : List Int) : Prop := Kd.R (Kd.int .i64) 3 w base (fun _ => True) v l
theorem C_block {w : World} {g : Nat} {cs : Array Value} {t : TypeId} {fr : Nat × Nat} (l : List Int) (h : w.heap[g]? = some (.cells cs t fr)) (hmax : l.length ≤ 9223372036854775807)
    (hc : ∀ j, j < l.length → cs[j]? = some (.int .i64 (l.getD j 0))) : Kd.C (Kd.int .i64) w (some ⟨g, 0, none⟩) l.length l := by
  refine Kd.C_of_reads (enc := Value.int .i64) (d := (0 : Int)) (h1 := fun _ => rfl) ⟨rfl, hmax, fun _ => ⟨⟨g, 0, none⟩, rfl, fun j hj => ?_⟩⟩
  rw [add_plain, cell_of_row _ _ _ _ _ _ h, hc j hj]
end Go.Proofs.Ytpebnldoimoahaa

namespace Go.Proofs.Ytpebnldoimoahaa
open Go.RowKit Go.Proofs.YtpebnldoimoahaaW.PrintWords

theorem num_any (x : Int) (w : World) : Calls Try.prog 17 #[.int .i64 x] w fun e w' => e = .returned (.int .i64 x) ∧ w = w' := by
  go_enter Try.func17, Try.ntmps17
  go_wp2
  go_ret
  exact ⟨rfl, rfl⟩
theorem knows_make : makeT [1, 2, 0, 3] = (4, [786561, 0, 0, 0, 0, 0, 0], 0) := by kernel_rfl
theorem knows_good : goodT 4 [786561, 0, 0, 0, 0, 0, 0] = true := by kernel_rfl
theorem knows_cyc : cyc (ims 4 [786561, 0, 0, 0, 0, 0, 0]) 4 4 = (0, 3) := by kernel_rfl
set_option maxRecDepth 100000 in
set_option maxHeartbeats 1000000 in
theorem knows_any (w : World) : Calls Try.prog 21 #[] w fun e w' => e = .returned (.bool true) ∧ Below w.heap.size w w' := by
  go_enter Try.func21, Try.ntmps21
  go_wp2_with fail
  refine (make_any (some ⟨w.heap.size, 0, none⟩) 4 [1, 2, 0, 3] _ ?hc).mono ?_
  case hc =>
    refine C_block [1, 2, 0, 3] (hp_new rfl) (by decide) ?_
    intro j hj
    match j, hj with
    | 0, _ => rfl
    | 1, _ => rfl
    | 2, _ => rfl
    | 3, _ => rfl
  rintro e w1 ⟨rfl, hb⟩
  rw [knows_make]
  have HB := Lib.hid hb; clear hb
  go_wp2_with (first | (refine st_tr_new (n := 4) (l := [786561, 0, 0, 0, 0, 0, 0]) rfl rfl rfl _ _ rfl rfl rfl ?_) | (refine ld_tr w1.heap.size (n := 4) (l := [786561, 0, 0, 0, 0, 0, 0]) rfl (hp_new rfl) rfl _ rfl rfl ?_))
  refine (cycle_any 4 [786561, 0, 0, 0, 0, 0, 0] rfl (Lib.hid ?hs) _).mono ?_
  case hs =>
    intro i
    match i with
    | 0 => decide
    | 1 => decide
    | 2 => decide
    | 3 => decide
    | 4 => decide
    | 5 => decide
    | 6 => decide
    | i + 7 => simp
  rintro e w2 ⟨rfl, hb⟩
  rw [knows_good, if_pos rfl, show (4 : Int).toNat = 4 from rfl, knows_cyc]
  have HB2 := Lib.hid hb; clear hb
  have HC := Lib.hid (hp_below' HB2.out (hp_new (w := w1) (o := .cells (tvv 4 [786561, 0, 0, 0, 0, 0, 0]) 26) rfl))
  have c0 : w2.cell? ⟨w1.heap.size, 0, none⟩ = some (.int .i64 4) := by rw [cell_of_row _ _ _ _ _ _ HC.out]; rfl
  have c1 : w2.cell? ⟨w1.heap.size, 1, none⟩ = some (.int .u64 786561) := by rw [cell_of_row _ _ _ _ _ _ HC.out]; rfl
  go_wp2_with (first | (go_at_call 17; refine (num_any _ _).mono ?_; rintro e w' ⟨rfl, rfl⟩))
  go_ret
  exact ⟨rfl, bl_trans (bl_alloc (bl_trans (bl_alloc (Below.refl _ _) _) (by simp) HB.out) _) (by have := HB.out.size; simp at this ⊢; omega) HB2.out⟩
end Go.Proofs.Ytpebnldoimoahaa

namespace Go.Proofs.Ytpebnldoimoahaa
open Go.RowKit Go.Proofs.YtpebnldoimoahaaW.PrintWords

theorem padk_full (L : List Nat) (h : L.length = 64) : padk 64 L = L := by
  apply List.ext_getElem (by simp [padk, h])
  intro i h1 h2
  simp only [padk, List.length_map, List.length_range] at h1
  simp [padk, h1, List.getD_eq_getElem?_getD, List.getElem?_eq_getElem h2]
set_option maxRecDepth 100000 in
set_option maxHeartbeats 800000 in
theorem same_img_any (w : World) : Calls Try.prog 57 #[] w fun e w' => e = .returned (.agg (img (List.range 64))) ∧ Below w.heap.size w w' := by
  go_enter Try.func57, Try.ntmps57
  go_wp2
  go_loopw [3] (fun i wr => ∃ k : Nat, k ≤ 64 ∧ i = .int .i64 k ∧ Hid (wr.heap[w.heap.size + 1]? = some (.cells (img (padk k (List.range 64))) 98 (0, 0)) ∧ (∃ c, wr.heap[w.heap.size]? = some (.cells c 98 (0, 0)) ∧ c.size = 64) ∧ Below w.heap.size w wr)) (fun i _ => 64 - (intOf i).toNat)
  case atStart =>
    exact ⟨0, by omega, rfl, Lib.hid ⟨by rw [padk_zero]; exact hp_new (by simp), ⟨_, hp_old (hp_new rfl), rfl⟩, by repeat (first | exact Below.refl _ _ | refine bl_alloc ?_ _)⟩⟩
  case round =>
    obtain ⟨k, hk, rfl, H⟩ := hrel
    by_cases hkl : k < 64
    · have f1 : wr.frozen? ⟨w.heap.size + 1, k, none⟩ = false := frozen_of_row _ _ _ _ _ H.out.1
      have c1 : wr.cell? ⟨w.heap.size + 1, k, none⟩ = some (.int .i64 0) := by
        rw [cell_of_row _ _ _ _ _ _ H.out.1, img_get _ _ (by rw [padk_len]; omega), padk_getD, if_neg (by omega)]; rfl
      have H2 : Hid ((wr.setCell ⟨w.heap.size + 1, k, none⟩ (.int .i64 k)).heap[w.heap.size + 1]? = some (.cells (img (padk (k + 1) (List.range 64))) 98 (0, 0)) ∧ (∃ c, (wr.setCell ⟨w.heap.size + 1, k, none⟩ (.int .i64 k)).heap[w.heap.size]? = some (.cells c 98 (0, 0)) ∧ c.size = 64) ∧ Below w.heap.size w (wr.setCell ⟨w.heap.size + 1, k, none⟩ (.int .i64 k))) := by
        obtain ⟨g1, ⟨c, g3, g3'⟩, g4⟩ := H.out
        refine Lib.hid ⟨?_, ⟨c, hp_cell (by simp) g3, g3'⟩, bl_cell g4 (by simp) _⟩
        rw [heap_setCell_same _ _ _ _ _ _ g1, img_set, ← padk_set]
        simp [hkl]
      go_wp2
      go_roundw
      case rel => exact ⟨k + 1, by omega, by go_num, H2⟩
      case measure => simp [intOf]; omega
    · have : k = 64 := by omega
      subst this
      rw [padk_full _ (by simp)] at H
      obtain ⟨g1, ⟨c, g3, g3'⟩, g4⟩ := H.out
      have G1 := Lib.hid g1; have G3 := Lib.hid g3; have G3' := Lib.hid g3'; have G4 := Lib.hid g4
      clear g1 g3 g3' g4
      go_wp2_with (first | (refine ld_im (w.heap.size + 1) (by simp) G1.out rfl _ rfl rfl ?_) | (refine st_im w.heap.size (by simp) G3.out G3'.out rfl _ _ rfl rfl rfl ?_))
      refine bodyPost_ret (v := .agg (img (List.range 64))) ?_ rfl ⟨rfl, bl_row G4.out (by omega) _⟩
      exact results_cell_row rfl _ _ w.heap.size 98 _ _ _ rfl (setRow_heap _ _ c _ _ _ G3.out) Try.underlying98 rfl (im_z _ (by simp))

theorem range_lt (i : Nat) : (List.range 64).getD i 0 < 64 := by
  by_cases h : i < 64 <;> simp [h]
theorem zeros7_len : (List.replicate 7 (0 : Nat)).length = 7 := by simp
/-- What Identity answers. -/
def idT (n : Int) : Int × List Nat × Int := if n < 1 ∨ 64 < n then (0, List.replicate 7 0, 6) else (n, pks (List.range 64) n.toNat, 0)
set_option maxRecDepth 100000 in
set_option maxHeartbeats 800000 in
theorem identity_any (n : Int) (w : World) : Calls Try.prog 26 #[.int .i64 n] w fun e w' => e = .returned (.tuple #[.agg (tvv (idT n).1 (idT n).2.1), .int .i64 (idT n).2.2]) ∧ Below w.heap.size w w' := by
  by_cases hs : n < 1 ∨ 64 < n
  · have HE : Hid (idT n = (0, List.replicate 7 0, 6)) := Lib.hid (if_pos hs)
    have hd : (decide (n < 1) || decide (64 < n)) = true := by simp; omega
    clear hs
    go_enter Try.func26, Try.ntmps26
    go_wp2_with (refine st_tr w.heap.size (n := 0) (l := List.replicate 7 0) (by simp) (hp_new rfl) rfl rfl _ _ rfl rfl rfl ?_)
    all_goals
      refine bodyPost_ret (v := .tuple #[.agg (tvv 0 (List.replicate 7 0)), .int .i64 6]) ?_ rfl ⟨by rw [HE.out], bl_row (bl_alloc (Below.refl _ _) _) (by omega) _⟩
      refine (results_cell_tmp (p := 2) (t := 3) (by rfl) _ _ w.heap.size 26 _ _ _ ?_ (setRow_heap _ _ _ _ _ _ (hp_new rfl)) Try.underlying26 rfl (tr_z _ _ (by simp))).trans ?_ <;> rfl
  · have HE : Hid (idT n = (n, pks (List.range 64) n.toNat, 0)) := Lib.hid (if_neg hs)
    have h1 : 1 ≤ n := by omega
    have h2 : n ≤ 64 := by omega
    clear hs
    obtain ⟨m, rfl⟩ := Int.eq_ofNat_of_zero_le (show 0 ≤ n by omega)
    rw [Int.toNat_natCast] at HE
    go_enter Try.func26, Try.ntmps26
    go_wp2_with fail
    refine (same_img_any _).mono ?_
    rintro e w1 ⟨rfl, hb⟩
    have HB := Lib.hid hb; clear hb
    go_wp2_with fail
    refine (pack_any m (List.range 64) (by omega) (by simp) range_lt _).mono ?_
    rintro e w2 ⟨rfl, hb⟩
    have HB2 := Lib.hid hb; clear hb
    have G4 := Lib.hid (hp_below' HB2.out (hp_below' HB.out (hp_new (w := w) rfl)))
    have G5 := Lib.hid (bl_then (bl_then (bl_alloc (Below.refl _ w) _) HB.out) HB2.out)
    go_wp2_with (refine st_tr w.heap.size (pks_len _ _) G4.out rfl rfl _ _ rfl rfl rfl ?_)
    refine bodyPost_ret (v := .tuple #[.agg (tvv m (pks (List.range 64) m)), .int .i64 0]) ?_ rfl ⟨by rw [HE.out], bl_row G5.out (by omega) _⟩
    refine (results_cell_tmp (p := 2) (t := 3) (by rfl) _ _ w.heap.size 26 _ _ _ ?_ (setRow_heap _ _ _ _ _ _ G4.out) Try.underlying26 rfl (tr_z _ _ (pks_len _ _))).trans ?_ <;> rfl
end Go.Proofs.Ytpebnldoimoahaa

namespace Go.Proofs.Ytpebnldoimoahaa
open Go.RowKit Go.Proofs.YtpebnldoimoahaaW.PrintWords
set_option linter.unusedSimpArgs false
/-- What Compose answers. -/
def cmpT (n : Int) (ws : List Nat) (m : Int) (vs : List Nat) : Int × List Nat × Int :=
  if (goodT n ws && goodT m vs) = true then
    (if n = m then (n, pks (bhd n.toNat (ims n.toNat ws) (ims m.toNat vs)) n.toNat, 0) else (0, List.replicate 7 0, 1))
  else (0, List.replicate 7 0, 130)
theorem bhd_lt {k : Nat} {a b : List Nat} (ha : ∀ i, a.getD i 0 < 64) (hb : ∀ i, b.getD i 0 < 64) (i : Nat) : (bhd k a b).getD i 0 < 64 := by
  by_cases h : i < 64
  · simp only [bhd, List.getD_eq_getElem?_getD, List.getElem?_map, List.getElem?_range h, Option.map_some, Option.getD_some]
    split
    · rw [← List.getD_eq_getElem?_getD]; exact hb _
    · rw [← List.getD_eq_getElem?_getD]; exact ha _
  · rw [List.getD_eq_getElem?_getD, List.getElem?_eq_none (by rw [bhd_len]; omega)]; decide
theorem cmpT_len (n : Int) (ws : List Nat) (m : Int) (vs : List Nat) : (cmpT n ws m vs).2.1.length = 7 := by
  unfold cmpT; split
  · split
    · exact pks_len _ _
    · simp
  · simp
set_option maxRecDepth 100000 in
set_option maxHeartbeats 2000000 in
theorem compose_any (n : Int) (ws : List Nat) (m : Int) (vs : List Nat) (hl : ws.length = 7) (hw : Hid (∀ i, ws.getD i 0 < 18446744073709551616)) (kl : vs.length = 7) (kw : Hid (∀ i, vs.getD i 0 < 18446744073709551616)) (w : World) :
    Calls Try.prog 25 #[.agg (tvv n ws), .agg (tvv m vs)] w fun e w' => e = .returned (.tuple #[.agg (tvv (cmpT n ws m vs).1 (cmpT n ws m vs).2.1), .int .i64 (cmpT n ws m vs).2.2]) ∧ Below w.heap.size w w' := by
  have HL := Lib.hid hl; have KL := Lib.hid kl; clear hl kl
  have HZ := Lib.hid (tvv_zero n ws)
  have KZ := Lib.hid (tvv_zero m vs)
  go_enter Try.func25, Try.ntmps25
  go_wp2_with (refine ld_tr w.heap.size HL.out (hp_old (hp_old (hp_new rfl))) rfl _ rfl rfl ?_)
  refine (open_any n ws HL.out hw _).mono ?_
  rintro e w1 ⟨l1, hl1, rfl, hi1, hb⟩
  have HL1 := Lib.hid hl1; have HI1 := Lib.hid hi1
  have A1 := Lib.hid (hp_below' hb (hp_old (hp_old (hp_new (w := w) (o := .cells (tvv n ws) 26) rfl))))
  have A2 := Lib.hid (hp_below' hb (hp_old (hp_new (w := w.alloc (.cells (tvv n ws) 26)) (o := .cells (tvv m vs) 26) rfl)))
  have A3 := Lib.hid (hp_below' hb (hp_new (w := (w.alloc (.cells (tvv n ws) 26)).alloc (.cells (tvv m vs) 26)) rfl))
  have HW := Lib.hid (bl_then (bl_alloc (bl_alloc (bl_alloc (Below.refl _ w) _) _) _) hb)
  rw [World.size_alloc] at A2
  rw [World.size_alloc, World.size_alloc] at A3
  clear hb hi1 hl1
  have B1 := Lib.hid (hp_old (o := .cells (img l1) 98) A1.out)
  have B2 := Lib.hid (hp_old (o := .cells (img l1) 98) A2.out)
  go_wp2_with (first | (refine st_im_new HL1.out rfl rfl _ _ rfl rfl rfl ?_) | (refine ld_tr (w.heap.size + 1) KL.out B2.out rfl _ rfl rfl ?_))
  refine (open_any m vs KL.out kw _).mono ?_
  rintro e w2 ⟨l2, hl2, rfl, hi2, hb⟩
  have HL2 := Lib.hid hl2; have HI2 := Lib.hid hi2
  have C1 := Lib.hid (hp_old (o := .cells (img l2) 98) (hp_below' hb B1.out))
  have C2 := Lib.hid (hp_old (o := .cells (img l2) 98) (hp_below' hb B2.out))
  have C3 := Lib.hid (hp_old (o := .cells (img l2) 98) (hp_below' hb (hp_old (o := .cells (img l1) 98) A3.out)))
  have C4 := Lib.hid (hp_old (o := .cells (img l2) 98) (hp_below' hb (hp_new (w := w1) (o := .cells (img l1) 98) rfl)))
  have C5 := Lib.hid (hp_new (w := w2) (o := .cells (img l2) 98) rfl)
  have HW2 := Lib.hid (bl_alloc (bl_then (bl_alloc HW.out (.cells (img l1) 98)) hb) (.cells (img l2) 98))
  clear hb hl2 hi2 HW A1 A2 A3 B1 B2
  have D1 : (w2.alloc (.cells (img l2) 98)).cell? ⟨w.heap.size, 0, none⟩ = some (.int .i64 n) := by rw [cell_of_row _ _ _ _ _ _ C1.out, HZ.out]
  have D2 : (w2.alloc (.cells (img l2) 98)).cell? ⟨w.heap.size + 1, 0, none⟩ = some (.int .i64 m) := by rw [cell_of_row _ _ _ _ _ _ C2.out, KZ.out]
  generalize hb1 : goodT n ws = b1 at *
  generalize hb2 : goodT m vs = b2 at *
  have HB1 := Lib.hid hb1; have HB2 := Lib.hid hb2
  clear hb1 hb2
  have HE : Hid (∀ r : Bool, (b1 && b2) = r → r = false → cmpT n ws m vs = (0, List.replicate 7 0, 130)) := Lib.hid (fun r h1 h2 => by
    unfold cmpT; rw [HB1.out, HB2.out, h1, h2]; rfl)
  by_cases hb : (b1 && b2) = true
  · have HF : Hid (n ≠ m → cmpT n ws m vs = (0, List.replicate 7 0, 1)) := Lib.hid (fun h => by
      unfold cmpT; rw [HB1.out, HB2.out, if_pos hb, if_neg h])
    have HG : Hid (n = m → cmpT n ws m vs = (n, pks (bhd n.toNat (ims n.toNat ws) (ims m.toNat vs)) n.toNat, 0)) := Lib.hid (fun h => by
      unfold cmpT; rw [HB1.out, HB2.out, if_pos hb, if_pos h])
    simp only [Bool.and_eq_true] at hb
    obtain ⟨rfl, rfl⟩ := hb
    obtain ⟨hn1, hn64, _, _⟩ := goodT_spec HB1.out
    by_cases hnm : n = m
    · subst hnm
      obtain ⟨k, rfl⟩ := Int.eq_ofNat_of_zero_le (show 0 ≤ n by omega)
      rw [Int.toNat_natCast] at *
      obtain rfl := HI1.out rfl
      obtain rfl := HI2.out rfl
      have hk : k ≤ 64 := by omega
      have hne : ((k : Int) != (k : Int)) = false := by simp
      clear hn1 hn64
      go_wp2_with (refine st_im_new HL2.out rfl rfl _ _ rfl rfl rfl ?_)
      have hlt1 : ∀ i, (ims k ws).getD i 0 < 64 := ims_lt _ _
      have hlt2 : ∀ i, (ims k vs).getD i 0 < 64 := ims_lt _ _
      have HLT1 := Lib.hid hlt1; have HLT2 := Lib.hid hlt2
      clear hlt1 hlt2
      have HX := Lib.hid (HG.out (by first | rfl | trivial))
      clear HG HF HE
      generalize ims k ws = L at *
      generalize ims k vs = M at *
      refine wp_region_held_drew (S := fun w' => w'.heap[w.heap.size]? = some (.cells (tvv k ws) 26 (0, 0)) ∧ w'.heap[w1.heap.size]? = some (.cells (img L) 98 (0, 0)) ∧ w'.heap[w2.heap.size]? = some (.cells (img M) 98 (0, 0)) ∧ (∃ c, w'.heap[w.heap.size + 1 + 1]? = some (.cells c 26 (0, 0)) ∧ c.size = 8) ∧ Below w.heap.size w w') (by kernel_rfl) ⟨C1.out, C4.out, C5.out, ⟨_, C3.out, rfl⟩, HW2.out.drew⟩ (fun hS => ?_)
      refine any_take (i := 0) (v := .pointer (some ⟨w.heap.size, 0, none⟩)) rfl (by kernel_rfl) (by kernel_rfl) (by kernel_rfl) (fun _ _ _ h => h) hS (yi_val (by rfl) (fun w' h' => ?y1)) ?_
      case y1 => first | rfl | (go_simp; done) | (go_simp; omega)
      (try simp only [Act.put, List.setIfInBounds_toArray, List.set_cons_zero, List.set_cons_succ])
      refine any_take (i := 2) (v := .pointer (some ⟨w.heap.size, 0, none⟩)) rfl (by kernel_rfl) (by kernel_rfl) (by kernel_rfl) (fun _ _ _ h => h) hS (yi_val (by rfl) (fun w' h' => ?y2)) ?_
      case y2 => first | rfl | (go_simp; done) | (go_simp; omega)
      (try simp only [Act.put, List.setIfInBounds_toArray, List.set_cons_zero, List.set_cons_succ])
      refine any_take (i := 1) (v := .int .i64 k) rfl (by kernel_rfl) (by kernel_rfl) (by kernel_rfl) (fun _ _ _ h => h) hS (yi_cell _ _ rfl (by rfl) ⟨w.heap.size, 0, none⟩ rfl _ Try.underlying3 rfl (fun w' h' => (cell_of_row _ _ _ _ _ _ h'.1).trans (tvv_zero _ _))) ?_
      (try simp only [Act.put, List.setIfInBounds_toArray, List.set_cons_zero, List.set_cons_succ])
      refine any_take (i := 3) (v := .int .i64 k) rfl (by kernel_rfl) (by kernel_rfl) (by kernel_rfl) (fun _ _ _ h => h) hS (yi_cell _ _ rfl (by rfl) ⟨w.heap.size, 0, none⟩ rfl _ Try.underlying3 rfl (fun w' h' => (cell_of_row _ _ _ _ _ _ h'.1).trans (tvv_zero _ _))) ?_
      (try simp only [Act.put, List.setIfInBounds_toArray, List.set_cons_zero, List.set_cons_succ])
      refine any_take (i := 4) rfl (by kernel_rfl) (by kernel_rfl) (by kernel_rfl) (fun _ _ _ h => h) hS (yi_row _ _ rfl (by rfl) (w1.heap.size) rfl (img L) _ Try.underlying98 rfl (im_z _ HL1.out) (fun w' h' => ⟨_, _, h'.2.1⟩)) ?_
      (try simp only [Act.put, List.setIfInBounds_toArray, List.set_cons_zero, List.set_cons_succ])
      refine any_take (i := 5) rfl (by kernel_rfl) (by kernel_rfl) (by kernel_rfl) (fun _ _ _ h => h) hS (yi_row _ _ rfl (by rfl) (w2.heap.size) rfl (img M) _ Try.underlying98 rfl (im_z _ HL2.out) (fun w' h' => ⟨_, _, h'.2.2.1⟩)) ?_
      (try simp only [Act.put, List.setIfInBounds_toArray, List.set_cons_zero, List.set_cons_succ])
      refine any_call (i := 6) rfl (by kernel_rfl) (by rfl) 58 #[.int .i64 k, .agg (img L), .agg (img M)] ?x7 (behind_any k L M hk HL1.out HL2.out HLT1.out _) ?_
      case x7 => (simp [go_sem])
      (try simp only [Act.put, List.setIfInBounds_toArray, List.set_cons_zero, List.set_cons_succ])
      rintro e w3 ⟨rfl, hb3⟩
      have hS3 : w3.heap[w.heap.size]? = some (.cells (tvv k ws) 26 (0, 0)) ∧ w3.heap[w1.heap.size]? = some (.cells (img L) 98 (0, 0)) ∧ w3.heap[w2.heap.size]? = some (.cells (img M) 98 (0, 0)) ∧ (∃ c, w3.heap[w.heap.size + 1 + 1]? = some (.cells c 26 (0, 0)) ∧ c.size = 8) ∧ Below w.heap.size w w3 :=
        ⟨hp_below' hb3 hS.1, hp_below' hb3 hS.2.1, hp_below' hb3 hS.2.2.1, ⟨_, hp_below' hb3 C3.out, rfl⟩, bl_then hS.2.2.2.2 hb3⟩
      refine ⟨_, rfl, hS3, ?_⟩
      (try simp only [Act.put, List.setIfInBounds_toArray, List.set_cons_zero, List.set_cons_succ])
      refine any_call (i := 7) rfl (by kernel_rfl) (by rfl) 53 #[.int .i64 k, .agg (img (bhd k L M))] ?x10 (pack_any k (bhd k L M) hk (bhd_len _ _ _) (bhd_lt HLT1.out HLT2.out) _) ?_
      case x10 => (simp [go_sem])
      (try simp only [Act.put, List.setIfInBounds_toArray, List.set_cons_zero, List.set_cons_succ])
      rintro e w4 ⟨rfl, hb4⟩
      have hC4 := hp_below' hb4 (hp_below' hb3 C3.out)
      have hS4 : w4.heap[w.heap.size]? = some (.cells (tvv k ws) 26 (0, 0)) ∧ w4.heap[w1.heap.size]? = some (.cells (img L) 98 (0, 0)) ∧ w4.heap[w2.heap.size]? = some (.cells (img M) 98 (0, 0)) ∧ (∃ c, w4.heap[w.heap.size + 1 + 1]? = some (.cells c 26 (0, 0)) ∧ c.size = 8) ∧ Below w.heap.size w w4 :=
        ⟨hp_below' hb4 hS3.1, hp_below' hb4 hS3.2.1, hp_below' hb4 hS3.2.2.1, ⟨_, hC4, rfl⟩, bl_then hS3.2.2.2.2 hb4⟩
      refine ⟨_, rfl, hS4, ?_⟩
      (try simp only [Act.put, List.setIfInBounds_toArray, List.set_cons_zero, List.set_cons_succ])
      have hne1 : w1.heap.size ≠ w.heap.size + 1 + 1 := by
        intro e
        have h1 := hS4.2.1
        rw [e, hC4] at h1
        simp at h1
      have hne2 : w2.heap.size ≠ w.heap.size + 1 + 1 := by
        intro e
        have h1 := hS4.2.2.1
        rw [e, hC4] at h1
        simp at h1
      have hS5 : (w4.setRow (w.heap.size + 1 + 1) (tvv k (pks (bhd k L M) k))).heap[w.heap.size]? = some (.cells (tvv k ws) 26 (0, 0)) ∧ (w4.setRow (w.heap.size + 1 + 1) (tvv k (pks (bhd k L M) k))).heap[w1.heap.size]? = some (.cells (img L) 98 (0, 0)) ∧ (w4.setRow (w.heap.size + 1 + 1) (tvv k (pks (bhd k L M) k))).heap[w2.heap.size]? = some (.cells (img M) 98 (0, 0)) ∧ (∃ c, (w4.setRow (w.heap.size + 1 + 1) (tvv k (pks (bhd k L M) k))).heap[w.heap.size + 1 + 1]? = some (.cells c 26 (0, 0)) ∧ c.size = 8) ∧ Below w.heap.size w (w4.setRow (w.heap.size + 1 + 1) (tvv k (pks (bhd k L M) k))) :=
        ⟨hp_row (by omega) hS4.1, hp_row hne1 hS4.2.1, hp_row hne2 hS4.2.2.1, ⟨_, setRow_heap _ _ _ _ _ _ hC4, by rw [tvv_size, pks_len]⟩, bl_row hS4.2.2.2.2 (by omega) _⟩
      refine any_row (i := 8) rfl (by kernel_rfl) (by rfl) _ _ _ rfl (w.heap.size + 1 + 1) (tvv k (pks (bhd k L M) k)) rfl rfl 26 _ hC4 (tr_z _ _ (pks_len _ _)) (by rw [tvv_size, pks_len]; rfl) (tvv_one _ _) hS5 ?_
      (try simp only [Act.put, List.setIfInBounds_toArray, List.set_cons_zero, List.set_cons_succ])
      refine any_val (i := 9) rfl (by kernel_rfl) (by rfl) hS5 rfl ?_
      (try simp only [Act.put, List.setIfInBounds_toArray, List.set_cons_zero, List.set_cons_succ])
      refine wpAnyH_done (by kernel_rfl) ?_ _
      have HF5 := Lib.hid hS5.2.2.2.2
      have HC4 := Lib.hid hC4
      clear hS hS3 hS4 hS5 hb3 hb4 hC4 hne1 hne2
      go_wp2
      refine bodyPost_ret (v := .tuple #[.agg (tvv k (pks (bhd k L M) k)), .int .i64 0]) ?_ rfl ⟨by rw [HX.out], HF5.out⟩
      refine (results_cell_tmp (p := 4) (t := 5) (by rfl) _ _ (w.heap.size + 1 + 1) 26 _ _ _ ?_ (setRow_heap _ _ _ _ _ _ HC4.out) Try.underlying26 rfl (tr_z _ _ (pks_len _ _))).trans ?_ <;> rfl
    · have hne : (n != m) = true := by rw [bne_iff_ne]; exact hnm
      have HX := Lib.hid (HF.out hnm)
      clear hnm HG HF HE
      go_wp2_with (first | (refine st_im_new HL2.out rfl rfl _ _ rfl rfl rfl ?_) | (refine st_tr (w.heap.size + 1 + 1) (n := 0) (l := List.replicate 7 0) (by simp) C3.out rfl rfl _ _ rfl rfl rfl ?_))
      refine bodyPost_ret (v := .tuple #[.agg (tvv 0 (List.replicate 7 0)), .int .i64 1]) ?_ rfl ⟨by rw [HX.out], bl_row HW2.out (by omega) _⟩
      refine (results_cell_tmp (p := 4) (t := 5) (by rfl) _ _ (w.heap.size + 1 + 1) 26 _ _ _ ?_ (setRow_heap _ _ _ _ _ _ C3.out) Try.underlying26 rfl (tr_z _ _ (by simp))).trans ?_ <;> rfl
  · have HX := Lib.hid (HE.out _ rfl (by simpa using hb))
    have hor : (!b1 || !b2) = true := by cases b1 <;> cases b2 <;> simp_all
    clear hb HE
    cases b1 <;> cases b2 <;>
    first
    | (exact absurd hor (by decide))
    | (go_wp2_with (first | (refine st_im_new HL2.out rfl rfl _ _ rfl rfl rfl ?_) | (refine st_tr (w.heap.size + 1 + 1) (n := 0) (l := List.replicate 7 0) (by simp) C3.out rfl rfl _ _ rfl rfl rfl ?_))
       refine bodyPost_ret (v := .tuple #[.agg (tvv 0 (List.replicate 7 0)), .int .i64 130]) ?_ rfl ⟨by rw [HX.out], bl_row HW2.out (by omega) _⟩
       refine (results_cell_tmp (p := 4) (t := 5) (by rfl) _ _ (w.heap.size + 1 + 1) 26 _ _ _ ?_ (setRow_heap _ _ _ _ _ _ C3.out) Try.underlying26 rfl (tr_z _ _ (by simp))).trans ?_ <;> rfl)
end Go.Proofs.Ytpebnldoimoahaa

namespace Go.Proofs.Ytpebnldoimoahaa
open Go.RowKit Go.Proofs.YtpebnldoimoahaaW.PrintWords
/-- The loop of Power: out, the square so far, what is left of the exponent. -/
def pwl (n : Nat) (o l : List Nat) (k : Nat) : List Nat :=
  if _h : k = 0 then o else pwl n (if k % 2 = 1 then bhd n o l else o) (bhd n l l) (k / 2)
termination_by k
decreasing_by omega
/-- What Power answers. -/
def powT (n : Int) (ws : List Nat) (k : Nat) : Int × List Nat × Int :=
  if goodT n ws = true then (n, pks (pwl n.toNat (List.range 64) (ims n.toNat ws) k) n.toNat, 0) else (0, List.replicate 7 0, 130)
theorem powT_len (n : Int) (ws : List Nat) (k : Nat) : (powT n ws k).2.1.length = 7 := by
  unfold powT; split
  · exact pks_len _ _
  · simp
theorem bit_in (j : Nat) (hj : j < 18446744073709551616) : bits .and .u64 (j : Int) 1 = ((j % 2 : Nat) : Int) := by
  have h := bits_and_u64_nat j 1 hj (by omega)
  rw [show ((1 : Nat) : Int) = 1 by rfl] at h
  rw [h]
  congr 1
  exact Nat.and_two_pow_sub_one_eq_mod _ 1
def Pw (w w1 w2 wr : World) (n : Nat) (ws o l : List Nat) : Prop :=
  wr.heap[w.heap.size]? = some (.cells (tvv n ws) 26 (0, 0)) ∧ wr.heap[w1.heap.size]? = some (.cells (img l) 98 (0, 0)) ∧ wr.heap[w2.heap.size]? = some (.cells (img o) 98 (0, 0)) ∧ (∃ c, wr.heap[w.heap.size + 1]? = some (.cells c 26 (0, 0)) ∧ c.size = 8) ∧ Below w.heap.size w wr
set_option maxRecDepth 100000 in
set_option maxHeartbeats 2000000 in
theorem power_any (n : Int) (ws : List Nat) (k : Nat) (hl : ws.length = 7) (hw : Hid (∀ i, ws.getD i 0 < 18446744073709551616)) (hk : Hid (k < 18446744073709551616)) (w : World) :
    Calls Try.prog 24 #[.agg (tvv n ws), .int .u64 k] w fun e w' => e = .returned (.tuple #[.agg (tvv (powT n ws k).1 (powT n ws k).2.1), .int .i64 (powT n ws k).2.2]) ∧ Below w.heap.size w w' := by
  have HL := Lib.hid hl; clear hl
  have HZ := Lib.hid (tvv_zero n ws)
  go_enter Try.func24, Try.ntmps24
  go_wp2_with (refine ld_tr w.heap.size HL.out (hp_old (hp_new rfl)) rfl _ rfl rfl ?_)
  refine (open_any n ws HL.out hw _).mono ?_
  rintro e w1 ⟨l1, hl1, rfl, hi1, hb⟩
  have HL1 := Lib.hid hl1; have HI1 := Lib.hid hi1
  have A1 := Lib.hid (hp_below' hb (hp_old (hp_new (w := w) (o := .cells (tvv n ws) 26) rfl)))
  have A2 := Lib.hid (hp_below' hb (hp_new (w := w.alloc (.cells (tvv n ws) 26)) rfl))
  have HW := Lib.hid (bl_then (bl_alloc (bl_alloc (Below.refl _ w) _) _) hb)
  rw [World.size_alloc] at A2
  clear hb hi1 hl1
  generalize hb1 : goodT n ws = b1 at *
  have HB1 := Lib.hid hb1
  clear hb1
  cases b1 with
  | false =>
    have HX : Hid (powT n ws k = (0, List.replicate 7 0, 130)) := Lib.hid (by unfold powT; rw [HB1.out]; rfl)
    have A3 := Lib.hid (hp_old (o := .cells (img l1) 98) A2.out)
    go_wp2_with (first | (refine st_im_new HL1.out rfl rfl _ _ rfl rfl rfl ?_) | (refine st_tr (w.heap.size + 1) (n := 0) (l := List.replicate 7 0) (by simp) A3.out rfl rfl _ _ rfl rfl rfl ?_))
    refine bodyPost_ret (v := .tuple #[.agg (tvv 0 (List.replicate 7 0)), .int .i64 130]) ?_ rfl ⟨by rw [HX.out], bl_row (bl_alloc HW.out _) (by omega) _⟩
    refine (results_cell_tmp (p := 4) (t := 5) (by rfl) _ _ (w.heap.size + 1) 26 _ _ _ ?_ (setRow_heap _ _ _ _ _ _ A3.out) Try.underlying26 rfl (tr_z _ _ (by simp))).trans ?_ <;> rfl
  | true =>
    obtain ⟨hn1, hn64, _, _⟩ := goodT_spec HB1.out
    obtain ⟨m, rfl⟩ := Int.eq_ofNat_of_zero_le (show 0 ≤ n by omega)
    have HX : Hid (powT m ws k = ((m : Int), pks (pwl m (List.range 64) (ims m ws) k) m, 0)) := Lib.hid (by unfold powT; rw [HB1.out, if_pos rfl, Int.toNat_natCast])
    obtain rfl := HI1.out rfl
    rw [Int.toNat_natCast] at *
    have hm64 : m ≤ 64 := by omega
    clear hn1 hn64
    go_wp2_with (refine st_im_new HL1.out rfl rfl _ _ rfl rfl rfl ?_)
    refine (same_img_any _).mono ?_
    rintro e w2 ⟨rfl, hb⟩
    have HP : Hid (Pw w w1 w2 (w2.alloc (.cells (img (List.range 64)) 98)) m ws (List.range 64) (ims m ws)) :=
      Lib.hid ⟨hp_old (hp_below' hb (hp_old A1.out)), hp_old (hp_below' hb (hp_new rfl)), hp_new rfl, ⟨_, hp_old (hp_below' hb (hp_old A2.out)), rfl⟩, bl_alloc (bl_then (bl_alloc HW.out _) hb) _⟩
    have HD : Hid (w.heap.size < w1.heap.size ∧ w1.heap.size < w2.heap.size ∧ w.heap.size + 1 < w1.heap.size) := Lib.hid (by
      have h1 := hp_lt A1.out; have h2 := hp_lt A2.out
      have h3 := hb.size
      rw [World.size_alloc] at h3
      exact ⟨h1, by omega, h2⟩)
    clear hb A1 A2 HW HI1
    go_wp2_with (refine st_im_new (by simp) rfl rfl _ _ rfl rfl rfl ?_)
    have HLT : Hid (∀ i, (ims m ws).getD i 0 < 64) := Lib.hid (ims_lt _ _)
    have HLE : Hid ((ims m ws).length = 64) := Lib.hid (ims_len _ _)
    generalize ims m ws = L0 at *
    simp only [Act.put]
    go_loopw [1] (fun x wr => ∃ j : Nat, x = .int .u64 j ∧ Hid (j < 18446744073709551616 ∧ ∃ o l, o.length = 64 ∧ l.length = 64 ∧ (∀ i, o.getD i 0 < 64) ∧ (∀ i, l.getD i 0 < 64) ∧ pwl m o l j = pwl m (List.range 64) L0 k ∧ Pw w w1 w2 wr m ws o l)) (fun x _ => (intOf x).toNat)
    case atStart =>
      exact ⟨k, rfl, Lib.hid ⟨hk.out, List.range 64, L0, by simp, HLE.out, range_lt, HLT.out, rfl, HP.out⟩⟩
    case round =>
      obtain ⟨j, rfl, H⟩ := hrel
      obtain ⟨hj, o, l, ho, hl, hot, hlt, hpw, g1, g2, g3, ⟨c, g4, g4'⟩, g5⟩ := H.out
      have c0 : wr.cell? ⟨w.heap.size, 0, none⟩ = some (.int .i64 m) := by rw [cell_of_row _ _ _ _ _ _ g1, HZ.out]
      have G1 := Lib.hid g1; have G2 := Lib.hid g2; have G3 := Lib.hid g3; have G4 := Lib.hid g4; have G4' := Lib.hid g4'; have G5 := Lib.hid g5
      have HO := Lib.hid ho; have HLL := Lib.hid hl; have HOT := Lib.hid hot; have HLLT := Lib.hid hlt; have HPW := Lib.hid hpw; have HJ := Lib.hid hj
      clear g1 g2 g3 g4 g4' g5 ho hl hot hlt hpw hj H
      by_cases hj0 : j = 0
      · subst hj0
        have HE : Hid (pwl m (List.range 64) L0 k = o) := Lib.hid (by rw [← HPW.out, pwl]; simp)
        clear HPW
        go_wp2_with (refine ld_im w2.heap.size HO.out G3.out rfl _ rfl rfl ?_)
        refine (pack_any m o hm64 HO.out HOT.out _).mono ?_
        rintro e w3 ⟨rfl, hb⟩
        have K4 := Lib.hid (hp_below' hb G4.out)
        have K5 := Lib.hid (bl_then G5.out hb)
        clear hb
        go_wp2_with (refine st_tr (w.heap.size + 1) (pks_len _ _) K4.out G4'.out rfl _ _ rfl rfl rfl ?_)
        refine bodyPost_ret (v := .tuple #[.agg (tvv m (pks o m)), .int .i64 0]) ?_ rfl ⟨by rw [HX.out, HE.out], bl_row K5.out (by omega) _⟩
        refine (results_cell_tmp (p := 4) (t := 5) (by rfl) _ _ (w.heap.size + 1) 26 _ _ _ ?_ (setRow_heap _ _ _ _ _ _ K4.out) Try.underlying26 rfl (tr_z _ _ (pks_len _ _))).trans ?_ <;> rfl
      · have hjp : 0 < j := by omega
        clear hj0
        have HQ : Hid (j / 2 < 18446744073709551616) := Lib.hid (by have := HJ.out; omega)
        have HD1 := HD.out.1; have HD2 := HD.out.2.1; have HD3 := HD.out.2.2
        have HB2 := Lib.hid (bhd_len m l l)
        have HBT := Lib.hid (bhd_lt (k := m) HLLT.out HLLT.out)
        by_cases hodd : j % 2 = 1
        · have hbit : bits .and .u64 (j : Int) 1 = 1 := by rw [bit_in j HJ.out, hodd]; rfl
          have HR : Hid (pwl m (bhd m o l) (bhd m l l) (j / 2) = pwl m (List.range 64) L0 k) := Lib.hid (by
            rw [← HPW.out]
            conv => rhs; rw [pwl]
            rw [dif_neg (by omega), if_pos hodd])
          have HBO := Lib.hid (bhd_len m o l)
          have HBOT := Lib.hid (bhd_lt (k := m) HOT.out HLLT.out)
          clear hodd
          go_wp2_with (first | (refine ld_im w2.heap.size HO.out G3.out rfl _ rfl rfl ?_) | (refine ld_im w1.heap.size HLL.out G2.out rfl _ rfl rfl ?_))
          refine (behind_any m o l hm64 HO.out HLL.out HOT.out _).mono ?_
          rintro e w3 ⟨rfl, hb⟩
          have K1 := Lib.hid (hp_row (g := w2.heap.size) (cs := img (bhd m o l)) (by omega) (hp_below' hb G1.out))
          have K2 := Lib.hid (hp_row (g := w2.heap.size) (cs := img (bhd m o l)) (by omega) (hp_below' hb G2.out))
          have K3 := Lib.hid (hp_below' hb G3.out)
          have K4 := Lib.hid (hp_row (g := w2.heap.size) (cs := img (bhd m o l)) (by omega) (hp_below' hb G4.out))
          have K5 := Lib.hid (bl_row (g := w2.heap.size) (bl_then G5.out hb) (by omega) (img (bhd m o l)))
          have K6 := Lib.hid (setRow_heap w3 w2.heap.size _ (img (bhd m o l)) _ _ K3.out)
          have c1 : (w3.setRow w2.heap.size (img (bhd m o l))).cell? ⟨w.heap.size, 0, none⟩ = some (.int .i64 m) := by rw [cell_of_row _ _ _ _ _ _ K1.out, HZ.out]
          clear hb c0
          go_wp2_with (first | (refine st_im w2.heap.size HBO.out K3.out (by rw [img_size, HO.out]) rfl _ _ rfl rfl rfl ?_) | (refine ld_im w1.heap.size HLL.out K2.out rfl _ rfl rfl ?_))
          refine (behind_any m l l hm64 HLL.out HLL.out HLLT.out _).mono ?_
          rintro e w4 ⟨rfl, hb⟩
          have M1 := Lib.hid (hp_row (g := w1.heap.size) (cs := img (bhd m l l)) (by omega) (hp_below' hb K1.out))
          have M2 := Lib.hid (hp_below' hb K2.out)
          have M3 := Lib.hid (hp_row (g := w1.heap.size) (cs := img (bhd m l l)) (by omega) (hp_below' hb K6.out))
          have M4 := Lib.hid (hp_row (g := w1.heap.size) (cs := img (bhd m l l)) (by omega) (hp_below' hb K4.out))
          have M5 := Lib.hid (bl_row (g := w1.heap.size) (bl_then K5.out hb) (by omega) (img (bhd m l l)))
          have M6 := Lib.hid (setRow_heap w4 w1.heap.size _ (img (bhd m l l)) _ _ M2.out)
          clear hb c1
          go_wp2_with (refine st_im w1.heap.size HB2.out M2.out (by rw [img_size, HLL.out]) rfl _ _ rfl rfl rfl ?_)
          go_roundw
          case rel => exact ⟨j / 2, by go_num, Lib.hid ⟨HQ.out, bhd m o l, bhd m l l, HBO.out, HB2.out, HBOT.out, HBT.out, HR.out, M1.out, M6.out, M3.out, ⟨c, M4.out, G4'.out⟩, M5.out⟩⟩
          case measure => simp [intOf]; omega
        · have hbit : bits .and .u64 (j : Int) 1 = 0 := by rw [bit_in j HJ.out, show j % 2 = 0 by omega]; rfl
          have HR : Hid (pwl m o (bhd m l l) (j / 2) = pwl m (List.range 64) L0 k) := Lib.hid (by
            rw [← HPW.out]
            conv => rhs; rw [pwl]
            rw [dif_neg (by omega), if_neg hodd])
          clear hodd
          go_wp2_with (refine ld_im w1.heap.size HLL.out G2.out rfl _ rfl rfl ?_)
          refine (behind_any m l l hm64 HLL.out HLL.out HLLT.out _).mono ?_
          rintro e w4 ⟨rfl, hb⟩
          have M1 := Lib.hid (hp_row (g := w1.heap.size) (cs := img (bhd m l l)) (by omega) (hp_below' hb G1.out))
          have M2 := Lib.hid (hp_below' hb G2.out)
          have M3 := Lib.hid (hp_row (g := w1.heap.size) (cs := img (bhd m l l)) (by omega) (hp_below' hb G3.out))
          have M4 := Lib.hid (hp_row (g := w1.heap.size) (cs := img (bhd m l l)) (by omega) (hp_below' hb G4.out))
          have M5 := Lib.hid (bl_row (g := w1.heap.size) (bl_then G5.out hb) (by omega) (img (bhd m l l)))
          have M6 := Lib.hid (setRow_heap w4 w1.heap.size _ (img (bhd m l l)) _ _ M2.out)
          clear hb c0
          go_wp2_with (refine st_im w1.heap.size HB2.out M2.out (by rw [img_size, HLL.out]) rfl _ _ rfl rfl rfl ?_)
          go_roundw
          case rel => exact ⟨j / 2, by go_num, Lib.hid ⟨HQ.out, o, bhd m l l, HO.out, HB2.out, HOT.out, HBT.out, HR.out, M1.out, M6.out, M3.out, ⟨c, M4.out, G4'.out⟩, M5.out⟩⟩
          case measure => simp [intOf]; omega
end Go.Proofs.Ytpebnldoimoahaa

namespace Go.Proofs.Ytpebnldoimoahaa
open Go.RowKit Go.Proofs.YtpebnldoimoahaaW.PrintWords
/-- Natural numbers as Go's. -/
def zl (l : List Nat) : List Int := l.map fun (n : Nat) => (n : Int)
theorem zl_len (l : List Nat) : (zl l).length = l.length := by simp [zl]
theorem zl_rd (l : List Nat) (i : Nat) : rd (zl l) i = ((l.getD i 0 : Nat) : Int) := by
  unfold rd zl
  rw [Int.toNat_natCast]
  simp only [List.getD_eq_getElem?_getD, List.getElem?_map]
  cases l[i]? <;> rfl
def Pd (w wr : World) (n : Int) (ws : List Nat) : Prop := wr.heap[w.heap.size + 1]? = some (.cells (tvv n ws) 26 (0, 0)) ∧ (∃ c, wr.heap[w.heap.size]? = some (.cells c 26 (0, 0)) ∧ c.size = 8) ∧ Below w.heap.size w wr
set_option maxRecDepth 100000 in
set_option maxHeartbeats 800000 in
theorem packed_any (A : Option Addr) (c : Nat) (l : List Nat) (w : World) (hr : Kd.C (Kd.int .i64) w A (zl l).length (zl l)) (hn : l.length ≤ 64) (hlt : ∀ i, l.getD i 0 < 64) :
    Calls Try.prog 54 #[.slice A l.length c] w fun e w' => e = .returned (.agg (tvv l.length (pks l l.length))) ∧ Below w.heap.size w w' := by
  have HR := Aside0.mk hr
  have HI := Lib.hid hlt
  clear hr hlt
  go_enter Try.func54, Try.ntmps54
  go_wp2
  go_loopw [4] (fun i wr => ∃ k : Nat, k ≤ l.length ∧ i = .int .i64 k ∧ Pd w wr l.length (pks l k)) (fun i _ => l.length - (intOf i).toNat)
  case atStart =>
    refine ⟨0, by omega, rfl, ?_⟩
    rw [pks_zero]
    unfold Pd
    rw [tvv_zeros]
    exact ⟨hp_new (by simp), ⟨_, hp_old (hp_new rfl), rfl⟩, by repeat (first | exact Below.refl _ _ | refine bl_alloc ?_ _)⟩
  case round =>
    obtain ⟨k, hk, rfl, H⟩ := hrel
    by_cases hkl : k < l.length
    · obtain ⟨ad, rfl, hcell⟩ := Kd.at_int (Kd.C_below HR.out H.2.2) k (by omega) (by rw [zl_len]; omega)
      rw [Int.toNat_natCast, zl_rd] at hcell
      have hk64 : k < 64 := by omega
      have c1 : wr.cell? ⟨w.heap.size + 1, 1 + k / 10, none⟩ = some (.int .u64 ((pw l (10 * (k / 10)) (k % 10) : Nat) : Int)) := by
        rw [cell_of_row _ _ _ _ _ _ H.1, tvv_get _ _ _ (by rw [pks_len]; omega), pks_at l k hk64]
      have f1 : wr.frozen? ⟨w.heap.size + 1, 1 + k / 10, none⟩ = false := frozen_of_row _ _ _ _ _ H.1
      have hy := HI.out k
      have hv := or_in (pw l (10 * (k / 10)) (k % 10)) (l.getD k 0) (k % 10) (pw_lt l _ HI.out _) hy (by omega)
      have H2 : Pd w (wr.setCell ⟨w.heap.size + 1, 1 + k / 10, none⟩ (.int .u64 (bits .or .u64 ((pw l (10 * (k / 10)) (k % 10) : Nat) : Int) (IntKind.u64.wrap (((l.getD k 0 : Nat) : Int) * 2 ^ (6 * (k % 10))))))).drew l.length (pks l (k + 1)) := by
        obtain ⟨g2, ⟨c, g3, g3'⟩, g4⟩ := H
        rw [hv]
        refine ⟨?_, ⟨c, hp_cell (by simp) g3, g3'⟩, (bl_cell g4 (by simp) _).drew⟩
        rw [heap_drew, heap_setCell_same _ _ _ _ _ _ g2, tvv_set, pks_set l k]
      clear H hv
      have H2 := Lib.hid H2
      generalize l.getD k 0 = y at *
      generalize pw l (10 * (k / 10)) (k % 10) = x at *
      go_wp2
      go_region
      go_wp2
      go_roundw
      case rel => exact ⟨k+1, by omega, by go_num, H2.out⟩
      case measure => simp [intOf]; omega
    · have : k = l.length := by omega
      subst this
      obtain ⟨g2, ⟨c, g3, g3'⟩, g4⟩ := H
      have G2 := Lib.hid g2; have G3 := Lib.hid g3; have G3' := Lib.hid g3'; have G4 := Lib.hid g4
      clear g2 g3 g3' g4
      go_wp2_with (first | (refine ld_tr (w.heap.size + 1) (pks_len _ _) G2.out rfl _ rfl rfl ?_) | (refine st_tr w.heap.size (pks_len _ _) G3.out G3'.out rfl _ _ rfl rfl rfl ?_))
      refine bodyPost_ret (v := .agg (tvv l.length (pks l l.length))) ?_ rfl ⟨rfl, bl_row G4.out (by omega) _⟩
      exact results_cell_row rfl _ _ w.heap.size 26 _ _ _ rfl (setRow_heap _ _ c _ _ _ G3.out) Try.underlying26 rfl (tr_z _ _ (pks_len _ _))
end Go.Proofs.Ytpebnldoimoahaa

namespace Go.Proofs.Ytpebnldoimoahaa
open Go.RowKit Go.Proofs.YtpebnldoimoahaaW.PrintWords
/-- The first k images. -/
def imk (k : Nat) (ws : List Nat) : List Nat := (List.range k).map (im ws)
theorem imk_len (k : Nat) (ws : List Nat) : (imk k ws).length = k := by simp [imk]
theorem imk_succ (k : Nat) (ws : List Nat) : zl (imk (k + 1) ws) = zl (imk k ws) ++ [((im ws k : Nat) : Int)] := by
  simp [imk, zl, List.range_succ]
set_option maxRecDepth 100000 in
set_option maxHeartbeats 800000 in
theorem images_any (n : Nat) (ws : List Nat) (h1 : n ≤ 64) (hl : ws.length = 7) (hw : Hid (∀ i, ws.getD i 0 < 18446744073709551616)) (w : World) :
    Calls Try.prog 56 #[.agg (tvv n ws)] w fun e w' => ∃ v, e = .returned v ∧ Own w' w.heap.size v (zl (imk n ws)) ∧ Below w.heap.size w w' := by
  have HL := Lib.hid hl; clear hl
  go_enter Try.func56, Try.ntmps56
  go_wp2
  go_loopw [3, 4] (fun v i wr => ∃ k : Nat, k ≤ n ∧ i = .int .i64 k ∧ Hid (wr.heap[w.heap.size]? = some (.cells (tvv n ws) 26 (0, 0)) ∧ Own wr w.heap.size v (zl (imk k ws)) ∧ Below w.heap.size w wr)) (fun _ i _ => n - (intOf i).toNat)
  case atStart =>
    exact ⟨0, by omega, rfl, Lib.hid ⟨hp_new rfl, Kd.R_nil _ _ _ _ _, bl_alloc (Below.refl _ _) _⟩⟩
  case round =>
    obtain ⟨k, hk, rfl, H⟩ := hrel
    have c0 : wr.cell? ⟨w.heap.size, 0, none⟩ = some (.int .i64 n) := by rw [cell_of_row _ _ _ _ _ _ H.out.1, tvv_zero]
    by_cases hkl : k < n
    · have hk64 : k < 64 := by omega
      have c1 : wr.cell? ⟨w.heap.size, 1 + k / 10, none⟩ = some (.int .u64 ((ws.getD (k / 10) 0 : Nat) : Int)) := by
        rw [cell_of_row _ _ _ _ _ _ H.out.1, tvv_get _ _ _ (by rw [HL.out]; omega)]
      have hv : bits .and .u64 (((ws.getD (k / 10) 0 : Nat) : Int) / 2 ^ (6 * (k % 10))) 63 = ((im ws k : Nat) : Int) := shr_in _ _ (hw.out _)
      have hi1 : im ws k < 64 := im_lt ws k
      have HK := Lib.hid (imk_succ k ws)
      generalize im ws k = y at *
      generalize ws.getD (k / 10) 0 = x at *
      have HO := Aside0.mk H.out.2.1
      have HB := Aside0.mk H.out.2.2
      have HX := Lib.hid H.out.1
      clear H
      have HLK := Lib.hid (show (zl (imk k ws)).length = k by rw [zl_len, imk_len])
      generalize zl (imk k ws) = xs at *
      go_wp2_with (first | (at_builtin; (refine Kd.R_append (Kd.int .i64) (w0 := w) w.heap.size rfl (.tmp 15) (.tmp 28) 22 3 (.int .i64 0) 8 rfl Try.underlying22 info_int rfl (by decide) (by omega) u3 xs (y : Int) [.int .i64 y] (fun _ => True) (fun _ => False) rfl rfl ?aP (fun _ hk => hk.elim) ?aF ?aO ?aB ?aS ?aL ?_); (case aP => exact rfl); (case aB => exact HB.out); (case aF => exact (fun _ _ => trivial)); (case aO => exact HO.out); (case aS => exact below_size HB.out); (case aL => have := HLK.out; omega); intro v1 w1 ho hb hg hat; have HO1 := Aside0.mk ho; have HB1 := Aside0.mk hb; have HX1 := Lib.hid hg; have HX2 := Lib.hid hat; clear ho hb hg hat))
      have HX3 := Lib.hid (HX1.out.block _ (hp_lt HX.out) ?hne)
      go_roundw
      case rel => exact ⟨k + 1, by omega, by go_num, Lib.hid ⟨HX3.out.trans HX.out, by rw [HK.out]; exact HO1.out, HB1.out⟩⟩
      case measure => simp [intOf]; omega
      case hne => exact Kd.R_ne HO.out HX.out (by decide)
    · have : k = n := by omega
      subst this
      go_wp2
      go_ret
      exact ⟨_, rfl, H.out.2.1, H.out.2.2⟩
end Go.Proofs.Ytpebnldoimoahaa

namespace Go.Proofs.Ytpebnldoimoahaa
open Go.RowKit Go.Proofs.YtpebnldoimoahaaW.PrintWords
theorem zl_nats {l : List Int} (h : ∀ i, i < l.length → 0 ≤ l.getD i 0) : zl (nats l) = l := by
  unfold zl nats
  rw [List.map_map]
  apply List.ext_getElem (by simp)
  intro i h1 h2
  have := h i h2
  simp [List.getD_eq_getElem?_getD, List.getElem?_eq_getElem h2] at this
  simp; omega
theorem nats_len (l : List Int) : (nats l).length = l.length := by simp [nats]
theorem nats_lt {l : List Int} (hl : l.length ≤ 64) (h : ∀ i, i < l.length → 0 ≤ l.getD i 0 ∧ l.getD i 0 < l.length) (i : Nat) : (nats l).getD i 0 < 64 := by
  by_cases hi : i < l.length
  · have := h i hi
    simp [nats, List.getD_eq_getElem?_getD, List.getElem?_eq_getElem hi] at this ⊢
    omega
  · simp [nats, List.getD_eq_getElem?_getD, List.getElem?_eq_none (Nat.le_of_not_lt hi)]
set_option maxRecDepth 100000 in
set_option maxHeartbeats 800000 in
theorem rmake_any (A : Option Addr) (c : Nat) (l : List Int) (w : World) (hr : Kd.C (Kd.int .i64) w A l.length l) :
    Calls Try.prog 16 #[.slice A l.length c] w fun e w' => e = .returned (.tuple #[.agg (tvv (makeT l).1 (makeT l).2.1), .int .i64 (makeT l).2.2]) ∧ Below w.heap.size w w' := by
  have HR := Aside0.mk hr
  clear hr
  by_cases hs : l.length < 1 ∨ 64 < l.length
  · rw [makeT_size hs]
    have HS := Lib.hid hs; clear hs
    have hd2 : (decide ((l.length : Int) < 1) || decide (64 < (l.length : Int))) = true := by
      have := HS.out; simp; omega
    go_enter Try.func16, Try.ntmps16
    go_wp2_with (refine st_tr w.heap.size (n := 0) (l := List.replicate 7 0) (by simp) (hp_new rfl) rfl rfl _ _ rfl rfl rfl ?_)
    all_goals
      refine bodyPost_ret (v := .tuple #[.agg (tvv 0 (List.replicate 7 0)), .int .i64 6]) ?_ rfl ⟨rfl, bl_row (bl_alloc (Below.refl _ _) _) (by omega) _⟩
      refine (results_cell_tmp (p := 2) (t := 3) (by rfl) _ _ w.heap.size 26 _ _ _ ?_ (setRow_heap _ _ _ _ _ _ (hp_new rfl)) Try.underlying26 rfl (tr_z _ _ (by simp))).trans ?_ <;> rfl
  · have hmax : l.length ≤ 64 := by omega
    have hmin : 1 ≤ l.length := by omega
    have HS := Lib.hid hs; clear hs
    go_enter Try.func16, Try.ntmps16
    go_wp2
    go_loopw [4] (fun i wr => ∃ k : Nat, k ≤ l.length ∧ i = .int .i64 k ∧ Hid (∀ i, i < k → 0 ≤ l.getD i 0 ∧ l.getD i 0 < l.length) ∧ Hid ((∃ c, wr.heap[w.heap.size]? = some (.cells c 26 (0, 0)) ∧ c.size = 8) ∧ Below w.heap.size w wr)) (fun i _ => l.length - (intOf i).toNat)
    case atStart =>
      exact ⟨0, by omega, rfl, Lib.hid (by omega), Lib.hid ⟨⟨_, hp_new rfl, rfl⟩, bl_alloc (Below.refl _ _) _⟩⟩
    case round =>
      obtain ⟨k, hk, rfl, HI, H⟩ := hrel
      obtain ⟨⟨c1, g1, g1'⟩, g3⟩ := H.out
      have G1 := Lib.hid g1; have G1' := Lib.hid g1'; have G3 := Lib.hid g3
      clear g1 g1' g3
      by_cases hlt : k < l.length
      · obtain ⟨ad, rfl, hcell⟩ := Kd.at_int (Kd.C_below HR.out G3.out) k (by omega) (by omega)
        rw [Int.toNat_natCast] at hcell
        have HX := Lib.hid (show rd l k = l.getD k 0 by unfold rd; rw [Int.toNat_natCast])
        by_cases hp : 0 ≤ rd l k ∧ rd l k < l.length
        · obtain ⟨hp0, hp1⟩ := hp
          have hd1 : decide (rd l k < 0) = false := by simp; omega
          have hd2 : decide ((l.length : Int) ≤ rd l k) = false := by simp; omega
          have HI2 : Hid (∀ i, i < k + 1 → 0 ≤ l.getD i 0 ∧ l.getD i 0 < l.length) := Lib.hid (fun i hi => by
            by_cases e : i = k
            · subst e; rw [← HX.out]; exact ⟨hp0, hp1⟩
            · exact HI.out i (by omega))
          generalize rd l k = p at *
          go_wp2
          go_roundw
          case rel => exact ⟨k+1, by omega, by go_num, HI2, H⟩
          case measure => simp [intOf]; omega
        · have hd : (decide (rd l k < 0) || decide ((l.length : Int) ≤ rd l k)) = true := by simp; omega
          have HB := Lib.hid (makeT_bad HS.out k hlt (by rw [← HX.out]; exact hp))
          clear hp
          generalize rd l k = p at *
          go_wp2_with (refine st_tr w.heap.size (n := 0) (l := List.replicate 7 0) (by simp) G1.out G1'.out rfl _ _ rfl rfl rfl ?_)
          all_goals
            refine bodyPost_ret (v := .tuple #[.agg (tvv 0 (List.replicate 7 0)), .int .i64 11]) ?_ rfl ⟨by rw [HB.out], bl_row G3.out (by omega) _⟩
            refine (results_cell_tmp (p := 2) (t := 3) (by rfl) _ _ w.heap.size 26 _ _ _ ?_ (setRow_heap _ _ _ _ _ _ G1.out) Try.underlying26 rfl (tr_z _ _ (by simp))).trans ?_ <;> rfl
      · have : k = l.length := by omega
        subst this
        have HG := Lib.hid (makeT_good HS.out HI.out)
        have HN := Lib.hid (nats_len l)
        go_wp2_with fail
        have hcall := packed_any A c (nats l) wr (by rw [zl_len, nats_len, zl_nats (fun i hi => (HI.out i hi).1)]; exact Kd.C_below HR.out G3.out) (by rw [nats_len]; exact hmax) (nats_lt hmax HI.out)
        rw [nats_len] at hcall
        refine hcall.mono ?_
        clear hcall
        rintro e w2 ⟨rfl, hb⟩
        have HB := Lib.hid hb
        clear hb
        have G4 := Lib.hid (hp_below' HB.out G1.out)
        have G5 := Lib.hid (bl_then G3.out HB.out)
        go_wp2_with (refine st_tr w.heap.size (n := l.length) (l := pks (nats l) l.length) (pks_len _ _) G4.out G1'.out rfl _ _ rfl rfl rfl ?_)
        refine bodyPost_ret (v := .tuple #[.agg (tvv l.length (pks (nats l) l.length)), .int .i64 0]) ?_ rfl ⟨by rw [HG.out], bl_row G5.out (by omega) _⟩
        refine (results_cell_tmp (p := 2) (t := 3) (by rfl) _ _ w.heap.size 26 _ _ _ ?_ (setRow_heap _ _ _ _ _ _ G4.out) Try.underlying26 rfl (tr_z _ _ (pks_len _ _))).trans ?_ <;> rfl
set_option maxRecDepth 100000 in
set_option maxHeartbeats 800000 in
theorem rcheck_in (n : Nat) (ws : List Nat) (h0 : 1 ≤ n) (h1 : n ≤ 64) (hl : ws.length = 7) (hw : Hid (∀ i, ws.getD i 0 < 18446744073709551616)) (w : World) :
    Calls Try.prog 19 #[.agg (tvv n ws)] w fun e w' => e = .returned (.int .i64 (chkE (goodT n ws))) ∧ Below w.heap.size w w' := by
  have HL := Lib.hid hl; clear hl
  have z := tvv_zero n ws
  go_enter Try.func19, Try.ntmps19
  go_wp2_with (refine ld_tr w.heap.size HL.out (hp_new rfl) rfl _ rfl rfl ?_)
  refine (images_any n ws h1 HL.out hw _).mono ?_
  rintro e w1 ⟨v, rfl, ho, hb⟩
  have HO := Aside0.mk ho
  have HB := Lib.hid hb
  clear ho hb
  have HT := Lib.hid (hp_below' HB.out (hp_new (w := w) (o := .cells (tvv n ws) 26) rfl))
  have HBB := Lib.hid (bl_trans (bl_alloc (Below.refl _ w) (.cells (tvv n ws) 26)) (by simp) HB.out)
  obtain ⟨A, c, rfl, hlc, hC⟩ := Kd.R_reads HO.out
  rw [zl_len, imk_len] at *
  have HC := Aside0.mk hC
  clear hC HB
  go_wp2
  go_loopw [4] (fun i wr => ∃ k : Nat, k ≤ n ∧ i = .int .i64 k ∧ Hid (∀ i, i < k → im ws i < n) ∧ Hid (wr.heap[w.heap.size]? = some (.cells (tvv n ws) 26 (0, 0)) ∧ Below w.heap.size w wr ∧ Kd.C (Kd.int .i64) wr A n (zl (imk n ws)))) (fun i _ => n - (intOf i).toNat)
  case atStart => exact ⟨0, by omega, rfl, Lib.hid (by omega), Lib.hid ⟨HT.out, HBB.out, HC.out⟩⟩
  case round =>
    obtain ⟨k, hk, rfl, HI, H⟩ := hrel
    have c0 : wr.cell? ⟨w.heap.size, 0, none⟩ = some (.int .i64 n) := by rw [cell_of_row _ _ _ _ _ _ H.out.1, tvv_zero]
    by_cases hkl : k < n
    · obtain ⟨ad, rfl, hcell⟩ := Kd.at_int H.out.2.2 k (by omega) (by omega)
      rw [Int.toNat_natCast, zl_rd] at hcell
      have HX := Lib.hid (show (imk n ws).getD k 0 = im ws k by simp [imk, List.getD_eq_getElem?_getD, hkl])
      rw [HX.out] at hcell
      have HP : Hid (n ≤ im ws k → goodT n ws = false) := Lib.hid (goodT_point hkl)
      have HN : Hid (im ws k < n → ∀ i, i < k + 1 → im ws i < n) := Lib.hid (fun h i hi => by
        by_cases e : i = k
        · subst e; exact h
        · exact HI.out i (by omega))
      clear HX
      have hi1 : im ws k < 64 := im_lt ws k
      generalize im ws k = y at *
      by_cases hyn : y < n
      · have hd : decide ((n : Int) ≤ y) = false := by simp; omega
        go_wp2
        go_quiet (fail)
        go_wp2
        go_roundw
        case rel => exact ⟨k+1, by omega, by go_num, Lib.hid (HN.out hyn), Lib.hid ⟨H.out.1, bl_drewN H.out.2.1 _, Kd.C_drewN H.out.2.2 _⟩⟩
        case measure => simp [intOf]; omega
      · have hd : decide ((n : Int) ≤ y) = true := by simp; omega
        go_wp2
        go_quiet (fail)
        go_wp2
        go_ret
        exact ⟨by rw [HP.out (by omega)]; rfl, bl_drewN H.out.2.1 _⟩
    · have : k = n := by omega
      subst this
      have HGA := Lib.hid (goodT_all h0 h1 HI.out)
      generalize hgb : goodT k ws = b at *
      have HGB := Lib.hid hgb; clear hgb
      go_wp2_with fail
      refine wp_region_held_drew (S := fun w' => w'.heap[w.heap.size]? = some (.cells (tvv k ws) 26 (0, 0)) ∧ Below w.heap.size w w' ∧ Kd.C (Kd.int .i64) w' A k (zl (imk k ws))) (by kernel_rfl) ⟨H.out.1, H.out.2.1.drew, Kd.C_drew H.out.2.2⟩ (fun hS => ?_)
      refine any_take (i := 0) (v := .slice A k c) rfl (by kernel_rfl) (by kernel_rfl) (by kernel_rfl) (fun _ _ _ h => h) hS (yi_val rfl (fun w' _ => rfl)) ?_
      (try simp only [Act.put, List.setIfInBounds_toArray, List.set_cons_zero, List.set_cons_succ])
      refine any_take (i := 2) rfl (by kernel_rfl) (by kernel_rfl) (by kernel_rfl) (fun _ _ _ h => h) hS (yi_row _ _ rfl rfl w.heap.size rfl (tvv k ws) _ Try.underlying26 rfl (tr_z _ _ HL.out) (fun w' h' => ⟨_, _, h'.1⟩)) ?_
      (try simp only [Act.put, List.setIfInBounds_toArray, List.set_cons_zero, List.set_cons_succ])
      have hcall := packed_any A c (imk k ws) wr.drew (by rw [zl_len, imk_len]; exact hS.2.2) (by rw [imk_len]; exact h1) (fun i => by
        by_cases hi : i < k
        · simp [imk, List.getD_eq_getElem?_getD, hi]; exact im_lt _ _
        · simp [imk, List.getD_eq_getElem?_getD, hi])
      rw [imk_len] at hcall
      refine any_call (i := 1) rfl (by kernel_rfl) rfl 54 #[.slice A k c] ?c2 hcall ?_
      case c2 => simp [go_sem]
      (try simp only [Act.put, List.setIfInBounds_toArray, List.set_cons_zero, List.set_cons_succ])
      rintro e w2 ⟨rfl, hb⟩
      refine ⟨_, rfl, ⟨hp_below' hb hS.1, bl_then hS.2.1 hb, Kd.C_below hS.2.2 hb⟩, ?_⟩
      have hpk : pks (imk k ws) k = pks (ims k ws) k := pks_ext _ _ _ fun i hi => by
        rw [ims_getD, if_pos (by omega)]; simp [imk, List.getD_eq_getElem?_getD, hi]
      refine any_take (i := 3) (v := .bool (!b)) rfl (by kernel_rfl) (by kernel_rfl) (by kernel_rfl) (fun _ _ _ h => h) ⟨hp_below' hb hS.1, bl_then hS.2.1 hb, Kd.C_below hS.2.2 hb⟩ (yi_bin _ _ _ _ _ rfl rfl (fun w' h' => ⟨?c3, ?c4⟩)) ?_
      case c3 => exact run_eqGuard_agg w' .neq 26 _ _ _ _ (by kernel_rfl)
      case c4 =>
        refine Eq.trans (run_neT w' k k (pks (imk k ws) k) ws (pks_len _ _) HL.out) ?_
        rw [hpk, HGA.out]
        simp
      (try simp only [Act.put, List.setIfInBounds_toArray, List.set_cons_zero, List.set_cons_succ])
      refine wpAnyH_done (by kernel_rfl) ?_ _
      have HB2 := Lib.hid (bl_then hS.2.1 hb)
      clear hS hb hpk hcall
      cases b <;>
      · go_wp2
        go_ret
        exact ⟨by rw [HGB.out]; rfl, HB2.out⟩
theorem rcheck_any (n : Int) (ws : List Nat) (hl : ws.length = 7) (hw : Hid (∀ i, ws.getD i 0 < 18446744073709551616)) (w : World) :
    Calls Try.prog 19 #[.agg (tvv n ws)] w fun e w' => e = .returned (.int .i64 (chkE (goodT n ws))) ∧ Below w.heap.size w w' := by
  by_cases h : 1 ≤ n ∧ n ≤ 64
  · obtain ⟨m, rfl⟩ := Int.eq_ofNat_of_zero_le (show 0 ≤ n by omega)
    exact rcheck_in m ws (by omega) (by omega) hl hw w
  · have HG := Lib.hid (goodT_small (n := n) (ws := ws) h)
    have hd : (decide (n < 1) || decide (64 < n)) = true := by simp; omega
    have z := tvv_zero n ws
    clear h
    go_enter Try.func19, Try.ntmps19
    go_wp2
    all_goals
      go_ret
      exact ⟨by rw [HG.out]; rfl, bl_alloc (Below.refl _ _) _⟩
end Go.Proofs.Ytpebnldoimoahaa

namespace Go.Proofs.Ytpebnldoimoahaa
open Go.RowKit Go.Proofs.YtpebnldoimoahaaW.PrintWords
theorem zl_snoc (l : List Nat) (x : Nat) : zl (l ++ [x]) = zl l ++ [(x : Int)] := by simp [zl]
set_option maxRecDepth 100000 in
set_option maxHeartbeats 800000 in
theorem rest_any (n : Nat) (hn : n ≤ 1000000) (w : World) :
    Calls Try.prog 59 #[.int .i64 n] w fun e w' => ∃ v, e = .returned v ∧ Own w' w.heap.size v (zl (List.range n)) ∧ Below w.heap.size w w' := by
  go_enter Try.func59, Try.ntmps59
  go_wp2
  go_loopw [3, 4] (fun v i wr => ∃ k : Nat, k ≤ n ∧ i = .int .i64 k ∧ Hid (Own wr w.heap.size v (zl (List.range k)) ∧ Below w.heap.size w wr)) (fun _ i _ => n - (intOf i).toNat)
  case atStart => exact ⟨0, by omega, rfl, Lib.hid ⟨Kd.R_nil _ _ _ _ _, Below.refl _ _⟩⟩
  case round =>
    obtain ⟨k, hk, rfl, H⟩ := hrel
    by_cases hkl : k < n
    · have HO := Aside0.mk H.out.1
      have HB := Aside0.mk H.out.2
      clear H
      have HK := Lib.hid (show zl (List.range (k + 1)) = zl (List.range k) ++ [(k : Int)] by rw [List.range_succ, zl_snoc])
      have HLK := Lib.hid (show (zl (List.range k)).length = k by rw [zl_len]; simp)
      generalize zl (List.range k) = xs at *
      go_wp2_with (first | (at_builtin; refine Kd.R_append (Kd.int .i64) (w0 := w) w.heap.size rfl (.tmp 10) (.tmp 12) 22 3 (.int .i64 0) 8 rfl Try.underlying22 info_int rfl (by decide) (by omega) u3 xs (k : Int) [.int .i64 k] (fun _ => True) (fun _ => False) rfl rfl ?aP (fun _ hk => hk.elim) ?aF ?aO ?aB ?aS ?aL ?_; (case aP => exact rfl); (case aB => exact HB.out); (case aF => exact (fun _ _ => trivial)); (case aO => exact HO.out); (case aS => exact below_size HB.out); (case aL => have := HLK.out; omega); intro v1 w1 ho hb hg hat; have HO1 := Aside0.mk ho; have HB1 := Aside0.mk hb; clear ho hb hg hat))
      go_roundw
      case rel => exact ⟨k + 1, by omega, by go_num, Lib.hid ⟨by rw [HK.out]; exact HO1.out, HB1.out⟩⟩
      case measure => simp [intOf]; omega
    · have : k = n := by omega
      subst this
      go_wp2
      go_ret
      exact ⟨_, rfl, H.out.1, H.out.2⟩
set_option maxRecDepth 100000 in
set_option maxHeartbeats 800000 in
theorem then_any (A : Option Addr) (c : Nat) (l : List Nat) (B : Option Addr) (d : Nat) (m : List Nat) (hn : l.length ≤ 1000000) (hlt : ∀ i, i < l.length → l.getD i 0 < m.length) (w : World)
    (hA : Kd.C (Kd.int .i64) w A l.length (zl l)) (hB : Kd.C (Kd.int .i64) w B m.length (zl m)) :
    Calls Try.prog 60 #[.slice A l.length c, .slice B m.length d] w fun e w' => ∃ v, e = .returned v ∧ Own w' w.heap.size v (zl (l.map (fun x => m.getD x 0))) ∧ Below w.heap.size w w' := by
  have HA := Aside0.mk hA
  have HBB := Aside0.mk hB
  have HI := Lib.hid hlt
  clear hA hB hlt
  go_enter Try.func60, Try.ntmps60
  go_wp2
  go_loopw [5, 6] (fun v i wr => ∃ k : Nat, k ≤ l.length ∧ i = .int .i64 k ∧ Hid (Own wr w.heap.size v (zl ((l.take k).map (fun x => m.getD x 0))) ∧ Below w.heap.size w wr)) (fun _ i _ => l.length - (intOf i).toNat)
  case atStart => exact ⟨0, by omega, rfl, Lib.hid ⟨Kd.R_nil _ _ _ _ _, Below.refl _ _⟩⟩
  case round =>
    obtain ⟨k, hk, rfl, H⟩ := hrel
    by_cases hkl : k < l.length
    · have HO := Aside0.mk H.out.1
      have HB := Aside0.mk H.out.2
      have hx := HI.out k hkl
      obtain ⟨ad, rfl, hc1⟩ := Kd.at_int (Kd.C_below HA.out H.out.2) k (by omega) (by omega)
      obtain ⟨bd, rfl, hc2⟩ := Kd.at_int (Kd.C_below HBB.out H.out.2) ((l.getD k 0 : Nat) : Int) (by omega) (by omega)
      rw [Int.toNat_natCast, zl_rd] at hc1 hc2
      clear H
      have HK := Lib.hid (show zl ((l.take (k + 1)).map (fun x => m.getD x 0)) = zl ((l.take k).map (fun x => m.getD x 0)) ++ [((m.getD (l.getD k 0) 0 : Nat) : Int)] by
        rw [List.take_succ_eq_append_getElem hkl, List.map_append, List.map_singleton, zl_snoc]
        simp [List.getD_eq_getElem?_getD, List.getElem?_eq_getElem hkl])
      have HLK := Lib.hid (show (zl ((l.take k).map (fun x => m.getD x 0))).length = k by rw [zl_len]; simp; omega)
      generalize zl ((l.take k).map (fun x => m.getD x 0)) = xs at *
      generalize m.getD (l.getD k 0) 0 = y at *
      generalize l.getD k 0 = x at *
      go_wp2_with (first | (at_builtin; refine Kd.R_append (Kd.int .i64) (w0 := w) w.heap.size rfl (.tmp 13) (.tmp 21) 22 3 (.int .i64 0) 8 rfl Try.underlying22 info_int rfl (by decide) (by omega) u5 xs (y : Int) [.int .i64 y] (fun _ => True) (fun _ => False) rfl rfl ?aP (fun _ hk => hk.elim) ?aF ?aO ?aB ?aS ?aL ?_; (case aP => exact rfl); (case aB => exact HB.out); (case aF => exact (fun _ _ => trivial)); (case aO => exact HO.out); (case aS => exact below_size HB.out); (case aL => have := HLK.out; omega); intro v1 w1 ho hb hg hat; have HO1 := Aside0.mk ho; have HB1 := Aside0.mk hb; clear ho hb hg hat))
      go_roundw
      case rel => exact ⟨k + 1, by omega, by go_num, Lib.hid ⟨by rw [HK.out]; exact HO1.out, HB1.out⟩⟩
      case measure => simp [intOf]; omega
    · have : k = l.length := by omega
      subst this
      rw [List.take_length] at H
      go_wp2
      go_ret
      exact ⟨_, rfl, H.out.1, H.out.2⟩
end Go.Proofs.Ytpebnldoimoahaa

namespace Go.Proofs.Ytpebnldoimoahaa
open Go.RowKit Go.Proofs.YtpebnldoimoahaaW.PrintWords
/-- What the reference's List answers: the images, if it is one. -/
def lsT (b : Bool) (n : Nat) (ws : List Nat) : List Nat := if b then imk n ws else []
def RlistR (n : Int) (ws : List Nat) (w : World) (e : Ending) (w' : World) : Prop :=
  ∃ v, e = .returned (.tuple #[v, .int .i64 (chkE (goodT n ws))]) ∧ Own w' w.heap.size v (zl (lsT (goodT n ws) n.toNat ws)) ∧ Below w.heap.size w w'
set_option maxRecDepth 100000 in
set_option maxHeartbeats 800000 in
theorem rlist_any (n : Int) (ws : List Nat) (hl : ws.length = 7) (hw : Hid (∀ i, ws.getD i 0 < 18446744073709551616)) (w : World) :
    Calls Try.prog 46 #[.agg (tvv n ws)] w (RlistR n ws w) := by
  have HL := Lib.hid hl; clear hl
  go_enter Try.func46, Try.ntmps46
  go_wp2_with (refine ld_tr w.heap.size HL.out (hp_new rfl) rfl _ rfl rfl ?_)
  refine (rcheck_any n ws HL.out hw _).mono ?_
  rintro e w1 ⟨rfl, hb⟩
  have HT := Lib.hid (hp_below' hb (hp_new (w := w) (o := .cells (tvv n ws) 26) rfl))
  have HB := Lib.hid (bl_trans (bl_alloc (Below.refl _ w) (.cells (tvv n ws) 26)) (by simp) hb)
  clear hb
  generalize hgb : goodT n ws = b at *
  have HGB := Lib.hid hgb; clear hgb
  cases b with
  | false =>
    go_wp2_with fail
    go_ret2
    exact ⟨_, by rw [HGB.out]; rfl, by rw [HGB.out]; exact Kd.R_nil _ _ _ _ _, HB.out⟩
  | true =>
    obtain ⟨hn1, hn64, _, _⟩ := goodT_spec HGB.out
    obtain ⟨m, rfl⟩ := Int.eq_ofNat_of_zero_le (show 0 ≤ n by omega)
    have hm64 : m ≤ 64 := by omega
    clear hn1 hn64
    go_wp2_with (refine ld_tr w.heap.size HL.out HT.out rfl _ rfl rfl ?_)
    refine (images_any m ws hm64 HL.out hw _).mono ?_
    rintro e w2 ⟨v, rfl, ho, hb⟩
    have HO := Aside0.mk ho
    have HB2 := Lib.hid (bl_then HB.out hb)
    have HS := Lib.hid HB.out.size
    clear ho hb
    go_wp2_with fail
    go_ret2
    exact ⟨_, by rw [HGB.out]; rfl, by rw [HGB.out]; exact Kd.R_lower HO.out HS.out, HB2.out⟩
/-- Packed, the length by another name. -/
theorem packed_at (A : Option Addr) (c : Nat) (l : List Nat) (k : Nat) (hk : l.length = k) (w : World) (hr : Kd.C (Kd.int .i64) w A k (zl l)) (hn : k ≤ 64) (hlt : ∀ i, l.getD i 0 < 64) :
    Calls Try.prog 54 #[.slice A k c] w fun e w' => e = .returned (.agg (tvv k (pks l k))) ∧ Below w.heap.size w w' := by
  subst hk
  exact packed_any A c l w (by rw [zl_len]; exact hr) hn hlt
theorem rangek_lt (n : Nat) (hn : n ≤ 64) (i : Nat) : (List.range n).getD i 0 < 64 := by
  by_cases h : i < n <;> simp [h]; omega
/-- A list of the call's own, told by its length. -/
theorem own_slice {w : World} {base : Nat} {v : Value} {l : List Nat} (k : Nat) (hk : l.length = k) (h : Own w base v (zl l)) : ∃ A c, v = .slice A k c ∧ k ≤ c ∧ Kd.C (Kd.int .i64) w A k (zl l) := by
  obtain ⟨A, c, h1, h2, h3⟩ := Kd.R_reads h
  rw [zl_len, hk] at *
  exact ⟨A, c, h1, h2, h3⟩
set_option maxRecDepth 100000 in
set_option maxHeartbeats 800000 in
theorem rident_any (n : Int) (w : World) :
    Calls Try.prog 27 #[.int .i64 n] w fun e w' => e = .returned (.tuple #[.agg (tvv (idT n).1 (idT n).2.1), .int .i64 (idT n).2.2]) ∧ Below w.heap.size w w' := by
  by_cases hs : n < 1 ∨ 64 < n
  · have HE : Hid (idT n = (0, List.replicate 7 0, 6)) := Lib.hid (if_pos hs)
    have hd : (decide (n < 1) || decide (64 < n)) = true := by simp; omega
    clear hs
    go_enter Try.func27, Try.ntmps27
    go_wp2_with (refine st_tr w.heap.size (n := 0) (l := List.replicate 7 0) (by simp) (hp_new rfl) rfl rfl _ _ rfl rfl rfl ?_)
    all_goals
      refine bodyPost_ret (v := .tuple #[.agg (tvv 0 (List.replicate 7 0)), .int .i64 6]) ?_ rfl ⟨by rw [HE.out], bl_row (bl_alloc (Below.refl _ _) _) (by omega) _⟩
      refine (results_cell_tmp (p := 2) (t := 3) (by rfl) _ _ w.heap.size 26 _ _ _ ?_ (setRow_heap _ _ _ _ _ _ (hp_new rfl)) Try.underlying26 rfl (tr_z _ _ (by simp))).trans ?_ <;> rfl
  · have h1 : 1 ≤ n := by omega
    have h2 : n ≤ 64 := by omega
    obtain ⟨m, rfl⟩ := Int.eq_ofNat_of_zero_le (show 0 ≤ n by omega)
    have hm64 : m ≤ 64 := by omega
    have HE : Hid (idT m = ((m : Int), pks (List.range m) m, 0)) := Lib.hid (by
      unfold idT
      rw [if_neg hs, Int.toNat_natCast, pks_ext (List.range 64) (List.range m) m (fun i hi => by simp [hi, show i < 64 by omega])])
    clear hs
    go_enter Try.func27, Try.ntmps27
    go_wp2_with fail
    refine (rest_any m (by omega) _).mono ?_
    rintro e w1 ⟨v, rfl, ho, hb⟩
    obtain ⟨A, c, rfl, hlc, hC⟩ := own_slice m (by simp) ho
    have HT := Lib.hid (hp_below' hb (hp_new (w := w) rfl))
    have HB := Lib.hid (bl_then (bl_alloc (Below.refl _ w) _) hb)
    have HC := Aside0.mk hC
    clear ho hb hC
    go_wp2_with fail
    refine (packed_at A c (List.range m) m (by simp) _ HC.out hm64 (rangek_lt m hm64)).mono ?_
    rintro e w2 ⟨rfl, hb⟩
    have HT2 := Lib.hid (hp_below' hb HT.out)
    have HB2 := Lib.hid (bl_then HB.out hb)
    clear hb HT HB HC
    go_wp2_with (refine st_tr w.heap.size (pks_len _ _) HT2.out rfl rfl _ _ rfl rfl rfl ?_)
    refine bodyPost_ret (v := .tuple #[.agg (tvv m (pks (List.range m) m)), .int .i64 0]) ?_ rfl ⟨by rw [HE.out], bl_row HB2.out (by omega) _⟩
    refine (results_cell_tmp (p := 2) (t := 3) (by rfl) _ _ w.heap.size 26 _ _ _ ?_ (setRow_heap _ _ _ _ _ _ HT2.out) Try.underlying26 rfl (tr_z _ _ (pks_len _ _))).trans ?_ <;> rfl
end Go.Proofs.Ytpebnldoimoahaa

namespace Go.Proofs.Ytpebnldoimoahaa
open Go.RowKit Go.Proofs.YtpebnldoimoahaaW.PrintWords
set_option linter.unusedSimpArgs false
theorem imk_getD (k : Nat) (ws : List Nat) (i : Nat) (h : i < k) : (imk k ws).getD i 0 = im ws i := by simp [imk, List.getD_eq_getElem?_getD, h]
theorem imk_lt (k : Nat) (ws : List Nat) (i : Nat) : (imk k ws).getD i 0 < 64 := by
  by_cases h : i < k
  · rw [imk_getD _ _ _ h]; exact im_lt _ _
  · rw [List.getD_eq_getElem?_getD, List.getElem?_eq_none (by simp [imk]; omega)]; decide
/-- First l, then m. -/
def thn (l m : List Nat) : List Nat := l.map fun x => m.getD x 0
theorem thn_len (l m : List Nat) : (thn l m).length = l.length := by simp [thn]
theorem thn_getD (l m : List Nat) (i : Nat) (h : i < l.length) : (thn l m).getD i 0 = m.getD (l.getD i 0) 0 := by
  simp [thn, List.getD_eq_getElem?_getD, List.getElem?_eq_getElem h]
theorem thn_lt {l m : List Nat} (hm : ∀ i, m.getD i 0 < 64) (i : Nat) : (thn l m).getD i 0 < 64 := by
  by_cases h : i < l.length
  · rw [thn_getD _ _ _ h]; exact hm _
  · rw [List.getD_eq_getElem?_getD, List.getElem?_eq_none (by rw [thn_len]; omega)]; decide
/-- then, the lengths by other names. -/
theorem then_at (A : Option Addr) (c : Nat) (l : List Nat) (B : Option Addr) (d : Nat) (m : List Nat) (k j : Nat) (hk : l.length = k) (hj : m.length = j) (hn : k ≤ 1000000) (hlt : ∀ i, i < k → l.getD i 0 < j) (w : World)
    (hA : Kd.C (Kd.int .i64) w A k (zl l)) (hB : Kd.C (Kd.int .i64) w B j (zl m)) :
    Calls Try.prog 60 #[.slice A k c, .slice B j d] w fun e w' => ∃ v, e = .returned v ∧ Own w' w.heap.size v (zl (thn l m)) ∧ Below w.heap.size w w' := by
  subst hk hj
  exact then_any A c l B d m hn hlt w hA hB
theorem imk_len' (k : Nat) (ws : List Nat) : (imk k ws).length = k := imk_len k ws
/-- The product by lists is the product by images. -/
theorem thn_bhd {k : Nat} {ws vs : List Nat} (hk : k ≤ 64) (h : ∀ i, i < k → im ws i < k) : pks (thn (imk k ws) (imk k vs)) k = pks (bhd k (ims k ws) (ims k vs)) k :=
  pks_ext _ _ _ fun i hi => by
    have h1 : i < 64 := by omega
    have h2 := h i hi
    rw [thn_getD _ _ _ (by rw [imk_len]; exact hi), imk_getD _ _ _ hi, imk_getD _ _ _ h2]
    simp only [bhd, List.getD_eq_getElem?_getD, List.getElem?_map, List.getElem?_range h1, Option.map_some, Option.getD_some, if_pos hi]
    rw [← List.getD_eq_getElem?_getD, ← List.getD_eq_getElem?_getD, ims_getD k ws i, if_pos ⟨hi, h1⟩, ims_getD, if_pos ⟨h2, by omega⟩]
set_option maxRecDepth 100000 in
set_option maxHeartbeats 2000000 in
theorem rcompose_any (n : Int) (ws : List Nat) (m : Int) (vs : List Nat) (hl : ws.length = 7) (hw : Hid (∀ i, ws.getD i 0 < 18446744073709551616)) (kl : vs.length = 7) (kw : Hid (∀ i, vs.getD i 0 < 18446744073709551616)) (w : World) :
    Calls Try.prog 28 #[.agg (tvv n ws), .agg (tvv m vs)] w fun e w' => e = .returned (.tuple #[.agg (tvv (cmpT n ws m vs).1 (cmpT n ws m vs).2.1), .int .i64 (cmpT n ws m vs).2.2]) ∧ Below w.heap.size w w' := by
  have HL := Lib.hid hl; have KL := Lib.hid kl; clear hl kl
  have HZ := Lib.hid (tvv_zero n ws)
  have KZ := Lib.hid (tvv_zero m vs)
  go_enter Try.func28, Try.ntmps28
  go_wp2_with (refine ld_tr w.heap.size HL.out (hp_old (hp_old (hp_new rfl))) rfl _ rfl rfl ?_)
  refine (rcheck_any n ws HL.out hw _).mono ?_
  rintro e w1 ⟨rfl, hb⟩
  have A1 := Lib.hid (hp_below' hb (hp_old (hp_old (hp_new (w := w) (o := .cells (tvv n ws) 26) rfl))))
  have A2 := Lib.hid (hp_below' hb (hp_old (hp_new (w := w.alloc (.cells (tvv n ws) 26)) (o := .cells (tvv m vs) 26) rfl)))
  have A3 := Lib.hid (hp_below' hb (hp_new (w := (w.alloc (.cells (tvv n ws) 26)).alloc (.cells (tvv m vs) 26)) rfl))
  have HW := Lib.hid (bl_then (bl_alloc (bl_alloc (bl_alloc (Below.refl _ w) _) _) _) hb)
  rw [World.size_alloc] at A2
  rw [World.size_alloc, World.size_alloc] at A3
  clear hb
  generalize hb1 : goodT n ws = b1 at *
  have HB1 := Lib.hid hb1
  clear hb1
  cases b1 with
  | false =>
    have HX : Hid (cmpT n ws m vs = (0, List.replicate 7 0, 130)) := Lib.hid (by unfold cmpT; rw [HB1.out]; rfl)
    go_wp2_with (refine st_tr (w.heap.size + 1 + 1) (n := 0) (l := List.replicate 7 0) (by simp) A3.out rfl rfl _ _ rfl rfl rfl ?_)
    refine bodyPost_ret (v := .tuple #[.agg (tvv 0 (List.replicate 7 0)), .int .i64 130]) ?_ rfl ⟨by rw [HX.out], bl_row HW.out (by omega) _⟩
    refine (results_cell_tmp (p := 4) (t := 5) (by rfl) _ _ (w.heap.size + 1 + 1) 26 _ _ _ ?_ (setRow_heap _ _ _ _ _ _ A3.out) Try.underlying26 rfl (tr_z _ _ (by simp))).trans ?_ <;> rfl
  | true =>
    go_wp2_with (refine ld_tr (w.heap.size + 1) KL.out A2.out rfl _ rfl rfl ?_)
    refine (rcheck_any m vs KL.out kw _).mono ?_
    rintro e w2 ⟨rfl, hb⟩
    have B1 := Lib.hid (hp_below' hb A1.out)
    have B2 := Lib.hid (hp_below' hb A2.out)
    have B3 := Lib.hid (hp_below' hb A3.out)
    have HW2 := Lib.hid (bl_then HW.out hb)
    clear hb A1 A2 A3 HW
    have D1 : w2.cell? ⟨w.heap.size, 0, none⟩ = some (.int .i64 n) := by rw [cell_of_row _ _ _ _ _ _ B1.out, HZ.out]
    have D2 : w2.cell? ⟨w.heap.size + 1, 0, none⟩ = some (.int .i64 m) := by rw [cell_of_row _ _ _ _ _ _ B2.out, KZ.out]
    generalize hb2 : goodT m vs = b2 at *
    have HB2 := Lib.hid hb2
    clear hb2
    cases b2 with
    | false =>
      have HX : Hid (cmpT n ws m vs = (0, List.replicate 7 0, 130)) := Lib.hid (by unfold cmpT; rw [HB1.out, HB2.out]; rfl)
      go_wp2_with (refine st_tr (w.heap.size + 1 + 1) (n := 0) (l := List.replicate 7 0) (by simp) B3.out rfl rfl _ _ rfl rfl rfl ?_)
      refine bodyPost_ret (v := .tuple #[.agg (tvv 0 (List.replicate 7 0)), .int .i64 130]) ?_ rfl ⟨by rw [HX.out], bl_row HW2.out (by omega) _⟩
      refine (results_cell_tmp (p := 4) (t := 5) (by rfl) _ _ (w.heap.size + 1 + 1) 26 _ _ _ ?_ (setRow_heap _ _ _ _ _ _ B3.out) Try.underlying26 rfl (tr_z _ _ (by simp))).trans ?_ <;> rfl
    | true =>
      by_cases hnm : n = m
      · subst hnm
        obtain ⟨hn1, hn64, hin, _⟩ := goodT_spec HB1.out
        obtain ⟨hn1', hn64', hin', _⟩ := goodT_spec HB2.out
        obtain ⟨k, rfl⟩ := Int.eq_ofNat_of_zero_le (show 0 ≤ n by omega)
        have hk : k ≤ 64 := by omega
        rw [Int.toNat_natCast] at hin hin'
        have HX : Hid (cmpT k ws k vs = ((k : Int), pks (thn (imk k ws) (imk k vs)) k, 0)) := Lib.hid (by
          unfold cmpT; rw [HB1.out, HB2.out, if_pos (show (true && true) = true from rfl), if_pos rfl, Int.toNat_natCast, thn_bhd hk hin])
        have HI := Lib.hid hin
        have hne : ((k : Int) != (k : Int)) = false := by simp
        clear hn1 hn64 hn1' hn64' hin hin'
        go_wp2_with fail
        refine wp_region_held_drew (S := fun w' => w'.heap[w.heap.size]? = some (.cells (tvv k ws) 26 (0, 0)) ∧ w'.heap[w.heap.size + 1]? = some (.cells (tvv k vs) 26 (0, 0)) ∧ (∃ c, w'.heap[w.heap.size + 1 + 1]? = some (.cells c 26 (0, 0)) ∧ c.size = 8) ∧ Below w.heap.size w w') (by kernel_rfl) ⟨B1.out, B2.out, ⟨_, B3.out, rfl⟩, HW2.out.drew⟩ (fun hS => ?_)
        have keep : ∀ {u v : World}, Below u.heap.size u v → (u.heap[w.heap.size]? = some (.cells (tvv k ws) 26 (0, 0)) ∧ u.heap[w.heap.size + 1]? = some (.cells (tvv k vs) 26 (0, 0)) ∧ (∃ c, u.heap[w.heap.size + 1 + 1]? = some (.cells c 26 (0, 0)) ∧ c.size = 8) ∧ Below w.heap.size w u) → (v.heap[w.heap.size]? = some (.cells (tvv k ws) 26 (0, 0)) ∧ v.heap[w.heap.size + 1]? = some (.cells (tvv k vs) 26 (0, 0)) ∧ (∃ c, v.heap[w.heap.size + 1 + 1]? = some (.cells c 26 (0, 0)) ∧ c.size = 8) ∧ Below w.heap.size w v) :=
          fun hb ⟨h1, h2, ⟨c, h3, h3'⟩, h4⟩ => ⟨hp_below' hb h1, hp_below' hb h2, ⟨c, hp_below' hb h3, h3'⟩, bl_then h4 hb⟩
        refine any_take (i := 0) rfl (by kernel_rfl) (by kernel_rfl) (by kernel_rfl) (fun _ _ _ h => h) hS (yi_row _ _ rfl (by rfl) (w.heap.size) rfl (tvv k ws) _ Try.underlying26 rfl (tr_z _ _ HL.out) (fun w' h' => ⟨_, _, h'.1⟩)) ?_
        (try simp only [Act.put, List.setIfInBounds_toArray, List.set_cons_zero, List.set_cons_succ])
        refine any_take (i := 2) rfl (by kernel_rfl) (by kernel_rfl) (by kernel_rfl) (fun _ _ _ h => h) hS (yi_row _ _ rfl (by rfl) (w.heap.size + 1) rfl (tvv k vs) _ Try.underlying26 rfl (tr_z _ _ KL.out) (fun w' h' => ⟨_, _, h'.2.1⟩)) ?_
        (try simp only [Act.put, List.setIfInBounds_toArray, List.set_cons_zero, List.set_cons_succ])
        refine any_call (i := 1) rfl (by kernel_rfl) (by rfl) 56 #[.agg (tvv k ws)] ?x3 (images_any k ws hk HL.out hw _) ?_
        case x3 => (simp [go_sem])
        (try simp only [Act.put, List.setIfInBounds_toArray, List.set_cons_zero, List.set_cons_succ])
        rintro e w3 ⟨v3, rfl, ho3, hb3⟩
        obtain ⟨X, xc, rfl, _, hX⟩ := own_slice k (imk_len _ _) ho3
        have hS3 := keep hb3 hS
        refine ⟨_, rfl, hS3, ?_⟩
        (try simp only [Act.put, List.setIfInBounds_toArray, List.set_cons_zero, List.set_cons_succ])
        refine any_call (i := 3) rfl (by kernel_rfl) (by rfl) 56 #[.agg (tvv k vs)] ?x6 (images_any k vs hk KL.out kw _) ?_
        case x6 => (simp [go_sem])
        (try simp only [Act.put, List.setIfInBounds_toArray, List.set_cons_zero, List.set_cons_succ])
        rintro e w4 ⟨v4, rfl, ho4, hb4⟩
        obtain ⟨Y, yc, rfl, _, hY⟩ := own_slice k (imk_len _ _) ho4
        have hX4 := Kd.C_below hX hb4
        have hS4 := keep hb4 hS3
        refine ⟨_, rfl, hS4, ?_⟩
        (try simp only [Act.put, List.setIfInBounds_toArray, List.set_cons_zero, List.set_cons_succ])
        refine any_call (i := 4) rfl (by kernel_rfl) (by rfl) 60 #[.slice X k xc, .slice Y k yc] ?x9 (then_at X xc (imk k ws) Y yc (imk k vs) k k (imk_len _ _) (imk_len _ _) (by omega) (fun i hi => by rw [imk_getD _ _ _ hi]; exact HI.out i hi) _ hX4 hY) ?_
        case x9 => (simp [go_sem])
        (try simp only [Act.put, List.setIfInBounds_toArray, List.set_cons_zero, List.set_cons_succ])
        rintro e w5 ⟨v5, rfl, ho5, hb5⟩
        obtain ⟨Z, zc, rfl, _, hZ⟩ := own_slice k (by rw [thn_len, imk_len]) ho5
        have hS5 := keep hb5 hS4
        refine ⟨_, rfl, hS5, ?_⟩
        (try simp only [Act.put, List.setIfInBounds_toArray, List.set_cons_zero, List.set_cons_succ])
        refine any_call (i := 5) rfl (by kernel_rfl) (by rfl) 54 #[.slice Z k zc] ?x12 (packed_at Z zc (thn (imk k ws) (imk k vs)) k (by rw [thn_len, imk_len]) _ hZ hk (thn_lt (imk_lt _ _))) ?_
        case x12 => (simp [go_sem])
        (try simp only [Act.put, List.setIfInBounds_toArray, List.set_cons_zero, List.set_cons_succ])
        rintro e w6 ⟨rfl, hb6⟩
        have hS6 := keep hb6 hS5
        refine ⟨_, rfl, hS6, ?_⟩
        (try simp only [Act.put, List.setIfInBounds_toArray, List.set_cons_zero, List.set_cons_succ])
        generalize pks (thn (imk k ws) (imk k vs)) k = ps at *
        have hps : ps.length = 7 := by have := cmpT_len k ws k vs; rw [HX.out] at this; exact this
        obtain ⟨q1, q2, ⟨c, q3, q3'⟩, q4⟩ := hS6
        have hS7 : (w6.setRow (w.heap.size + 1 + 1) (tvv k ps)).heap[w.heap.size]? = some (.cells (tvv k ws) 26 (0, 0)) ∧ (w6.setRow (w.heap.size + 1 + 1) (tvv k ps)).heap[w.heap.size + 1]? = some (.cells (tvv k vs) 26 (0, 0)) ∧ (∃ c, (w6.setRow (w.heap.size + 1 + 1) (tvv k ps)).heap[w.heap.size + 1 + 1]? = some (.cells c 26 (0, 0)) ∧ c.size = 8) ∧ Below w.heap.size w (w6.setRow (w.heap.size + 1 + 1) (tvv k ps)) :=
          ⟨hp_row (by omega) q1, hp_row (by omega) q2, ⟨_, setRow_heap _ _ _ _ _ _ q3, by rw [tvv_size, hps]⟩, bl_row q4 (by omega) _⟩
        refine any_row (i := 6) rfl (by kernel_rfl) (by rfl) _ _ _ rfl (w.heap.size + 1 + 1) (tvv k ps) rfl rfl 26 _ q3 (tr_z _ _ hps) (by rw [tvv_size, hps, q3']) (tvv_one _ _) hS7 ?_
        (try simp only [Act.put, List.setIfInBounds_toArray, List.set_cons_zero, List.set_cons_succ])
        refine any_val (i := 7) rfl (by kernel_rfl) (by rfl) hS7 rfl ?_
        (try simp only [Act.put, List.setIfInBounds_toArray, List.set_cons_zero, List.set_cons_succ])
        refine wpAnyH_done (by kernel_rfl) ?_ _
        have HF := Lib.hid hS7.2.2.2
        have HC := Lib.hid q3
        have HPS := Lib.hid hps
        clear hS hS3 hS4 hS5 hS7 hb3 hb4 hb5 hb6 ho3 ho4 ho5 hX hY hZ hX4 q1 q2 q3 q3' q4 hps keep
        go_wp2
        refine bodyPost_ret (v := .tuple #[.agg (tvv k ps), .int .i64 0]) ?_ rfl ⟨by rw [HX.out], HF.out⟩
        refine (results_cell_tmp (p := 4) (t := 5) (by rfl) _ _ (w.heap.size + 1 + 1) 26 _ _ _ ?_ (setRow_heap _ _ _ _ _ _ HC.out) Try.underlying26 rfl (tr_z _ _ HPS.out)).trans ?_ <;> rfl
      · have hne : (n != m) = true := by rw [bne_iff_ne]; exact hnm
        have HX : Hid (cmpT n ws m vs = (0, List.replicate 7 0, 1)) := Lib.hid (by unfold cmpT; rw [HB1.out, HB2.out, if_pos (show (true && true) = true from rfl), if_neg hnm])
        clear hnm
        go_wp2_with (refine st_tr (w.heap.size + 1 + 1) (n := 0) (l := List.replicate 7 0) (by simp) B3.out rfl rfl _ _ rfl rfl rfl ?_)
        refine bodyPost_ret (v := .tuple #[.agg (tvv 0 (List.replicate 7 0)), .int .i64 1]) ?_ rfl ⟨by rw [HX.out], bl_row HW2.out (by omega) _⟩
        refine (results_cell_tmp (p := 4) (t := 5) (by rfl) _ _ (w.heap.size + 1 + 1) 26 _ _ _ ?_ (setRow_heap _ _ _ _ _ _ B3.out) Try.underlying26 rfl (tr_z _ _ (by simp))).trans ?_ <;> rfl
end Go.Proofs.Ytpebnldoimoahaa

namespace Go.Proofs.Ytpebnldoimoahaa
open Go.RowKit Go.Proofs.YtpebnldoimoahaaW.PrintWords
set_option linter.unusedSimpArgs false
/-- The reference's loop. -/
def rpl (o l : List Nat) (k : Nat) : List Nat :=
  if _h : k = 0 then o else rpl (if k % 2 = 1 then thn o l else o) (thn l l) (k / 2)
termination_by k
decreasing_by omega
/-- Two lists of images that say the same of n points, each of them within. -/
def Agr (n : Nat) (o O : List Nat) : Prop := o.length = n ∧ O.length = 64 ∧ ∀ i, i < n → o.getD i 0 = O.getD i 0 ∧ o.getD i 0 < n
theorem Agr.thn {n : Nat} {o O l L : List Nat} (hn : n ≤ 64) (h : Agr n o O) (h' : Agr n l L) : Agr n (thn o l) (bhd n O L) :=
  ⟨by rw [thn_len, h.1], bhd_len _ _ _, fun i hi => by
    obtain ⟨h1, h2⟩ := h.2.2 i hi
    obtain ⟨h3, h4⟩ := h'.2.2 _ h2
    rw [thn_getD _ _ _ (by rw [h.1]; exact hi)]
    refine ⟨?_, h4⟩
    have h5 : i < 64 := by omega
    simp only [bhd, List.getD_eq_getElem?_getD, List.getElem?_map, List.getElem?_range h5, Option.map_some, Option.getD_some, if_pos hi]
    rw [← List.getD_eq_getElem?_getD, ← List.getD_eq_getElem?_getD, ← List.getD_eq_getElem?_getD, ← List.getD_eq_getElem?_getD, h3, h1]⟩
theorem Agr.pow {n : Nat} (hn : n ≤ 64) : ∀ (k : Nat) {o O l L : List Nat}, Agr n o O → Agr n l L → Agr n (rpl o l k) (pwl n O L k) := by
  intro k
  induction k using Nat.strongRecOn with
  | ind k ih =>
    intro o O l L h h'
    rw [rpl, pwl]
    by_cases hk : k = 0
    · rw [dif_pos hk, dif_pos hk]; exact h
    · rw [dif_neg hk, dif_neg hk]
      refine ih _ (by omega) ?_ (h'.thn hn h')
      split
      · exact h.thn hn h'
      · exact h
theorem Agr.pks {n : Nat} {o O : List Nat} (h : Agr n o O) : pks o n = pks O n := pks_ext _ _ _ fun i hi => (h.2.2 i hi).1
theorem agr_imk {n : Nat} {ws : List Nat} (hn : n ≤ 64) (h : ∀ i, i < n → im ws i < n) : Agr n (imk n ws) (ims n ws) :=
  ⟨imk_len _ _, ims_len _ _, fun i hi => by rw [imk_getD _ _ _ hi, ims_getD, if_pos ⟨hi, by omega⟩]; exact ⟨rfl, h i hi⟩⟩
theorem agr_range {n : Nat} (hn : n ≤ 64) : Agr n (List.range n) (List.range 64) :=
  ⟨by simp, by simp, fun i hi => by simp [hi, show i < 64 by omega]⟩
theorem mod_in (j : Nat) : decide (((j : Int) % 2) = 1) = decide (j % 2 = 1) := by
  congr 1; apply propext; omega
/-- A loop's state of the reference's Power. -/
def Rw (w wr : World) (n : Nat) (ws : List Nat) : Prop :=
  wr.heap[w.heap.size]? = some (.cells (tvv n ws) 26 (0, 0)) ∧ (∃ c, wr.heap[w.heap.size + 1]? = some (.cells c 26 (0, 0)) ∧ c.size = 8) ∧ Below w.heap.size w wr
theorem Rw.keep {w u v : World} {n : Nat} {ws : List Nat} (h : Rw w u n ws) (hb : Below u.heap.size u v) : Rw w v n ws :=
  ⟨hp_below' hb h.1, by obtain ⟨c, h1, h2⟩ := h.2.1; exact ⟨c, hp_below' hb h1, h2⟩, bl_then h.2.2 hb⟩
set_option maxRecDepth 100000 in
set_option maxHeartbeats 2000000 in
theorem rpower_any (n : Int) (ws : List Nat) (k : Nat) (hl : ws.length = 7) (hw : Hid (∀ i, ws.getD i 0 < 18446744073709551616)) (hk : Hid (k < 18446744073709551616)) (w : World) :
    Calls Try.prog 29 #[.agg (tvv n ws), .int .u64 k] w fun e w' => e = .returned (.tuple #[.agg (tvv (powT n ws k).1 (powT n ws k).2.1), .int .i64 (powT n ws k).2.2]) ∧ Below w.heap.size w w' := by
  have HL := Lib.hid hl; clear hl
  go_enter Try.func29, Try.ntmps29
  go_wp2_with (refine ld_tr w.heap.size HL.out (hp_old (hp_new rfl)) rfl _ rfl rfl ?_)
  refine (rlist_any n ws HL.out hw _).mono ?_
  rintro e w1 ⟨v, rfl, ho, hb⟩
  have A1 := Lib.hid (hp_below' hb (hp_old (hp_new (w := w) (o := .cells (tvv n ws) 26) rfl)))
  have A2 := Lib.hid (hp_below' hb (hp_new (w := w.alloc (.cells (tvv n ws) 26)) rfl))
  have HW := Lib.hid (bl_then (bl_alloc (bl_alloc (Below.refl _ w) _) _) hb)
  rw [World.size_alloc] at A2
  have HO := Aside0.mk ho
  clear hb ho
  generalize hb1 : goodT n ws = b1 at *
  have HB1 := Lib.hid hb1
  clear hb1
  cases b1 with
  | false =>
    have HX : Hid (powT n ws k = (0, List.replicate 7 0, 130)) := Lib.hid (by unfold powT; rw [HB1.out]; rfl)
    go_wp2_with (refine st_tr (w.heap.size + 1) (n := 0) (l := List.replicate 7 0) (by simp) A2.out rfl rfl _ _ rfl rfl rfl ?_)
    refine bodyPost_ret (v := .tuple #[.agg (tvv 0 (List.replicate 7 0)), .int .i64 130]) ?_ rfl ⟨by rw [HX.out], bl_row HW.out (by omega) _⟩
    refine (results_cell_tmp (p := 4) (t := 5) (by rfl) _ _ (w.heap.size + 1) 26 _ _ _ ?_ (setRow_heap _ _ _ _ _ _ A2.out) Try.underlying26 rfl (tr_z _ _ (by simp))).trans ?_ <;> rfl
  | true =>
    obtain ⟨hn1, hn64, hin, _⟩ := goodT_spec HB1.out
    obtain ⟨m, rfl⟩ := Int.eq_ofNat_of_zero_le (show 0 ≤ n by omega)
    rw [Int.toNat_natCast] at *
    have hm : m ≤ 64 := by omega
    have HX : Hid (powT m ws k = ((m : Int), pks (rpl (List.range m) (imk m ws) k) m, 0)) := Lib.hid (by
      unfold powT; rw [HB1.out, if_pos rfl, Int.toNat_natCast, (Agr.pow hm k (agr_range hm) (agr_imk hm hin)).pks])
    have HAG := Lib.hid (agr_imk hm hin)
    clear hn1 hn64 hin
    obtain ⟨A, c, rfl, _, hC⟩ := own_slice m (l := imk m ws) (imk_len _ _) HO.out
    have HC := Aside0.mk hC
    clear hC HO
    go_wp2_with fail
    refine (rest_any m (by omega) _).mono ?_
    rintro e w2 ⟨v, rfl, ho, hb⟩
    obtain ⟨B, d, rfl, _, hD⟩ := own_slice m (l := List.range m) (by simp) ho
    have HR : Hid (Rw w w2 m ws ∧ Kd.C (Kd.int .i64) w2 A m (zl (imk m ws)) ∧ Kd.C (Kd.int .i64) w2 B m (zl (List.range m))) :=
      Lib.hid ⟨(show Rw w w1 m ws from ⟨A1.out, ⟨_, A2.out, rfl⟩, HW.out⟩).keep hb, Kd.C_below HC.out hb, hD⟩
    clear hb ho hD HC A1 A2 HW
    go_wp2_with fail
    go_loopw [1, 6, 8] (fun x l o wr => ∃ j : Nat, x = .int .u64 j ∧ ∃ P p Q q, l = .slice P m p ∧ o = .slice Q m q ∧ Hid (j < 18446744073709551616 ∧ ∃ ol ll OL LL, Agr m ol OL ∧ Agr m ll LL ∧ rpl ol ll j = rpl (List.range m) (imk m ws) k ∧ Rw w wr m ws ∧ Kd.C (Kd.int .i64) wr P m (zl ll) ∧ Kd.C (Kd.int .i64) wr Q m (zl ol))) (fun x _ _ _ => (intOf x).toNat)
    case atStart =>
      exact ⟨k, rfl, A, c, B, d, rfl, rfl, Lib.hid ⟨hk.out, _, _, _, _, agr_range hm, HAG.out, rfl, HR.out.1, HR.out.2.1, HR.out.2.2⟩⟩
    case round =>
      obtain ⟨j, rfl, P, p, Q, q, rfl, rfl, H⟩ := hrel
      obtain ⟨hj, ol, ll, OL, LL, ao, al, hpw, g1, g2, g3⟩ := H.out
      have G1 := Lib.hid g1; have G2 := Aside0.mk g2; have G3 := Aside0.mk g3
      have AO := Lib.hid ao; have AL := Lib.hid al; have HPW := Lib.hid hpw; have HJ := Lib.hid hj
      clear g1 g2 g3 ao al hpw hj H
      have hll : ∀ i, i < m → ll.getD i 0 < m := fun i hi => (AL.out.2.2 i hi).2
      have hol : ∀ i, i < m → ol.getD i 0 < m := fun i hi => (AO.out.2.2 i hi).2
      have HLL := Lib.hid hll; have HOL := Lib.hid hol
      clear hll hol
      by_cases hj0 : j = 0
      · subst hj0
        have HE : Hid (rpl (List.range m) (imk m ws) k = ol) := Lib.hid (by rw [← HPW.out, rpl]; simp)
        have HLT : Hid (∀ i, ol.getD i 0 < 64) := Lib.hid (fun i => by
          by_cases h : i < m
          · have := HOL.out i h; omega
          · rw [List.getD_eq_getElem?_getD, List.getElem?_eq_none (by rw [AO.out.1]; omega)]; decide)
        clear HPW
        go_wp2_with fail
        refine (packed_at Q q ol m AO.out.1 _ G3.out hm HLT.out).mono ?_
        rintro e w3 ⟨rfl, hb⟩
        have K := Lib.hid (G1.out.keep hb)
        obtain ⟨k1, ⟨cc, k2, k2'⟩, k3⟩ := K.out
        have K2 := Lib.hid k2; have K2' := Lib.hid k2'; have K3 := Lib.hid k3
        clear hb k1 k2 k2' k3
        go_wp2_with (refine st_tr (w.heap.size + 1) (pks_len _ _) K2.out K2'.out rfl _ _ rfl rfl rfl ?_)
        refine bodyPost_ret (v := .tuple #[.agg (tvv m (pks ol m)), .int .i64 0]) ?_ rfl ⟨by rw [HX.out, HE.out], bl_row K3.out (by omega) _⟩
        refine (results_cell_tmp (p := 4) (t := 5) (by rfl) _ _ (w.heap.size + 1) 26 _ _ _ ?_ (setRow_heap _ _ _ _ _ _ K2.out) Try.underlying26 rfl (tr_z _ _ (pks_len _ _))).trans ?_ <;> rfl
      · have hjp : 0 < j := by omega
        clear hj0
        have HQ : Hid (j / 2 < 18446744073709551616) := Lib.hid (by have := HJ.out; omega)
        have hm2 : m ≤ 1000000 := by omega
        have hwr : IntKind.u64.wrap ((j : Int) / 2) = ((j / 2 : Nat) : Int) := by
          have := HJ.out
          rw [IntWalk.u64_in _ ⟨by omega, by omega⟩]; rfl
        by_cases hodd : j % 2 = 1
        · have hbit : ((j : Int) % 2 == 1) = true := by rw [beq_iff_eq]; omega
          have HN : Hid (rpl (thn ol ll) (thn ll ll) (j / 2) = rpl (List.range m) (imk m ws) k) := Lib.hid (by
            rw [← HPW.out]
            conv => rhs; rw [rpl]
            rw [dif_neg (by omega), if_pos hodd])
          clear hodd
          go_wp2_with fail
          refine (then_at Q q ol P p ll m m AO.out.1 AL.out.1 hm2 HOL.out _ G3.out G2.out).mono ?_
          rintro e w3 ⟨v, rfl, ho, hb⟩
          obtain ⟨X, x, rfl, _, hX⟩ := own_slice m (by rw [thn_len]; exact AO.out.1) ho
          have K1 := Lib.hid (G1.out.keep hb); have K2 := Aside0.mk (Kd.C_below G2.out hb); have K3 := Aside0.mk hX
          clear hb ho hX
          go_wp2_with fail
          refine (then_at P p ll P p ll m m AL.out.1 AL.out.1 hm2 HLL.out _ K2.out K2.out).mono ?_
          rintro e w4 ⟨v, rfl, ho, hb⟩
          obtain ⟨Y, y, rfl, _, hY⟩ := own_slice m (by rw [thn_len]; exact AL.out.1) ho
          have M1 := Lib.hid (K1.out.keep hb); have M2 := Aside0.mk hY; have M3 := Aside0.mk (Kd.C_below K3.out hb)
          clear hb ho hY
          go_wp2_with fail
          go_roundw
          case rel => exact ⟨j / 2, by go_num, Y, y, X, x, rfl, rfl, Lib.hid ⟨HQ.out, _, _, _, _, AO.out.thn hm AL.out, AL.out.thn hm AL.out, HN.out, M1.out, M2.out, M3.out⟩⟩
          case measure => simp [intOf]; omega
        · have hbit : ((j : Int) % 2 == 1) = false := by rw [beq_eq_false_iff_ne]; omega
          have HN : Hid (rpl ol (thn ll ll) (j / 2) = rpl (List.range m) (imk m ws) k) := Lib.hid (by
            rw [← HPW.out]
            conv => rhs; rw [rpl]
            rw [dif_neg (by omega), if_neg hodd])
          clear hodd
          go_wp2_with fail
          refine (then_at P p ll P p ll m m AL.out.1 AL.out.1 hm2 HLL.out _ G2.out G2.out).mono ?_
          rintro e w4 ⟨v, rfl, ho, hb⟩
          obtain ⟨Y, y, rfl, _, hY⟩ := own_slice m (by rw [thn_len]; exact AL.out.1) ho
          have M1 := Lib.hid (G1.out.keep hb); have M2 := Aside0.mk hY; have M3 := Aside0.mk (Kd.C_below G3.out hb)
          clear hb ho hY
          go_wp2_with fail
          go_roundw
          case rel => exact ⟨j / 2, by go_num, Y, y, Q, q, rfl, rfl, Lib.hid ⟨HQ.out, _, _, _, _, AO.out, AL.out.thn hm AL.out, HN.out, M1.out, M2.out, M3.out⟩⟩
          case measure => simp [intOf]; omega
end Go.Proofs.Ytpebnldoimoahaa

namespace Go.Proofs.Ytpebnldoimoahaa
open Go.RowKit Go.Proofs.YtpebnldoimoahaaW.PrintWords Go.Proofs.YtpebnldoimoahaaW.PrintLast Go.Proofs.YtpebnldoimoahaaW.PrintMore
/-- A lent list: its room reads on with two marks. -/
def LentR (l : List Int) (w : World) (e : Ending) (w' : World) : Prop :=
  ∃ A c, e = .returned (.slice A l.length c) ∧ Own w' w.heap.size (.slice A (l ++ [(-77), (-78)]).length c) (l ++ [(-77), (-78)]) ∧ Below w.heap.size w w'
set_option maxRecDepth 100000 in
set_option maxHeartbeats 4000000 in
theorem lent_any (A0 : Option Addr) (c0 : Nat) (l0 : List Int) (w : World) (hr0 : Kd.C (Kd.int .i64) w A0 l0.length l0) (hlen : l0.length ≤ 17592186043904) :
    Calls Try.prog 14 #[.slice A0 l0.length c0] w (LentR l0 w) := by
  have HR0 := Aside0.mk hr0
  have HLEN := Aside0.mk hlen
  clear hr0 hlen
  have HB := Aside0.mk (Below.refl w.heap.size w)
  obtain ⟨y101, hy101⟩ : ∃ y_ : List Int, y_ = (([] : List Int)) := ⟨_, rfl⟩
  have Ny101 := Aside0.mk hy101
  clear hy101
  obtain ⟨y104, hy104⟩ : ∃ y_ : List Int, y_ = (y101 ++ l0) := ⟨_, rfl⟩
  have Ny104 := Aside0.mk hy104
  clear hy104
  obtain ⟨y107, hy107⟩ : ∃ y_ : List Int, y_ = (([(-77), (-78)] : List Int)) := ⟨_, rfl⟩
  have Ny107 := Aside0.mk hy107
  clear hy107
  obtain ⟨y110, hy110⟩ : ∃ y_ : List Int, y_ = (y104 ++ y107) := ⟨_, rfl⟩
  have Ny110 := Aside0.mk hy110
  clear hy110
  have h104 : y104.length = l0.length := by rw [Ny104.out, Ny101.out]; simp
  have h107 : y107.length = 2 := by rw [Ny107.out]; rfl
  have h101 : y101.length = 0 := by rw [Ny101.out]; rfl
  have h110 : y110.length = l0.length + 2 := by rw [Ny110.out, List.length_append, h104, h107]
  have LM101 := Aside0.mk h101
  have LM104 := Aside0.mk h104
  have LM107 := Aside0.mk h107
  have LM110 := Aside0.mk h110
  have c5b1 : decide ((l0.length : Int) ≤ (y110.length : Int)) = true := decide_eq_true (by omega)
  clear h101 h104 h107 h110
  go_enter Try.func14, Try.ntmps14
  go_wp2_with (first | ((with_reducible refine gate_dst (N := 4) rfl ?_); refine Kd.R_lit (Kd.int .i64) _ 3 ?hg (N := 4) ?hd (xs := ([] : List Int)) (inner := []) (ok := fun _ => True) (okp := fun _ => True) ?hr ?hp (fun _ hk => hk) trivial (Below.refl _ _) (Nat.le_refl _) (by simp) ?_; (case hd => rfl); (case hg => rfl); (case hr => first | (go_simp; done) | (go_simp; rfl)); (case hp => exact (Reps.none _ _)); intro v102 w6 ho7 hb hg_ hnew_; clear hg_ hnew_; (first | rw [← Ny101.out] at ho7 | (simp only [Int.reduceToNat] at ho7; rw [← Ny101.out] at ho7)); have n0_ := Aside0.mk (Kd.R_lower ho7 (below_size (by repeat (first | (with_reducible first | exact HB.out | apply below_alloc | apply pw_below_drewN | apply below_drew1) | exact HB.out)))); have n1_ := Aside0.mk (below_step (by repeat (first | (with_reducible first | exact HB.out | apply below_alloc | apply pw_below_drewN | apply below_drew1) | exact HB.out)) hb); clear HB; have HO103 := n0_; have HB := n1_; clear n0_ n1_; clear hb ho7) | ((with_reducible refine gate_builtin (b := .append) (xs := #[.tmp 4, .tmp 5]) rfl ?_); at_builtin; refine Kd.R_append_rows (Kd.int .i64) (w0 := w) w.heap.size rfl (.tmp 4) (.tmp 5) 22 3 (.int .i64 0) 8 rfl Try.underlying22 info_int rfl (by decide) (by omega) v102 y101 l0 _ _ _ (fun _ => True) (fun _ => False) rfl rfl ?aO ?aR (fun _ _ h => h) (fun _ h => h.elim) ?aF ?aB ?aS ?aL ?_; (case aR => repeat (first | exact (Kd.C_below HR0.out HB.out) | (with_reducible refine Kd.C_alloc ?_ _) | (with_reducible refine Kd.C_drewN ?_ _) | (with_reducible refine Kd.C_drew ?_))); (case aB => exact (by repeat (first | (with_reducible first | exact HB.out | apply below_alloc | apply pw_below_drewN | apply below_drew1) | exact HB.out))); (case aF => exact (fun _ _ => trivial)); (case aO => exact (by (with_reducible repeat (first | apply Kd.R_alloc | apply Kd.R_drewN | apply Kd.R_drew)); exact HO103.out)); (case aS => exact (below_size (by repeat (first | (with_reducible first | exact HB.out | apply below_alloc | apply pw_below_drewN | apply below_drew1) | exact HB.out)))); (case aL => have := HLEN.out; have := LM101.out; omega); intro v105 w8 ho hb hg hat; rw [← Ny104.out] at ho; have n0_ := Aside0.mk (hb); have n1_ := Aside0.mk (ho); clear HB; clear HO103; have HB := n0_; have HO106 := n1_; clear n0_ n1_; clear ho hb hg hat) | ((with_reducible refine gate_dst (N := 8) rfl ?_); refine Kd.R_lit (Kd.int .i64) _ 3 ?hg (N := 8) ?hd (xs := ([(-77), (-78)] : List Int)) (inner := [.int .i64 (-77), .int .i64 (-78)]) (ok := fun _ => True) (okp := fun _ => True) ?hr ?hp (fun _ hk => hk) trivial (Below.refl _ _) (Nat.le_refl _) (by simp) ?_; (case hd => rfl); (case hg => rfl); (case hr => first | (go_simp; done) | (go_simp; rfl)); (case hp => exact (Reps.one (show Kd.M (Kd.int .i64) _ _ _ (-77) [.int .i64 (-77)] from rfl) (Reps.one (show Kd.M (Kd.int .i64) _ _ _ (-78) [.int .i64 (-78)] from rfl) (Reps.none _ _)))); intro v108 w9 ho10 hb hg_ hnew_; clear hg_ hnew_; (first | rw [← Ny107.out] at ho10 | (simp only [Int.reduceToNat] at ho10; rw [← Ny107.out] at ho10)); have n0_ := Aside0.mk (Kd.R_elder' (by (with_reducible repeat (first | apply Kd.R_alloc | apply Kd.R_drewN | apply Kd.R_drew)); exact HO106.out) (Kd.R_base ho10) hb); have n1_ := Aside0.mk (Kd.R_lower (Kd.R_new' ho10 (Kd.R_lt (by (with_reducible repeat (first | apply Kd.R_alloc | apply Kd.R_drewN | apply Kd.R_drew)); exact HO106.out))) (below_size (by repeat (first | (with_reducible first | exact HB.out | apply below_alloc | apply pw_below_drewN | apply below_drew1) | exact HB.out)))); have n2_ := Aside0.mk (below_step (by repeat (first | (with_reducible first | exact HB.out | apply below_alloc | apply pw_below_drewN | apply below_drew1) | exact HB.out)) hb); clear HO106; clear HB; have HO106 := n0_; have HO109 := n1_; have HB := n2_; clear n0_ n1_ n2_; clear hb ho10; obtain ⟨Ao12, co12, eo12⟩ := Kd.R_slice HO109.out; subst eo12) | ((with_reducible refine gate_builtin (b := .append) (xs := #[.tmp 7, .tmp 8]) rfl ?_); at_builtin; refine Kd.R_append_rows (Kd.int .i64) (w0 := w) w.heap.size rfl (.tmp 7) (.tmp 8) 22 3 (.int .i64 0) 8 rfl Try.underlying22 info_int rfl (by decide) (by omega) v105 y104 y107 _ _ _ (fun k_ => some k_ ≠ (.slice Ao12 y107.length co12 : Value).ownBlock) (fun _ => False) rfl rfl ?aO ?aR (fun _ _ h => h) (fun _ h => h.elim) ?aF ?aB ?aS ?aL ?_; (case aR => repeat (first | exact (Kd.R_reads' HO109.out).2.2 | (with_reducible refine Kd.C_alloc ?_ _) | (with_reducible refine Kd.C_drewN ?_ _) | (with_reducible refine Kd.C_drew ?_))); (case aB => exact (by repeat (first | (with_reducible first | exact HB.out | apply below_alloc | apply pw_below_drewN | apply below_drew1) | exact HB.out))); (case aF => exact (fun k_ hk => Kd.fresh' (Kd.R_lt (by (with_reducible repeat (first | apply Kd.R_alloc | apply Kd.R_drewN | apply Kd.R_drew)); exact HO109.out)) k_ hk)); (case aO => exact (by (with_reducible repeat (first | apply Kd.R_alloc | apply Kd.R_drewN | apply Kd.R_drew)); exact Kd.R_mono HO106.out (fun _ hk => hk.2))); (case aS => exact (below_size (by repeat (first | (with_reducible first | exact HB.out | apply below_alloc | apply pw_below_drewN | apply below_drew1) | exact HB.out)))); (case aL => have := HLEN.out; have := LM104.out; have := LM107.out; omega); intro v111 w11 ho hb hg hat; rw [← Ny110.out] at ho; have n1_ := Aside0.mk (hb); have n2_ := Aside0.mk (ho); clear HO109; clear HB; clear HO106; have HB := n1_; have HO112 := n2_; clear n1_ n2_; clear ho hb hg hat; obtain ⟨Ao13, co13, eo13⟩ := Kd.R_slice HO112.out; subst eo13; have q14 : ((l0.length : Int) : Int) ≤ ((y110.length : Int) : Int) := of_decide_eq_true (by first | (with_reducible assumption) | assumption); obtain ⟨i014, hi014, _, hsz14, _⟩ := info_parts info_int; have hcut14 := cut_to (P := Try.prog) 22 3 .i64 Try.underlying22 hi014 Ao13 y110.length co13 (l0.length : Int) (by omega) q14 (Kd.R_reads' HO112.out).2.1; clear hi014 hsz14; replace q14 := eq_true q14))

  go_ret
  refine ⟨Ao13, co13, by simp, ?_, HB.out⟩
  have e : y110 = l0 ++ [(-77), (-78)] := by rw [Ny110.out, Ny104.out, Ny101.out, Ny107.out]; rfl
  rw [← e]
  exact Kd.R_mono HO112.out (fun _ _ => trivial)
end Go.Proofs.Ytpebnldoimoahaa

namespace Go.Proofs.Ytpebnldoimoahaa
open Go.RowKit Go.Proofs.YtpebnldoimoahaaW.PrintWords Go.Proofs.YtpebnldoimoahaaW.PrintLast Go.Proofs.YtpebnldoimoahaaW.PrintMore
theorem list_ne {l m : List Int} {k : Nat} (h : rd l k ≠ rd m k) : l ≠ m := by
  rintro rfl; exact h rfl
theorem list_eq {l m : List Int} (hl : l.length = m.length) (h : ∀ k : Nat, k < l.length → rd l k = rd m k) : l = m := by
  apply List.ext_getElem hl
  intro i h1 h2
  have := h i h1
  simp only [rd, Int.toNat_natCast, List.getD_eq_getElem?_getD, List.getElem?_eq_getElem h1, List.getElem?_eq_getElem h2] at this
  exact this
set_option maxRecDepth 100000 in
set_option maxHeartbeats 800000 in
theorem same_any (A : Option Addr) (c : Nat) (l : List Int) (B : Option Addr) (d : Nat) (m : List Int) (w : World) (hA : Kd.C (Kd.int .i64) w A l.length l) (hB : Kd.C (Kd.int .i64) w B m.length m) :
    Calls Try.prog 50 #[.slice A l.length c, .slice B m.length d] w fun e w' => e = .returned (.bool (decide (l = m))) ∧ Below w.heap.size w w' := by
  have HA := Aside0.mk hA
  have HB := Aside0.mk hB
  have hmax := Kd.C_max hA
  clear hA hB
  by_cases hlen : l.length = m.length
  · have HE := Lib.hid hlen
    have h1 : ((l.length : Int) != (m.length : Int)) = false := by rw [bne_eq_false_iff_eq]; omega
    have h2 : (l.length != m.length) = false := by rw [bne_eq_false_iff_eq]; omega
    clear hlen
    go_enter Try.func50, Try.ntmps50
    go_wp2
    go_loopw [5] (fun i wr => ∃ k : Nat, k ≤ l.length ∧ i = .int .i64 k ∧ Hid (∀ j : Nat, j < k → rd l j = rd m j) ∧ Hid (Below w.heap.size w wr)) (fun i _ => l.length - (intOf i).toNat)
    case atStart => exact ⟨0, by omega, rfl, Lib.hid (by omega), Lib.hid (Below.refl _ _)⟩
    case round =>
      obtain ⟨k, hk, rfl, HI, H⟩ := hrel
      by_cases hkl : k < l.length
      · obtain ⟨ad, rfl, hcell⟩ := Kd.at_int (Kd.C_below HA.out H.out) k (by omega) (by omega)
        have hkm : k < m.length := by have := HE.out; omega
        obtain ⟨bd, rfl, hcell2⟩ := Kd.at_int (Kd.C_below HB.out H.out) k (by omega) (by omega)
        rw [Int.toNat_natCast] at hcell hcell2
        by_cases hp : rd l k = rd m k
        · have HI2 : Hid (∀ j : Nat, j < k + 1 → rd l j = rd m j) := Lib.hid (fun i hi => by
            by_cases e : i = k
            · subst e; exact hp
            · exact HI.out i (by omega))
          rw [← hp] at hcell2
          have hpb : (rd l k != rd l k) = false := by simp
          clear hp
          generalize rd l k = p at *
          go_wp2
          go_quiet (fail)
          go_wp2
          go_roundw
          case rel => exact ⟨k+1, by omega, by go_num, HI2, Lib.hid (bl_drewN H.out _)⟩
          case measure => simp [intOf]; omega
        · have hpb : (rd l k != rd m k) = true := by rw [bne_iff_ne]; exact hp
          have HN := Lib.hid (list_ne hp)
          clear hp
          generalize rd l k = p at *
          generalize rd m k = q at *
          go_wp2
          go_quiet (fail)
          go_wp2
          go_ret
          exact ⟨by rw [decide_eq_false HN.out]; rfl, bl_drewN H.out _⟩
      · have : k = l.length := by omega
        subst this
        have HN := Lib.hid (list_eq HE.out HI.out)
        go_wp2
        go_ret
        exact ⟨by rw [decide_eq_true HN.out]; rfl, H.out⟩
  · have HN : Hid (l ≠ m) := Lib.hid (fun e => hlen (by rw [e]))
    have h1 : ((l.length : Int) != (m.length : Int)) = true := by rw [bne_iff_ne]; omega
    have h2 : (l.length != m.length) = true := by rw [bne_iff_ne]; omega
    go_enter Try.func50, Try.ntmps50
    go_wp2
    go_ret
    exact ⟨by rw [decide_eq_false HN.out]; rfl, Below.refl _ _⟩
theorem cut_up {P : Program} (t e : TypeId) (kh : IntKind) {i : TypeInfo} (ht : P.underlying t = some (.slice e)) (hi : P.info? e = some i) (A : Option Addr) (n c : Nat) (j : Int) (h0 : 0 ≤ j) (hm : j ≤ c) :
    ∀ W : World, (Instr.slice t (.slice A n c) none (some (.int kh j)) none).run P W = .ok (.slice A j.toNat c) W := by
  intro W
  have hel : P.elem t = e := by simp [Program.elem, ht]
  have hu : P.underlying t = some (.slice (P.elem t)) := by rw [hel]; exact ht
  have ha : (A.map fun x => x.add 0) = A := by cases A <;> simp [Addr.add]
  rw [run_slice_h W t A n c hu kh j h0 (by omega), hel]
  simp [sizeOf, typeInfo, hi, sliced, Result.andThen, ha]
theorem rd_end1 (l : List Int) (a b : Int) : rd (l ++ [a, b]) (l.length : Int) = a := by
  unfold rd
  rw [Int.toNat_natCast, List.getD_eq_getElem?_getD, List.getElem?_append_right (Nat.le_refl _), Nat.sub_self]; rfl
theorem rd_end2 (l : List Int) (a b : Int) : rd (l ++ [a, b]) ((l.length : Int) + 1) = b := by
  unfold rd
  rw [show ((l.length : Int) + 1).toNat = l.length + 1 by omega, List.getD_eq_getElem?_getD, List.getElem?_append_right (by omega), Nat.add_sub_cancel_left]; rfl
/-- What was lent stays: StayInts says so. -/
theorem stay_any (A : Option Addr) (c : Nat) (l : List Int) (B : Option Addr) (d : Nat) (w : World) (hlen : l.length ≤ 17592186043904) (hA : Kd.C (Kd.int .i64) w A (l ++ [(-77), (-78)]).length (l ++ [(-77), (-78)])) (hc : l.length + 2 ≤ c) (hB : Kd.C (Kd.int .i64) w B l.length l) :
    Calls Try.prog 20 #[.slice A l.length c, .slice B l.length d] w fun e w' => e = .returned (.bool true) ∧ Below w.heap.size w w' := by
  have HA := Aside0.mk hA
  have HB := Aside0.mk hB
  clear hA hB
  obtain ⟨i0, hi0, hz1, hz0, hz2⟩ := info_parts info_int
  have hcut1 := cut_up (P := Try.prog) 22 3 .i64 Try.underlying22 hi0 A l.length c ((l.length : Int) + 2) (by omega) (by omega)
  have hcut2 := cut_up (P := Try.prog) 22 3 .i64 Try.underlying22 hi0 A (l.length + 2) c (l.length : Int) (by omega) (by omega)
  rw [show ((l.length : Int) + 2).toNat = l.length + 2 by omega] at hcut1
  rw [Int.toNat_natCast] at hcut2
  clear hi0 hz0 hz1 hz2
  go_enter Try.func20, Try.ntmps20
  go_wp2_with fail
  have hpre : Kd.C (Kd.int .i64) w A l.length l := by
    have := Kd.C_take (m := l.length) HA.out (by simp)
    simpa using this
  refine (same_any A c l B d l _ hpre HB.out).mono ?_
  clear hpre
  rintro e w1 ⟨rfl, hb⟩
  rw [decide_eq_true rfl]
  have hl2 : (l ++ [(-77), (-78)]).length = l.length + 2 := by simp
  obtain ⟨ad, rfl, hcell1⟩ := Kd.at_int (Kd.C_below HA.out hb) l.length (by omega) (by omega)
  obtain ⟨ad2, e2, hcell2⟩ := Kd.at_int (Kd.C_below HA.out hb) ((l.length : Int) + 1) (by omega) (by omega)
  obtain rfl := Option.some.inj e2
  rw [Int.toNat_natCast, rd_end1] at hcell1
  rw [show ((l.length : Int) + 1).toNat = l.length + 1 by omega, rd_end2] at hcell2
  rw [Addr.add, if_neg (by omega)] at hcell2
  have HBL := Lib.hid hb
  clear hb e2 hl2
  go_wp2
  go_ret
  exact ⟨rfl, HBL.out⟩
end Go.Proofs.Ytpebnldoimoahaa

namespace Go.Proofs.Ytpebnldoimoahaa
open Go.RowKit Go.Proofs.YtpebnldoimoahaaW.PrintWords
def Hp (fs : List (Nat × Obj)) (b w : World) : Prop := (∀ p ∈ fs, w.heap[p.1]? = some p.2) ∧ Below b.heap.size b w
theorem Hp.start (w : World) : Hp [] w w := ⟨fun _ h => (nomatch h), Below.refl _ _⟩
theorem Hp.keep {fs : List (Nat × Obj)} {b u v : World} (h : Hp fs b u) (hb : Below u.heap.size u v) : Hp fs b v := ⟨fun p hp => hp_below' hb (h.1 p hp), bl_then h.2 hb⟩
theorem Hp.alloc {fs : List (Nat × Obj)} {b u : World} (h : Hp fs b u) (o : Obj) : Hp ((u.heap.size, o) :: fs) b (u.alloc o) :=
  ⟨fun p hp => by
    rcases List.mem_cons.1 hp with rfl | hp
    · exact hp_new rfl
    · exact hp_old (h.1 p hp), bl_alloc h.2 o⟩
theorem Hp.at {fs : List (Nat × Obj)} {b w : World} (h : Hp fs b w) (i : Nat) {g : Nat} {o : Obj} (e : fs[i]? = some (g, o)) : w.heap[g]? = some o := h.1 (g, o) (List.mem_of_getElem? e)
theorem Hp.drew {fs : List (Nat × Obj)} {b w : World} (h : Hp fs b w) : Hp fs b w.drew := ⟨h.1, h.2.drew⟩
theorem Hp.drewN {fs : List (Nat × Obj)} {b w : World} (h : Hp fs b w) (n : Nat) : Hp fs b (w.drewN n) := ⟨h.1, bl_drewN h.2 n⟩
/-- A block of a transformation. -/
abbrev TR (n : Int) (ws : List Nat) : Obj := .cells (tvv n ws) 26 (0, 0)
theorem run_sameT (w : World) (n : Int) (ws : List Nat) (hl : ws.length = 7) : (binOp .eql 26 (.agg (tvv n ws)) (.agg (tvv n ws))).run Try.prog w = .ok (.bool true) w :=
  (run_eqT w n n ws ws hl hl).trans (by simp)
section
variable {ops : Array Oper} {rest : List Oper} {o : Oper} {a : Act} {w : World} {Q : Exit → Act → World → Prop}
/-- An operation that is wanted, guarded or not. -/
theorem wpList_want {P : Program} (hw : Region.wanted o (yielded ops a.tmps) = true) (h : ∀ K : Act → World → Prop, (∀ a w, wpList P ops Q rest a w → K a w) → o.wp P a w K Q) : wpList P ops Q (o :: rest) a w :=
  wpList_step fun K hK => by rw [if_pos hw]; exact h K hK
/-- A transformation is loaded, guarded or not. -/
theorem ld_trw (g : Nat) {n : Int} {l : List Nat} {t : TypeId} {fr : Nat × Nat} (hl : l.length = 7) (hg : w.heap[g]? = some (.cells (tvv n l) t fr)) (hw : Region.wanted o (yielded ops a.tmps) = true) (x : Operand) (ho : o.op = .load 26 x)
    (hx : a.eval x = .pointer (some ⟨g, 0, none⟩)) (h : wpList Try.prog ops Q rest (a.put o.dst (.agg (tvv n l))) w) : wpList Try.prog ops Q (o :: rest) a w :=
  wpList_want hw fun _ hK => wp_load_row 26 x ho g hx t _ fr _ hg Try.underlying26 rfl (tr_z n l hl) (hK _ _ h)
/-- The same, what fails fast comes first. -/
theorem ld2 (x : Operand) (ho : o.op = .load 26 x) (g : Nat) (hx : a.eval x = .pointer (some ⟨g, 0, none⟩)) {n : Int} {l : List Nat} {t : TypeId} {fr : Nat × Nat} (hl : l.length = 7) (hg : w.heap[g]? = some (.cells (tvv n l) t fr)) (hw : Region.wanted o (yielded ops a.tmps) = true)
    (h : wpList Try.prog ops Q rest (a.put o.dst (.agg (tvv n l))) w) : wpList Try.prog ops Q (o :: rest) a w := ld_trw g hl hg hw x ho hx h
theorem st2 {n : Int} {l : List Nat} {c : Array Value} {t : TypeId} (x y : Operand) (ho : o.op = .store 26 x y) (hgd : o.guard = none)
    (hx : a.eval x = .pointer (some ⟨w.heap.size, 0, none⟩)) (hy : a.eval y = .agg (tvv n l)) (hl : l.length = 7) (hc : c.size = 8) (h : wpList Try.prog ops Q rest (a.put o.dst undef) (w.alloc (.cells (tvv n l) t))) : wpList Try.prog ops Q (o :: rest) a (w.alloc (.cells c t)) :=
  st_tr_new hl hc hgd x y ho hx hy h
/-- Two transformations are compared, guarded or not. -/
theorem eq_tr {n m : Int} {l k : List Nat} (r : Bool) (hl : l.length = 7) (hk : k.length = 7) (hw : Region.wanted o (yielded ops a.tmps) = true) (x y : Operand) (u : TypeId) (ho : o.op = .binOp .eql 26 x y u)
    (hx : a.eval x = .agg (tvv n l)) (hy : a.eval y = .agg (tvv m k)) (hr : decide (n = m ∧ l = k) = r) (h : wpList Try.prog ops Q rest (a.put o.dst (.bool r)) w) : wpList Try.prog ops Q (o :: rest) a w :=
  wpList_want hw fun _ hK => by
    have h1 := run_eqGuard_agg (P := Try.prog) w .eql 26 x y (tvv n l) (tvv m k) (by kernel_rfl)
    have h2 := run_eqT w n m l k hl hk
    have h3 : (execOp a.eval o).run Try.prog w = .ok (.value (.bool r)) w := by
      unfold execOp
      simp only [ho, hx, hy, Sem.run_bind, h1, h2, Result.andThen_ok, Sem.run_pure, hr]
    unfold Oper.wp
    rw [h3, Oper.upon_value]
    exact hK _ _ h
theorem ne_tr {n m : Int} {l k : List Nat} (r : Bool) (hl : l.length = 7) (hk : k.length = 7) (hw : Region.wanted o (yielded ops a.tmps) = true) (x y : Operand) (u : TypeId) (ho : o.op = .binOp .neq 26 x y u)
    (hx : a.eval x = .agg (tvv n l)) (hy : a.eval y = .agg (tvv m k)) (hr : (!decide (n = m ∧ l = k)) = r) (h : wpList Try.prog ops Q rest (a.put o.dst (.bool r)) w) : wpList Try.prog ops Q (o :: rest) a w :=
  wpList_want hw fun _ hK => by
    have h1 := run_eqGuard_agg (P := Try.prog) w .neq 26 x y (tvv n l) (tvv m k) (by kernel_rfl)
    have h2 := run_neT w n m l k hl hk
    have h3 : (execOp a.eval o).run Try.prog w = .ok (.value (.bool r)) w := by
      unfold execOp
      simp only [ho, hx, hy, Sem.run_bind, h1, h2, Result.andThen_ok, Sem.run_pure, hr]
    unfold Oper.wp
    rw [h3, Oper.upon_value]
    exact hK _ _ h
end
theorem eq2 {ops : Array Oper} {rest : List Oper} {o : Oper} {a : Act} {w : World} {Q : Exit → Act → World → Prop} (x y : Operand) (u : TypeId) (ho : o.op = .binOp .eql 26 x y u) {n m : Int} {l k : List Nat} (r : Bool) (hr : decide (n = m ∧ l = k) = r) (hx : a.eval x = .agg (tvv n l)) (hy : a.eval y = .agg (tvv m k)) (hl : l.length = 7) (hk : k.length = 7) (hw : Region.wanted o (yielded ops a.tmps) = true)
    (h : wpList Try.prog ops Q rest (a.put o.dst (.bool r)) w) : wpList Try.prog ops Q (o :: rest) a w := eq_tr r hl hk hw x y u ho hx hy hr h
theorem ne2 {ops : Array Oper} {rest : List Oper} {o : Oper} {a : Act} {w : World} {Q : Exit → Act → World → Prop} (x y : Operand) (u : TypeId) (ho : o.op = .binOp .neq 26 x y u) {n m : Int} {l k : List Nat} (r : Bool) (hr : (!decide (n = m ∧ l = k)) = r) (hx : a.eval x = .agg (tvv n l)) (hy : a.eval y = .agg (tvv m k)) (hl : l.length = 7) (hk : k.length = 7) (hw : Region.wanted o (yielded ops a.tmps) = true)
    (h : wpList Try.prog ops Q rest (a.put o.dst (.bool r)) w) : wpList Try.prog ops Q (o :: rest) a w := ne_tr r hl hk hw x y u ho hx hy hr h
theorem sameT_dec (n : Int) (l : List Nat) : decide (n = n ∧ l = l) = true := by simp
theorem idT_len (n : Int) : (idT n).2.1.length = 7 := by unfold idT; split <;> simp [pks_len]
end Go.Proofs.Ytpebnldoimoahaa

