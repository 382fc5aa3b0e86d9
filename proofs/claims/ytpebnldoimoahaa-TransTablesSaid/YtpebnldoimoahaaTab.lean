/- The program's table of transformations: its map, keyed by packed values; what a table is in memory. -/
import Derived.Test.YtpebnldoimoahaaMap
import Derived.Test.YtpebnldoimoahaaNil
import Derived.DeepKeys4
namespace Go.Proofs.Ytpebnldoimoahaa
open Go.RowKit Go.Proofs.YtpebnldoimoahaaW.PrintWords Go.ChangeMaps
open Go.Maps (Keyed)
set_option linter.unusedSimpArgs false
set_option maxRecDepth 100000 in
theorem key_law : Keyed Try.prog 26 :=
  Keyed.of_law (deep_law_laid (m := 4) (by kernel_rfl : laidOutB Try.prog = true) (by decide) (by decide +kernel) (by kernel_rfl) (by kernel_rfl))
theorem wf_i64 {n : Int} (h : -9223372036854775808 ≤ n ∧ n ≤ 9223372036854775807) : (Lit.int .i64 n).wf = true := WalkArith.wf_i64 (by omega)
theorem wf_u64 {n : Nat} (h : n < 18446744073709551616) : (Lit.int .u64 (n : Int)).wf = true := by go_wf
set_option maxRecDepth 100000 in
theorem key_tr {x : Int × List Nat} (h : okT x) : ∃ q, keyOf Try.prog 26 (.agg (tvv x.1 x.2)) = some q := by
  obtain ⟨n, ws⟩ := x
  obtain ⟨hl, hw, hn⟩ := h
  have hkt : Try.prog.keyType 26 = true := by kernel_rfl
  obtain ⟨m, hm⟩ : ∃ m, Try.prog.types.size + 1 = m + 3 := ⟨Try.prog.types.size - 2, by decide +kernel⟩
  have h8 : Try.prog.cellsOf 26 = 8 := by kernel_rfl
  have h7 : Try.prog.cellsOf 24 = 7 := by kernel_rfl
  have h1 : Try.prog.cellsOf 3 = 1 := by kernel_rfl
  have h1' : Try.prog.cellsOf 23 = 1 := by kernel_rfl
  match ws, hl with
  | [x0, x1, x2, x3, x4, x5, x6], _ =>
    have w0 := wf_u64 (hw 0); have w1 := wf_u64 (hw 1); have w2 := wf_u64 (hw 2); have w3 := wf_u64 (hw 3); have w4 := wf_u64 (hw 4); have w5 := wf_u64 (hw 5); have w6 := wf_u64 (hw 6)
    simp only [List.getD_cons_zero, List.getD_cons_succ] at w0 w1 w2 w3 w4 w5 w6
    have wn := wf_i64 hn
    dsimp only at wn
    unfold keyOf
    simp only [Try.underlying26]
    rw [if_pos (by simp [hkt, Value.formed, Try.underlying26, h8, tvv]), hm]
    simp [Program.keyLits, Try.underlying26, Try.underlying24, Try.underlying3, Try.underlying23, Value.cells, h8, h7, h1, h1', tvv, w0, w1, w2, w3, w4, w5, w6, wn, List.range, List.range.loop]
theorem tvv_inj {n m : Int} {xs ys : List Nat} (h : Value.agg (tvv n xs) = .agg (tvv m ys)) : n = m ∧ xs = ys := by
  injection h with h
  have h2 := congrArg Array.toList h
  simp only [tvv, List.cons.injEq, Value.int.injEq, true_and] at h2
  refine ⟨h2.1, ?_⟩
  exact (List.map_inj_right (fun a b e => by injection e with _ e; exact Int.ofNat.inj e)).1 h2.2
/-- The map's entries: each packed value at its number. -/
def ents (L : List (Int × List Nat)) : List (Value × Value) := L.zipIdx.map fun p => (.agg (tvv p.1.1 p.1.2), .int .i64 ((p.2 : Nat) : Int))
theorem ents_nil : ents [] = [] := rfl
theorem ents_snoc (L : List (Int × List Nat)) (x : Int × List Nat) : ents (L ++ [x]) = ents L ++ [(.agg (tvv x.1 x.2), .int .i64 ((L.length : Nat) : Int))] := by
  simp [ents, List.zipIdx_append]
theorem ents_mem {L : List (Int × List Nat)} {p : Value × Value} (h : p ∈ ents L) : ∃ i x, L[i]? = some x ∧ p = (.agg (tvv x.1 x.2), .int .i64 ((i : Nat) : Int)) := by
  obtain ⟨q, hq, rfl⟩ := List.mem_map.1 h
  exact ⟨q.2, q.1, by simpa [List.mem_zipIdx_iff_getElem?] using hq, rfl⟩
theorem ents_of {L : List (Int × List Nat)} {i : Nat} {x : Int × List Nat} (h : L[i]? = some x) : (Value.agg (tvv x.1 x.2), Value.int .i64 ((i : Nat) : Int)) ∈ ents L :=
  List.mem_map.2 ⟨(x, i), by simpa [List.mem_zipIdx_iff_getElem?] using h, rfl⟩
/-- A list that a table may hold. -/
structure LOk (n : Int) (L : List (Int × List Nat)) : Prop where
  ok : ∀ x ∈ L, okT x
  nd : L.Nodup
  max : L.length ≤ 512
  b : -9223372036854775808 ≤ n ∧ n ≤ 9223372036854775807
/-- Where a value stands; is it there? -/
def fndN (L : List (Int × List Nat)) (x : Int × List Nat) : Nat := if x ∈ L then L.idxOf x else 0
theorem look_run {n : Int} {L : List (Int × List Nat)} (hL : LOk n L) {x : Int × List Nat} (hx : okT x) {w : World} {b : Nat} (h : MapIs w b (ents L)) :
    (Instr.lookup 52 (.map (some b)) (.agg (tvv x.1 x.2)) true).run Try.prog w = .ok (.tuple #[.int .i64 ((fndN L x : Nat) : Int), .bool (decide (x ∈ L))]) w := by
  obtain ⟨q, hq⟩ := key_tr hx
  have hk : ∀ p ∈ ents L, ∃ q, keyOf Try.prog 26 p.1 = some q := fun p hp => by
    obtain ⟨i, y, hy, rfl⟩ := ents_mem hp
    exact key_tr (hL.ok y (List.mem_of_getElem? hy))
  have hz : (zeroValue 3).run Try.prog w = .ok (.int .i64 0) w := by kernel_rfl
  unfold fndN
  by_cases hm : x ∈ L
  · have hlt : L.idxOf x < L.length := List.idxOf_lt_length_of_mem hm
    have hget : L[L.idxOf x]? = some x := by rw [List.getElem?_eq_getElem hlt, List.getElem_idxOf]
    rw [if_pos hm, decide_eq_true hm]
    exact h.look_yes key_law hk Try.underlying52 hz hq ⟨_, ents_of hget, rfl⟩ (fun p hp he => by
      obtain ⟨i, y, hy, rfl⟩ := ents_mem hp
      obtain ⟨e1, e2⟩ := tvv_inj he
      have e3 : y = x := Prod.ext e1 e2
      subst e3
      obtain ⟨hi, e4⟩ := List.getElem?_eq_some_iff.1 hy
      have : i = L.idxOf y := by
        rw [← e4]; exact (hL.nd.idxOf_getElem i hi).symm
      rw [this]) true
  · rw [if_neg hm, decide_eq_false hm]
    exact h.look_no key_law hk Try.underlying52 hz hq (fun p hp he => by
      obtain ⟨i, y, hy, rfl⟩ := ents_mem hp
      obtain ⟨e1, e2⟩ := tvv_inj he
      exact hm (by rw [← (Prod.ext e1 e2 : y = x)]; exact List.mem_of_getElem? hy)) true
theorem put_run {n : Int} {L : List (Int × List Nat)} (hL : LOk n L) {x : Int × List Nat} (hx : okT x) (hm : x ∉ L) {w : World} {b : Nat} (h : MapIs w b (ents L)) :
    ∃ w', (Instr.mapUpdate 52 (.map (some b)) (.agg (tvv x.1 x.2)) (.int .i64 ((L.length : Nat) : Int))).run Try.prog w = .ok () w' ∧ MapIs w' b (ents (L ++ [x])) ∧ Turned w w' b := by
  obtain ⟨q, hq⟩ := key_tr hx
  rw [ents_snoc]
  exact h.put key_law (fun p hp => by
    obtain ⟨i, y, hy, rfl⟩ := ents_mem hp
    exact key_tr (hL.ok y (List.mem_of_getElem? hy))) Try.underlying52 hq (fun p hp he => by
      obtain ⟨i, y, hy, rfl⟩ := ents_mem hp
      obtain ⟨e1, e2⟩ := tvv_inj he
      exact hm (by rw [← (Prod.ext e1 e2 : y = x)]; exact List.mem_of_getElem? hy)) _
/-- The program's table: its variable (i + 1), its map (i + 2), its list (i); c tells whose a block is. -/
structure PTabAt (w : World) (base : Nat) (c : Nat → Nat) (i g b : Nat) (sl : Value) (n : Int) (L : List (Int × List Nat)) : Prop where
  var : w.heap[g]? = some (.cells #[.int .i64 n, .map (some b), sl] 55 (0, 0))
  map : MapIs w b (ents L)
  row : trKd.R 26 w base (fun k => c k = i) sl L
  cg : c g = i + 1
  cb : c b = i + 2
  bg : base ≤ g
  bb : base ≤ b
def PTab (w : World) (base : Nat) (c : Nat → Nat) (i : Nat) (x : Value) (n : Int) (L : List (Int × List Nat)) : Prop := ∃ g b sl, x = .pointer (some ⟨g, 0, none⟩) ∧ PTabAt w base c i g b sl n L
/-- Only blocks of some colours have turned. -/
structure Fr (w w' : World) (base : Nat) (M : Nat → Prop) : Prop where
  below : Below base w w'
  size : w.heap.size ≤ w'.heap.size
  block : ∀ k, k < w.heap.size → ¬ M k → w'.heap[k]? = w.heap[k]?
theorem Fr.of_below {w w' : World} {base : Nat} {M : Nat → Prop} (h : Below w.heap.size w w') (hb : base ≤ w.heap.size) : Fr w w' base M := ⟨h.mono hb, h.size, fun k hk _ => h.block k hk⟩
theorem Fr.trans {w w' w'' : World} {base : Nat} {M : Nat → Prop} (h : Fr w w' base M) (h' : Fr w' w'' base M) : Fr w w'' base M :=
  ⟨h.below.trans h'.below, Nat.le_trans h.size h'.size, fun k hk hM => (h'.block k (Nat.lt_of_lt_of_le hk h.size) hM).trans (h.block k hk hM)⟩
theorem Fr.mono {w w' : World} {base : Nat} {M M' : Nat → Prop} (h : Fr w w' base M) (hM : ∀ k, k < w.heap.size → M k → M' k) : Fr w w' base M' := ⟨h.below, h.size, fun k hk hn => h.block k hk (fun hm => hn (hM k hk hm))⟩
theorem PTabAt.frame {w w' : World} {base : Nat} {c c' : Nat → Nat} {i g b : Nat} {sl : Value} {n : Int} {L : List (Int × List Nat)} (h : PTabAt w base c i g b sl n L) (hk : ∀ k, k < w.heap.size → (c k = i ∨ c k = i + 1 ∨ c k = i + 2) → w'.heap[k]? = w.heap[k]?) (hc : ∀ k, k < w.heap.size → c' k = c k) :
    PTabAt w' base c' i g b sl n L :=
  ⟨(hk g (hp_lt h.var) (.inr (.inl h.cg))).trans h.var, h.map.of (hk b h.map.lt (.inr (.inr h.cb))), Kd.R_mono (Kd.R_move (Kd.R_bound h.row) (fun k hb => hk k hb.2.2.1 (.inl hb.1))) (fun k hb => (hc k hb.2.2.1).trans hb.1),
    (hc g (hp_lt h.var)).trans h.cg, (hc b h.map.lt).trans h.cb, h.bg, h.bb⟩
theorem PTabAt.below {w w' : World} {base : Nat} {c : Nat → Nat} {i g b : Nat} {sl : Value} {n : Int} {L : List (Int × List Nat)} (h : PTabAt w base c i g b sl n L) (hb : Below w.heap.size w w') : PTabAt w' base c i g b sl n L :=
  h.frame (fun k hk _ => hb.block k hk) (fun _ _ => rfl)
theorem PTabAt.len {w : World} {base : Nat} {c : Nat → Nat} {i g b : Nat} {sl : Value} {n : Int} {L : List (Int × List Nat)} (h : PTabAt w base c i g b sl n L) : ∃ A cap, sl = .slice A L.length cap ∧ trKd.C w A L.length L := by
  obtain ⟨A, cap, h1, _, h2⟩ := Kd.R_reads h.row
  exact ⟨A, cap, h1, h2⟩
end Go.Proofs.Ytpebnldoimoahaa
