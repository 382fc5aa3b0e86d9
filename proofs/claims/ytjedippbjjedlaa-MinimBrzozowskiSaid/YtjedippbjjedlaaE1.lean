/- Merged by tools/merge2.py out of: XSg XLkT XStP XStA XRvW XSrSt XRvX (a claim bears 60 files at most). -/
import Derived.Test.YtjedippbjjedlaaC1n
import Derived.Great.BuildSlice
import Derived.BigQuiet
import Derived.Laws.Bits64b
namespace Go.Proofs.Ytjedippbjjedlaa
open Go.RowKit Go.Proofs.YtjedippbjjedlaaW.PrintWords
set_option linter.unusedSimpArgs false
set_option linter.unusedVariables false
theorem fold_set {α : Type} (v : Array α) : ∀ (k : Nat) (cs : Array α), cs.size = v.size → k ≤ v.size → (∀ i, i < k → cs[i]? = v[i]?) → ((v.toList.drop k).zipIdx k).foldl (fun cs (p : α × Nat) => cs.setIfInBounds (0 + p.2) p.1) cs = v := by
  intro k
  induction h : v.size - k generalizing k with
  | zero =>
    intro cs hc hk hi
    have hkv : k = v.size := by omega
    rw [List.drop_eq_nil_of_le (by simp; omega)]
    show cs = v
    apply Array.ext_getElem?
    intro i
    by_cases hlt : i < k
    · exact hi i hlt
    · rw [Array.getElem?_eq_none (by omega), Array.getElem?_eq_none (by omega)]
  | succ n ih =>
    intro cs hc hk hi
    have hlt : k < v.size := by omega
    rw [List.drop_eq_getElem_cons (by simpa using hlt), List.zipIdx_cons, List.foldl_cons]
    refine ih (k + 1) (by omega) _ (by simpa using hc) (by omega) (fun i hi2 => ?_)
    simp only [Nat.zero_add]
    by_cases e : k = i
    · subst e
      rw [Array.getElem?_setIfInBounds_self_of_lt (by omega)]
      simp
    · rw [Array.getElem?_setIfInBounds_ne e]
      exact hi i (by omega)
section
variable {P : Program} {ops : Array Oper} {rest : List Oper} {o : Oper} {a : Act} {w : World} {Q : Exit → Act → World → Prop}
theorem run_boxA {t e : TypeId} (ht : P.underlying t = some (.slice e)) {z : Value} {n bytes : Nat} (hi : (P.info? e).map (fun i => (i.zero, i.size, i.bytes)) = some (some z, n, bytes)) (hn : 0 < n) (hn2 : n ≤ 1000) {cs : Array Value} (hc : cs.size = n) (w : World) :
    (Instr.buildSlice t 1 #[(0, .agg cs)]).run P w = .ok (.slice (some ⟨w.heap.size, 0, none⟩) 1 1) (w.alloc (.cells cs e)) := by
  obtain ⟨i0, hi, hz0, hz1, hz2⟩ := info_parts hi
  refine run_buildSlice w t e 1 _ cs i0 z ht hi hz0 (by rw [hz1]; omega) (by rw [hz1]; omega) ?_
  rw [hz1, Nat.one_mul]
  show Instr.fill _ _ [(0, .agg cs)] = _
  unfold Instr.fill
  simp only [Nat.zero_mul]
  have hcc : (Value.agg cs).cells = cs := rfl
  rw [hcc, if_neg (by simp [hc])]
  unfold Instr.fill
  congr 1
  have := fold_set cs 0 ((Array.range n).map (z.cells[· % z.cells.size]!)) (by simp [hc]) (Nat.zero_le _) (fun i hi => absurd hi (by omega))
  rw [List.drop_zero] at this
  rw [← Array.foldl_toList, Array.toList_zipIdx]
  exact this
theorem gate_lit {t : TypeId} {n : Nat} {parts : Array (Nat × Operand)} (_ho : o.op = .buildSlice t n parts) (h : wpList P ops Q (o :: rest) a w) : wpList P ops Q (o :: rest) a w := h
/-- A box of one value of several cells. -/
theorem wpl_boxA (hgd : o.guard = none) (t e : TypeId) (x : Operand) (ho : o.op = .buildSlice t 1 #[(0, x)]) (cs : Array Value) (hx : a.eval x = .agg cs) (ht : P.underlying t = some (.slice e)) {z : Value} {n bytes : Nat} (hi : (P.info? e).map (fun i => (i.zero, i.size, i.bytes)) = some (some z, n, bytes)) (hn : 0 < n) (hn2 : n ≤ 1000) (hc : cs.size = n)
    (h : wpList P ops Q rest (a.put o.dst (.slice (some ⟨w.heap.size, 0, none⟩) 1 1)) (w.alloc (.cells cs e))) : wpList P ops Q (o :: rest) a w :=
  wpList_plain hgd fun K hK => by
    have hrun := run_boxA ht hi hn hn2 hc w
    unfold Oper.wp execOp
    simp only [ho, List.map_toArray, List.map_cons, List.map_nil, hx, Sem.run_bind, hrun, Result.andThen_ok, Sem.run_pure]
    exact hK _ _ h
/-- A whole struct is loaded from wherever it lies. -/
theorem run_loadVar_at (w : World) (a : Addr) (ty : TypeId) (cs : List Value) (d : TypeDesc) (hc : ∀ j v, cs[j]? = some v → w.cell? (a.add j) = some v)
    (hd : (match d with | .struct _ | .array _ _ => true | _ => false) = true) (hu : P.underlying ty = some d) (hi : (P.info? ty).map (·.size) = some cs.length) :
    (loadVar ty a).run P w = .ok (.agg cs.toArray) w := by
  have hl : (loadCells a cs.length).run P w = .ok cs.toArray w := run_loadCells_list (P := P) w a cs hc
  cases hq : P.info? ty with
  | none => simp [hq] at hi
  | some i =>
    have hs : i.size = cs.length := by simpa [hq] using hi
    have hagg : (isAgg ty).run P w = .ok true w := by
      unfold isAgg
      rw [Sem.run_bind, run_underlying hu w]
      cases d <;> simp_all
    simp [loadVar, Sem.run_bind, hagg, sizeOf, typeInfo, hq, hs, hl]
/-- In block lb, from cell i on, lie these cells. -/
def HasC (w : World) (lb i : Nat) (cs : Array Value) : Prop := ∀ j v, cs[j]? = some v → w.cell? ⟨lb, i + j, none⟩ = some v
theorem HasC.keep {w w' : World} {lb i : Nat} {cs : Array Value} (h : HasC w lb i cs) (hb : Below w.heap.size w w') : HasC w' lb i cs := fun j v hv => (hb.cell (World.block_lt_of_cell? _ _ (h j v hv))).trans (h j v hv)
theorem HasC.kept {w w' : World} {lb i : Nat} {cs : Array Value} (h : HasC w lb i cs) (hb : w'.heap[lb]? = w.heap[lb]?) : HasC w' lb i cs := fun j v hv => (World.cell?_of_block (a := ⟨lb, i + j, none⟩) hb).trans (h j v hv)
theorem HasC.run {w : World} {lb i : Nat} {cs : Array Value} (h : HasC w lb i cs) {ty : TypeId} {d : TypeDesc} (hd : (match d with | .struct _ | .array _ _ => true | _ => false) = true) (hu : P.underlying ty = some d) (hi : (P.info? ty).map (·.size) = some cs.size) :
    (loadVar ty ⟨lb, i, none⟩).run P w = .ok (.agg cs) w := by
  have := run_loadVar_at (P := P) w ⟨lb, i, none⟩ ty cs.toList d (fun j v hv => by
    rw [Addr.add_mid]
    exact h j v (by simpa using hv)) hd hu (by simpa using hi)
  simpa using this
theorem HasC.ld {lb i : Nat} {cs : Array Value} (h : HasC w lb i cs) (hgd : o.guard = none) (ty : TypeId) (x : Operand) (ho : o.op = .load ty x) (hx : a.eval x = .pointer (some ⟨lb, i, none⟩)) {d : TypeDesc} (hd : (match d with | .struct _ | .array _ _ => true | _ => false) = true) (hu : P.underlying ty = some d) (hi : (P.info? ty).map (·.size) = some cs.size)
    (hk : wpList P ops Q rest (a.put o.dst (.agg cs)) w) : wpList P ops Q (o :: rest) a w :=
  wpList_plain hgd fun K hK => by
    have hrun := h.run (P := P) hd hu hi
    unfold Oper.wp execOp
    simp only [ho, hx, Instr.loadAt, Instr.sureAddr, Sem.run_bind, Sem.run_pure, Result.andThen_ok, hrun]
    exact hK _ _ hk
theorem HasC.yi {S : World → Prop} {lb i : Nat} {cs : Array Value} {ty : TypeId} (x : Operand) (ho : o.op = .load ty x) (hg : Region.wanted o (yielded ops a.tmps) = true) (hx : a.eval x = .pointer (some ⟨lb, i, none⟩)) {d : TypeDesc} (hd : (match d with | .struct _ | .array _ _ => true | _ => false) = true) (hu : P.underlying ty = some d) (hi : (P.info? ty).map (·.size) = some cs.size)
    (h : ∀ w, S w → HasC w lb i cs) : YieldsIf P ops S o (.agg cs) a :=
  yi_val hg fun w hw => by
    have hrun := (h w hw).run (P := P) hd hu hi
    unfold execOp
    simp only [ho, hx, Instr.loadAt, Instr.sureAddr, Sem.run_bind, Sem.run_pure, Result.andThen_ok, hrun]
/-- A list of the call's own that holds something: where its elements lie. -/
theorem own_formG {σ : Type} {cc : σ → List Value} {n : Nat} {hl : ∀ s, (cc s).length = n} {h1 : ∀ s, ∀ u ∈ cc s, u.oneCell' = true} {e base : Nat} {ok : Nat → Prop} {W : World} {v : Value} {zs : List σ} (h : (flatK cc n hl h1).R e W base ok v zs) (hp : 0 < zs.length) :
    ∃ g c, v = .slice (some ⟨g, 0, none⟩) zs.length c ∧ base ≤ g ∧ g < W.heap.size ∧ ∀ i s, zs[i]? = some s → HasC W g (i * n) (cc s).toArray := by
  obtain ⟨A, c, rfl, hc1, hC⟩ := Kd.R_reads h
  obtain ⟨inner, hi⟩ := Kd.R_own h
  rcases hi.2 with ⟨he, hn0⟩ | ⟨g, cap, cur, hg, hbg, hgc, _⟩
  · injection he with _ he _
    omega
  · injection hg with hA _ _
    subst hA
    refine ⟨g, c, rfl, hbg, hp_lt hgc, fun i s hs j u hu => ?_⟩
    obtain ⟨ad, hA, hcell⟩ := hC.2.2 hp
    injection hA with hA
    subst hA
    obtain ⟨cs, hcs, hK, hcc⟩ := hcell i s hs
    have hK2 : cs = cc s := hK
    rw [hK2] at hcc
    have := hcc j u (by simpa using hu)
    rw [add_plain] at this
    exact this
/-- A list of one. -/
theorem R_oneG {σ : Type} {cc : σ → List Value} {n : Nat} {hl : ∀ s, (cc s).length = n} {h1 : ∀ s, ∀ u ∈ cc s, u.oneCell' = true} {e base g : Nat} {W : World} {s : σ} {cs : Array Value} (hg : W.heap[g]? = some (.cells cs e (0, 0))) (hcs : cs.toList = cc s) (hb : base ≤ g) :
    (flatK cc n hl h1).R e W base (fun _ => True) (.slice (some ⟨g, 0, none⟩) 1 1) [s] := by
  have hz : cs.size = n := by rw [← Array.length_toList, hcs, hl]
  refine ⟨fun _ _ => trivial, cc s, ⟨?_, .inr ⟨g, 1, cs, rfl, hb, hg, Nat.le_refl _, by unfold maxLen; omega, ?_, ?_⟩⟩, ?_⟩
  · show (cc s).length = [s].length * n
    rw [hl]; simp
  · show cs.size = 1 * n
    rw [hz]; simp
  · show cs.toList.take ([s].length * n) = cc s
    rw [hcs, List.take_of_length_le (by rw [hl]; simp)]
  · have h := (Reps.none (fun (x : σ) (c : List Value) => c = cc x) n).snoc (p := s) (c := cc s) rfl (hl s)
    rw [List.nil_append, List.nil_append] at h
    exact h
/-- A struct is laid into a block just made. -/
theorem st_new {cs old : Array Value} {ty : TypeId} (p q : Operand) (ho : o.op = .store ty p q) (hgd : o.guard = none) (hx : a.eval p = .pointer (some ⟨w.heap.size, 0, none⟩)) (hy : a.eval q = .agg cs) (hi : (P.info? ty).map (·.size) = some cs.size) (hc : old.size = cs.size) (h1 : cs.all (·.oneCell') = true)
    (h : wpList P ops Q rest (a.put o.dst undef) (w.alloc (.cells cs ty))) : wpList P ops Q (o :: rest) a (w.alloc (.cells old ty)) :=
  wpList_store_row hgd ty p q ho w.heap.size _ hx hy ty old (hp_new rfl) hi hc h1 (by rw [World.setRow_alloc_new]; exact h)
end
end Go.Proofs.Ytjedippbjjedlaa

namespace Go.Proofs.Ytjedippbjjedlaa
open Go.RowKit Go.Proofs.YtjedippbjjedlaaW.PrintWords
/-- Where a letter of a state leads: all that the walk of one look-up needs. -/
structure LkT (x : AutV) (A : Option Addr) (W : World) (s l : Nat) (ad : Addr) (p : Nat) : Prop where
  addr : A = some ad
  cell : W.cell? (ad.add (p + l)) = some (.int .i64 ((stp x s l : Nat) : Int))
  mul : IntKind.i64.wrap ((s : Int) * x.k) = (p : Int)
  add : IntKind.i64.wrap ((p : Int) + (l : Int)) = (p : Int) + (l : Int)
  pos : 0 ≤ (p : Int) + (l : Int)
  lt : (p : Int) + (l : Int) < (x.next.length : Int)
  nat : ((p : Int) + (l : Int)).toNat = p + l
theorem lkT {x : AutV} {A B : Option Addr} {W : World} (hx : AutOk x) (hr : ARd W x A B) {s l : Nat} (hs : s < x.acc.length) (hl : (l : Int) < x.k) : ∃ ad p, LkT x A W s l ad p := by
  obtain ⟨q1, q2⟩ := stp_lt hx hs hl
  have hix := stp_idx hx hs hl
  have hk1 := hx.1; have hk2 := hx.2.1; have hn2 := hx.2.2.2.1; have hnl := hx.2.2.2.2.1
  obtain ⟨ad, hA, hcell⟩ := Kd.at_int hr.next ((s * x.k.toNat + l : Nat) : Int) (by omega) (by omega)
  rw [Int.toNat_natCast, q2] at hcell
  have hmul : (s : Int) * x.k = ((s * x.k.toNat : Nat) : Int) := by
    obtain ⟨kk, hkk⟩ := Int.eq_ofNat_of_zero_le (show 0 ≤ x.k by omega)
    rw [hkk, Int.toNat_natCast]; push_cast; rfl
  have hP : s * x.k.toNat ≤ 40960 := by
    have : s * x.k.toNat ≤ 4096 * 10 := Nat.mul_le_mul (by omega) (by omega)
    omega
  have hxl : x.next.length ≤ 32768 := by
    have := aut_mul hk1 hk2 hn2
    omega
  exact ⟨ad, s * x.k.toNat, hA, hcell, by rw [hmul]; exact IntWalk.i64_in _ ⟨by omega, by omega⟩, IntWalk.i64_in _ ⟨by omega, by omega⟩, by omega, by omega, by omega⟩
section
variable {P : Program} {ops : Array Oper} {rest : List Oper} {o : Oper} {a : Act} {w : World} {Q : Exit → Act → World → Prop}
/-- A whole block is loaded. -/
theorem wpl_rowS {cs : Array Value} (hgd : o.guard = none) (ty : TypeId) (x : Operand) (ho : o.op = .load ty x) (g : Nat) (hx : a.eval x = .pointer (some ⟨g, 0, none⟩)) {t' : TypeId} {fr : Nat × Nat} (hg : w.heap[g]? = some (.cells cs t' fr)) {d : TypeDesc} (hd : (match d with | .struct _ | .array _ _ => true | _ => false) = true) (hu : P.underlying ty = some d) (hi : (P.info? ty).map (·.size) = some cs.size)
    (h : wpList P ops Q rest (a.put o.dst (.agg cs)) w) : wpList P ops Q (o :: rest) a w :=
  wpList_plain hgd fun K hK => wp_load_row ty x ho g hx _ _ _ _ hg hu (by cases d <;> exact hd) hi (hK _ _ h)
end
end Go.Proofs.Ytjedippbjjedlaa

namespace Go.Proofs.Ytjedippbjjedlaa
open Go.RowKit Go.Proofs.YtjedippbjjedlaaW.PrintWords Go.ChangeMaps
open Go.Maps (Keyed)
set_option linter.unusedSimpArgs false
abbrev Sta := BitVec 4096
def wdS (m : Sta) (i : Nat) : Nat := (m.extractLsb' (64 * i) 64).toNat
theorem wdS_lt (m : Sta) (i : Nat) : wdS m i < 18446744073709551616 := BitVec.isLt (m.extractLsb' (64 * i) 64)
theorem wdS_bit (m : Sta) (i j : Nat) : (wdS m i).testBit j = (decide (j < 64) && m.getLsbD (64 * i + j)) := by
  unfold wdS
  rw [BitVec.testBit_toNat, BitVec.getLsbD_extractLsb']
def vdS (m : Sta) (i : Nat) : Value := .int .u64 (wdS m i : Int)
def ccS (m : Sta) : Array Value := (Array.range 64).map (vdS m)
theorem ccS_size (m : Sta) : (ccS m).size = 64 := by simp [ccS]
theorem ccS_get {m : Sta} {i : Nat} (h : i < 64) : (ccS m)[i]? = some (.int .u64 (wdS m i : Int)) := by
  unfold ccS
  rw [Array.getElem?_map, Array.getElem?_eq_getElem (by simpa using h), Array.getElem_range]
  rfl
theorem ccS_one (m : Sta) : ∀ u ∈ (ccS m).toList, u.oneCell' = true := fun u hu => by
  unfold ccS at hu
  rw [Array.toList_map, List.mem_map] at hu
  obtain ⟨i, _, rfl⟩ := hu
  rfl
theorem ccS_all (m : Sta) : (ccS m).all (·.oneCell') = true := by
  rw [Array.all_eq_true']
  intro u hu
  exact ccS_one m u (by simpa using hu)
theorem sta_ext {s t : Sta} (h : ∀ i, i < 4096 → s.getLsbD i = t.getLsbD i) : s = t := BitVec.eq_of_getLsbD_eq (fun i hi => h i hi)
theorem ccS_inj {s t : Sta} (h : ccS s = ccS t) : s = t := by
  apply sta_ext
  intro i hi
  have h1 := ccS_get (m := s) (show i / 64 < 64 by omega)
  rw [h, ccS_get (by omega)] at h1
  injection h1 with h1
  injection h1 with _ h1
  have h2 : wdS t (i / 64) = wdS s (i / 64) := Int.ofNat.inj h1
  have h3 := wdS_bit s (i / 64) (i % 64)
  rw [← h2, wdS_bit, decide_eq_true (show i % 64 < 64 by omega), Bool.true_and, Bool.true_and, show 64 * (i / 64) + i % 64 = i by omega] at h3
  exact h3.symm
/-- One more. -/
def adS (m : Sta) (s : Nat) : Sta := m ||| BitVec.twoPow 4096 s
theorem adS_bit (m : Sta) (s i : Nat) : (adS m s).getLsbD i = (m.getLsbD i || (decide (i < 4096) && decide (s = i))) := by
  unfold adS
  rw [BitVec.getLsbD_or, BitVec.getLsbD_twoPow]
  congr 1
  by_cases h : s = i
  · subst h; simp
  · simp [h]
theorem wdS_ad (m : Sta) {s : Nat} (hs : s < 4096) : wdS (adS m s) (s / 64) = wdS m (s / 64) ||| 2 ^ (s % 64) := by
  apply Nat.eq_of_testBit_eq
  intro j
  rw [wdS_bit, adS_bit, Nat.testBit_or, wdS_bit, Nat.testBit_two_pow]
  by_cases hj : j < 64
  · rw [decide_eq_true hj, Bool.true_and, Bool.true_and, decide_eq_true (show 64 * (s / 64) + j < 4096 by omega), Bool.true_and]
    congr 1
    by_cases e : s % 64 = j
    · rw [decide_eq_true e, decide_eq_true (show s = 64 * (s / 64) + j by omega)]
    · rw [decide_eq_false e, decide_eq_false (show ¬ s = 64 * (s / 64) + j by omega)]
  · rw [decide_eq_false hj, decide_eq_false (show ¬ s % 64 = j by omega)]
    rfl
theorem wdS_ne (m : Sta) {s i : Nat} (h : i ≠ s / 64) : wdS (adS m s) i = wdS m i := by
  apply Nat.eq_of_testBit_eq
  intro j
  rw [wdS_bit, wdS_bit, adS_bit]
  by_cases hj : j < 64
  · rw [decide_eq_false (show ¬ s = 64 * i + j by omega), Bool.and_false, Bool.or_false]
  · rw [decide_eq_false hj, Bool.false_and, Bool.false_and]
theorem ccS_ad (m : Sta) {s : Nat} (hs : s < 4096) : (ccS m).setIfInBounds (s / 64) (.int .u64 ((wdS m (s / 64) ||| 2 ^ (s % 64) : Nat) : Int)) = ccS (adS m s) := by
  apply Array.ext_getElem?
  intro i
  by_cases hi : i < 64
  · by_cases e : s / 64 = i
    · subst e
      rw [Array.getElem?_setIfInBounds_self_of_lt (by rw [ccS_size]; exact hi), ccS_get hi, wdS_ad m hs]
    · rw [Array.getElem?_setIfInBounds_ne e, ccS_get hi, ccS_get hi, wdS_ne m (Ne.symm e)]
  · rw [Array.getElem?_eq_none (by rw [Array.size_setIfInBounds, ccS_size]; omega), Array.getElem?_eq_none (by rw [ccS_size]; omega)]
theorem wdS_has (m : Sta) (s : Nat) : (wdS m (s / 64) / 2 ^ (s % 64)) % 2 = (m.getLsbD s).toNat := by
  have h := wdS_bit m (s / 64) (s % 64)
  rw [decide_eq_true (show s % 64 < 64 by omega), Bool.true_and, show 64 * (s / 64) + s % 64 = s by omega] at h
  rw [← h, Nat.toNat_testBit]
@[irreducible] def noS : Sta := BitVec.ofNat 4096 0
theorem noS_bit (i : Nat) : noS.getLsbD i = false := by
  unfold noS
  exact BitVec.getLsbD_zero
theorem wdS_zero (i : Nat) : wdS noS i = 0 := by
  apply Nat.eq_of_testBit_eq
  intro j
  rw [wdS_bit, noS_bit, Bool.and_false, Nat.zero_testBit]
def enS (s : Sta) : Value := .agg (ccS s)
theorem enS_inj (s t : Sta) (h : enS s = enS t) : s = t := by
  unfold enS at h
  injection h with h
  exact ccS_inj h
abbrev kdS : Kd Sta := flatK (fun s => (ccS s).toList) 64 (fun s => by rw [Array.length_toList, ccS_size]) ccS_one
set_option maxRecDepth 100000 in
theorem lawS : Keyed Try.prog 95 :=
  Keyed.of_law (deep_law_laid (m := 4) (by kernel_rfl : laidOutB Try.prog = true) (by decide) (by decide +kernel) (by kernel_rfl) (by kernel_rfl))
def zeroS : Value := .agg (ccS noS)
theorem zeroS_size : zeroS.cells.size = 64 := by
  show (ccS noS).size = 64
  exact ccS_size _
theorem ccS_zero : ccS noS = (Array.range 64).map (fun _ => .int .u64 0) := by
  have h : vdS noS = fun _ => .int .u64 0 := by
    funext i
    unfold vdS
    rw [wdS_zero]; rfl
  unfold ccS
  rw [h]
theorem infoS : (Try.prog.info? 95).map (fun i => (i.zero, i.size, i.bytes)) = some (some zeroS, 64, 512) := by
  unfold zeroS
  rw [ccS_zero]
  kernel_rfl
theorem mapM_some {α β : Type} {f : α → Option β} {g : α → β} : ∀ (l : List α), (∀ a ∈ l, f a = some (g a)) → l.mapM f = some (l.map g)
  | [], _ => rfl
  | a :: l, h => by
    rw [List.mapM_cons, h a List.mem_cons_self, mapM_some l (fun b hb => h b (List.mem_cons_of_mem _ hb))]
    rfl
theorem ccS_cut (s : Sta) {i : Nat} (hi : i < 64) : ((ccS s).toList.drop (i * 1)).take 1 = [.int .u64 (wdS s i : Int)] := by
  have h : (ccS s).toList[i]? = some (.int .u64 (wdS s i : Int)) := by rw [Array.getElem?_toList]; exact ccS_get hi
  obtain ⟨hl, he⟩ := List.getElem?_eq_some_iff.1 h
  rw [Nat.mul_one, List.drop_eq_getElem_cons hl, he]
  rfl
set_option maxRecDepth 100000 in
theorem keyS (s : Sta) : ∃ q, keyOf Try.prog 95 (enS s) = some q := by
  have hkt : Try.prog.keyType 95 = true := by kernel_rfl
  obtain ⟨m, hm⟩ : ∃ m, Try.prog.types.size + 1 = m + 3 := ⟨Try.prog.types.size - 2, by decide +kernel⟩
  have h9 : Try.prog.cellsOf 95 = 64 := by kernel_rfl
  have h8 : Try.prog.cellsOf 93 = 1 := by kernel_rfl
  have hK : Try.prog.keyLits (m + 3) 95 (ccS s).toList = some (((List.range 64).map (fun i => [Lit.int .u64 (wdS s i : Int)])).flatten) := by
    unfold Program.keyLits
    simp only [Try.underlying95]
    rw [if_pos (by rw [Array.length_toList, ccS_size, h9])]
    rw [mapM_some (g := fun i => [Lit.int .u64 (wdS s i : Int)]) _ (fun i hi => ?_)]
    · rfl
    · rw [h8, ccS_cut s (List.mem_range.1 hi)]
      unfold Program.keyLits
      simp only [Try.underlying93]
      have hw : (Lit.int .u64 (wdS s i : Int)).wf = true := WalkArith.wf_u64 (by have := wdS_lt s i; omega)
      simp [hw]
  unfold keyOf enS
  simp only [Try.underlying95]
  rw [if_pos (by simp [hkt, Value.formed, Try.underlying95, h9, ccS_size]), hm]
  have hc : (Value.agg (ccS s)).cells = ccS s := rfl
  rw [hc, hK]
  exact ⟨_, rfl⟩
end Go.Proofs.Ytjedippbjjedlaa

namespace Go.Proofs.Ytjedippbjjedlaa
open Go.RowKit Go.Proofs.YtjedippbjjedlaaW.PrintWords
set_option linter.unusedSimpArgs false
set_option linter.unusedVariables false
/-- One block was written, no other. -/
structure Wrote (w : World) (g : Nat) (cs : Array Value) (w' : World) : Prop where
  is : w'.heap[g]? = some (.cells cs 95 (0, 0))
  no : ∀ i, i ≠ g → w'.heap[i]? = w.heap[i]?
  bel : ∀ w0, Below w0.heap.size w0 w → w0.heap.size ≤ g → Below w0.heap.size w0 w'
theorem setCell_row (w : World) (g i : Nat) (v : Value) {cs : Array Value} {t : TypeId} {fr : Nat × Nat} (h : w.heap[g]? = some (.cells cs t fr)) : (w.setCell ⟨g, i, none⟩ v).heap[g]? = some (.cells (cs.setIfInBounds i v) t fr) := by
  simp only [World.setCell, Array.getElem?_modify, if_pos, h]
  rfl
theorem or_bit64 (x i : Nat) (hx : x < 18446744073709551616) (hi : i < 64) : bits .or .u64 (x : Int) (IntKind.u64.wrap (2 ^ i)) = ((x ||| 2 ^ i : Nat) : Int) := by
  have h1 : (2 : Nat) ^ i < 2 ^ 64 := Nat.pow_lt_pow_right (by decide) hi
  have e : (2 : Int) ^ i = ((2 ^ i : Nat) : Int) := by push_cast; rfl
  have h2 : (2 : Nat) ^ 64 = 18446744073709551616 := by decide
  have h3 := Nat.pow_pos (n := i) (show 0 < 2 by decide)
  rw [e, IntWalk.u64_in _ ⟨by omega, by omega⟩, bits_or_u64_nat _ _ hx (by omega)]
set_option maxRecDepth 100000 in
set_option maxHeartbeats 400000 in
theorem has_any (m : Sta) (s : Nat) (hs : s < 4096) (g : Nat) (w : World) (hg : w.heap[g]? = some (.cells (ccS m) 95 (0, 0))) :
    Calls Try.prog 73 #[.pointer (some ⟨g, 0, none⟩), .int .i64 (s : Int)] w fun e w' => e = .returned (.bool (m.getLsbD s)) ∧ Below w.heap.size w w' := by
  have c0 : w.cell? ⟨g, s / 64, none⟩ = some (.int .u64 (wdS m (s / 64) : Int)) := by rw [cell_of_row _ _ _ _ _ _ hg]; exact ccS_get (by omega)
  have hd : Int.tdiv (s : Int) 64 = ((s / 64 : Nat) : Int) := rfl
  have hm : Int.tmod (s : Int) 64 = ((s % 64 : Nat) : Int) := rfl
  go_enter Try.func73, Try.ntmps73
  go_wp2
  go_ret
  refine ⟨?_, Below.refl _ _⟩
  have h2 : ((wdS m (s / 64) : Nat) : Int) / 2 ^ (s % 64) = ((wdS m (s / 64) / 2 ^ (s % 64) : Nat) : Int) := by push_cast; rfl
  have h3 := wdS_lt m (s / 64)
  have h4 : wdS m (s / 64) / 2 ^ (s % 64) ≤ wdS m (s / 64) := Nat.div_le_self _ _
  have h5 := bits_and_u64_nat (wdS m (s / 64) / 2 ^ (s % 64)) 1 (by omega) (by omega)
  rw [h2]
  have h6 : ((1 : Nat) : Int) = 1 := rfl
  rw [h6] at h5
  rw [h5, Nat.and_one_is_mod, wdS_has]
  cases m.getLsbD s <;> rfl
set_option maxRecDepth 100000 in
set_option maxHeartbeats 400000 in
theorem add_any (m : Sta) (s : Nat) (hs : s < 4096) (g : Nat) (w : World) (hg : w.heap[g]? = some (.cells (ccS m) 95 (0, 0))) :
    Calls Try.prog 70 #[.pointer (some ⟨g, 0, none⟩), .int .i64 (s : Int)] w fun e w' => e = .returned (.tuple #[]) ∧ Wrote w g (ccS (adS m s)) w' := by
  have c0 : w.cell? ⟨g, s / 64, none⟩ = some (.int .u64 (wdS m (s / 64) : Int)) := by rw [cell_of_row _ _ _ _ _ _ hg]; exact ccS_get (by omega)
  go_enter Try.func70, Try.ntmps70
  have fz : w.frozen? ⟨g, s / 64, none⟩ = false := frozen_of_row _ _ _ _ _ hg
  have hor : bits .or .u64 (wdS m (s / 64) : Int) (IntKind.u64.wrap (2 ^ (s % 64))) = ((wdS m (s / 64) ||| 2 ^ (s % 64) : Nat) : Int) := or_bit64 _ _ (wdS_lt _ _) (by omega)
  have hst := ccS_ad m hs
  go_wp2
  go_region
  go_wp2
  go_end0
  refine ⟨rfl, ?_, fun i hi => heap_setCell_other _ _ _ _ hi, fun w0 hb hle => (bl_cell hb (show w0.heap.size ≤ (⟨g, s / 64, none⟩ : Addr).block from hle) _).drew⟩
  have := setCell_row w g (s / 64) (.int .u64 ((wdS m (s / 64) ||| 2 ^ (s % 64) : Nat) : Int)) hg
  rw [hst] at this
  exact this
end Go.Proofs.Ytjedippbjjedlaa

namespace Go.Proofs.Ytjedippbjjedlaa
open Go.RowKit Go.Proofs.YtjedippbjjedlaaW.PrintWords
set_option linter.unusedSimpArgs false
set_option linter.unusedVariables false
section
variable {P : Program} {ops : Array Oper} {rest : List Oper} {o : Oper} {a : Act} {w : World} {Q : Exit → Act → World → Prop}
theorem gate_alloc {t : TypeId} (_ho : o.op = .alloc t) (h : wpList P ops Q (o :: rest) a w) : wpList P ops Q (o :: rest) a w := h
theorem gate_build {t : TypeId} {parts : Array (Nat × Operand)} (_ho : o.op = .build t parts) (h : wpList P ops Q (o :: rest) a w) : wpList P ops Q (o :: rest) a w := h
end
theorem zero_run (w : World) : (zeroValue 95).run Try.prog w = .ok zeroS w := by
  unfold zeroS
  rw [ccS_zero]
  have h : (zeroValue 95).run Try.prog w = .ok (.agg ((Array.range 64).map (fun _ => Value.int .u64 0))) w := by kernel_rfl
  exact h
theorem alloc_run (w : World) : (Instr.alloc 95 true (.tuple #[])).run Try.prog w = .ok (.pointer (some ⟨w.heap.size, 0, none⟩)) (w.alloc (.cells (ccS noS) 95)) := by
  unfold Instr.alloc
  rw [Sem.run_bind, zero_run]
  rfl
section
variable {ops : Array Oper} {rest : List Oper} {o : Oper} {a : Act} {w : World} {Q : Exit → Act → World → Prop}
theorem wpl_allocS (hgd : o.guard = none) (ho : o.op = .alloc 95) (h : wpList Try.prog ops Q rest (a.put o.dst (.pointer (some ⟨w.heap.size, 0, none⟩))) (w.alloc (.cells (ccS noS) 95))) : wpList Try.prog ops Q (o :: rest) a w :=
  wpList_plain hgd fun K hK => by
    unfold Oper.wp execOp
    simp only [ho, Sem.run_bind, alloc_run, Result.andThen_ok, Sem.run_pure]
    exact hK _ _ h
end
/-- What the letter leads into a set from. -/
def rvS (x : AutV) (m : Sta) (l : Nat) : Nat → Sta
  | 0 => noS
  | n + 1 => if m.getLsbD (stp x n l) then adS (rvS x m l n) n else rvS x m l n
theorem rvS_bit (x : AutV) (m : Sta) (l i : Nat) : ∀ n, n ≤ 4096 → (rvS x m l n).getLsbD i = (decide (i < n) && m.getLsbD (stp x i l))
  | 0, _ => by rw [show rvS x m l 0 = noS from rfl, noS_bit]; simp
  | n + 1, h => by
    have ih := rvS_bit x m l i n (by omega)
    rw [rvS]
    by_cases e : i = n
    · subst e
      by_cases hm : m.getLsbD (stp x i l)
      · rw [if_pos hm, adS_bit, hm]; simp; omega
      · rw [if_neg hm, ih]; simp [hm]
    · have h1 : (decide (i < n + 1)) = decide (i < n) := by
        by_cases hl : i < n
        · simp [hl]; omega
        · simp [hl]; omega
      split
      · rw [adS_bit, ih, h1, decide_eq_false (fun h => e h.symm : ¬ n = i)]; simp
      · rw [ih, h1]
/-- Where Reverse's closure stands. -/
structure RvZ (m o : Sta) (w wr : World) : Prop where
  box : wr.heap[w.heap.size]? = some (.cells (ccS m) 95 (0, 0))
  res : wr.heap[w.heap.size + 1]? = some (.cells (ccS noS) 95 (0, 0))
  out : wr.heap[w.heap.size + 1 + 1]? = some (.cells (ccS o) 95 (0, 0))
  bel : Below w.heap.size w wr
theorem RvZ.keep {m o : Sta} {w wr w2 : World} (h : RvZ m o w wr) (hb : Below wr.heap.size wr w2) : RvZ m o w w2 := ⟨hp_below' hb h.box, hp_below' hb h.res, hp_below' hb h.out, bl_then h.bel hb⟩
theorem RvZ.wrote {m o o2 : Sta} {w wr w2 : World} (h : RvZ m o w wr) (hw : Wrote wr (w.heap.size + 1 + 1) (ccS o2) w2) : RvZ m o2 w w2 := ⟨(hw.no _ (by omega)).trans h.box, (hw.no _ (by omega)).trans h.res, hw.is, hw.bel w h.bel (by omega)⟩
set_option maxRecDepth 100000 in
set_option maxHeartbeats 800000 in
theorem revN_any (x : AutV) (A : Option Addr) (c : Nat) (B : Option Addr) (d : Nat) (gx : Nat) (hx : AutOk x) (m : Sta) (l : Nat) (hl : (l : Int) < x.k) (w : World) (hg : w.heap[gx]? = some (AB x A c B d)) (hr : ARd w x A B) :
    Calls Try.prog 72 #[.agg (ccS m), .int .i64 (l : Int), .pointer (some ⟨gx, 0, none⟩)] w fun e w' => e = .returned (.agg (ccS (rvS x m l x.acc.length))) ∧ Below w.heap.size w w' := by
  have HX := Lib.hid hx
  have HR := Aside0.mk hr
  have HG := Lib.hid hg
  have hn2 := hx.2.2.2.1
  have h0 : RvZ m noS w (((w.alloc (.cells (ccS m) 95)).alloc (.cells (ccS noS) 95)).alloc (.cells (ccS noS) 95)) := by
    have e := ((((Hp.start w).alloc (.cells (ccS m) 95)).alloc (.cells (ccS noS) 95)).alloc (.cells (ccS noS) 95))
    rw [World.size_alloc, World.size_alloc] at e
    exact ⟨e.at 2 rfl, e.at 1 rfl, e.at 0 rfl, e.2⟩
  have H0 := Lib.hid h0
  have c0 : (((w.alloc (.cells (ccS m) 95)).alloc (.cells (ccS noS) 95)).alloc (.cells (ccS noS) 95)).cell? ⟨gx, 2, none⟩ = some (.slice B x.acc.length d) := by
    rw [cell_of_row _ _ _ _ _ _ (hp_old (hp_old (hp_old hg)))]; rfl
  clear h0 hr hg hx
  go_enter Try.func72, Try.ntmps72
  go_wp2_with ((with_reducible refine gate_alloc (t := 95) rfl ?_); refine wpl_allocS rfl rfl ?_)
  clear c0
  go_loopw [11] (fun i wr => ∃ q : Nat, q ≤ x.acc.length ∧ i = .int .i64 q ∧ Hid (RvZ m (rvS x m l q) w wr)) (fun i _ => x.acc.length - (intOf i).toNat)
  case atStart => exact ⟨0, by omega, rfl, H0⟩
  case round =>
    obtain ⟨i, hi, rfl, H⟩ := hrel
    by_cases hil : i < x.acc.length
    · obtain ⟨ad, p, L1⟩ := lkT HX.out (HR.out.below H.out.bel) hil hl
      obtain ⟨z1l, _⟩ := stp_lt HX.out hil hl
      have hgx := hp_below' H.out.bel HG.out
      have c0 : wr.cell? ⟨gx, 0, none⟩ = some (.int .i64 x.k) := by rw [cell_of_row _ _ _ _ _ _ hgx]; rfl
      have c1 : wr.cell? ⟨gx, 1, none⟩ = some (.slice A x.next.length c) := by rw [cell_of_row _ _ _ _ _ _ hgx]; rfl
      have hA := L1.addr; have hcell := L1.cell; have hw5 := L1.mul; have hw11 := L1.add; have hw12 := L1.pos; have hw14 := L1.lt; have hw13 := L1.nat
      have HAS := Aside0.mk (has_any m (stp x i l) (by omega) w.heap.size wr H.out.box)
      have hnx : rvS x m l (i + 1) = if m.getLsbD (stp x i l) then adS (rvS x m l i) i else rvS x m l i := rfl
      generalize stp x i l = t at *
      subst hA
      clear L1 hgx
      go_wp2_with fail
      refine HAS.out.mono ?_
      rintro e w2 ⟨rfl, hb⟩
      have H2 := Lib.hid (H.out.keep hb)
      clear hb c0 c1 hcell hw5 hw11 hw12 hw14 hw13 H HAS
      cases hm : m.getLsbD t
      · rw [hm, if_neg (by decide)] at hnx
        rw [← hnx] at H2
        clear hm hnx
        go_wp2
        go_roundw
        case rel => exact ⟨i + 1, by omega, by go_num, H2⟩
        case measure => simp [intOf]; omega
      · rw [hm, if_pos rfl] at hnx
        have AD := Aside0.mk (add_any (rvS x m l i) i (by omega) (w.heap.size + 1 + 1) w2 H2.out.out)
        clear hm
        go_wp2_with fail
        refine AD.out.mono ?_
        rintro e w3 ⟨rfl, hw⟩
        have H3 := Lib.hid (H2.out.wrote hw)
        rw [← hnx] at H3
        clear hw AD H2 hnx
        go_wp2
        go_roundw
        case rel => exact ⟨i + 1, by omega, by go_num, H3⟩
        case measure => simp [intOf]; omega
    · have hie : i = x.acc.length := by omega
      rw [hie] at H
      clear hie
      go_wp2_with (first | ((with_reducible refine gate_ld (t := 95) rfl ?_); refine wpl_rowS (cs := ccS (rvS x m l x.acc.length)) rfl 95 _ rfl (w.heap.size + 1 + 1) rfl H.out.out rfl Try.underlying95 (by rw [ccS_size]; kernel_rfl) ?_) | ((with_reducible refine gate_st (t := 95) rfl ?_); refine wpList_store_row rfl 95 _ _ rfl (w.heap.size + 1) (ccS (rvS x m l x.acc.length)) rfl rfl 95 (ccS noS) H.out.res (by rw [ccS_size]; kernel_rfl) (by rw [ccS_size, ccS_size]) (ccS_all _) ?_))
      refine bodyPost_ret (v := .agg (ccS (rvS x m l x.acc.length))) ?_ rfl ⟨rfl, bl_row H.out.bel (by omega) _⟩
      exact results_cell_row rfl _ _ (w.heap.size + 1) 95 _ _ _ rfl (setRow_heap _ _ _ _ _ _ H.out.res) Try.underlying95 rfl (by rw [ccS_size]; kernel_rfl)
set_option maxRecDepth 100000 in
set_option maxHeartbeats 400000 in
theorem revG_any (m : Sta) (w : World) : Calls Try.prog 74 #[.agg (ccS m)] w fun e w' => e = .returned (.bool (m.getLsbD 0)) ∧ Below w.heap.size w w' := by
  have HB := Lib.hid (bl_alloc (Below.refl w.heap.size w) (.cells (ccS m) 95))
  have HAS := Aside0.mk (has_any m 0 (by decide) w.heap.size (w.alloc (.cells (ccS m) 95)) (hp_new rfl))
  go_enter Try.func74, Try.ntmps74
  go_wp2_with fail
  refine HAS.out.mono ?_
  rintro e w2 ⟨rfl, hb⟩
  have HF := Lib.hid (bl_then HB.out hb)
  clear hb HAS
  go_wp2
  go_ret
  exact ⟨rfl, HF.out⟩
end Go.Proofs.Ytjedippbjjedlaa

namespace Go.Proofs.Ytjedippbjjedlaa
open Go.RowKit Go.Proofs.YtjedippbjjedlaaW.PrintWords
set_option linter.unusedSimpArgs false
set_option linter.unusedVariables false
set_option maxRecDepth 100000 in
set_option maxHeartbeats 3200000 in
theorem searchS_any (k : Nat) (hk : 0 < k) (hk8 : k ≤ 8) (step : Sta → Nat → Sta) (first : Sta) (good : Sta → Bool) (fn fg : FuncId) (cn cg : Array Value) (w : World)
    (hkey : ∀ m, ∀ s ∈ bs k step first m, ∃ q, keyOf Try.prog 95 (enS s) = some q) (hen : ∀ args W, (callFunc fn args).run Try.prog W = .ok (.enter fn args) W) (heg : ∀ args W, (callFunc fg args).run Try.prog W = .ok (.enter fg args) W)
    (HN : ∀ (s : Sta) (m c : Nat), s ∈ bs k step first m → c < k → ∀ W : World, Below w.heap.size w W → Calls Try.prog fn (#[.agg (ccS s), .int .i64 (c : Int)] ++ cn) W fun e w' => e = .returned (.agg (ccS (step s c))) ∧ Below W.heap.size W w')
    (HG : ∀ (s : Sta) (m : Nat), s ∈ bs k step first m → ∀ W : World, Below w.heap.size w W → Calls Try.prog fg (#[.agg (ccS s)] ++ cg) W fun e w' => e = .returned (.bool (good s)) ∧ Below W.heap.size W w') :
    Calls Try.prog 71 #[.int .i64 (k : Int), .agg (ccS first), .func (.func fn) #[] cn, .func (.func fg) #[] cg] w fun e w' => ∃ vn va, e = .returned (.tuple #[.agg #[.int .i64 (srV k step first good).k, vn, va], .int .i64 (srE k step first)]) ∧
      Own w' w.heap.size vn (srV k step first good).next ∧ Kd.R Kd.bool 4 w' w.heap.size (fun _ => True) va (srV k step first good).acc ∧ Below w.heap.size w w' := by
  have HNX := Aside0.mk HN
  have HGD := Aside0.mk HG
  have HKY := Lib.hid hkey
  have hf := hkey 0 first (by simp [bs, bw, rn])
  have hmm := @run_makeMap Try.prog
  have h00 := ((Hp.start w).alloc (.cells (ccS first) 95)).alloc (.cells #[.int .i64 0, .slice none 0 0, .slice none 0 0] 25)
  rw [World.size_alloc] at h00
  have HB0 := Lib.hid h00
  clear h00
  have M0 : MapIs ((((w.alloc (.cells (ccS first) 95)).alloc (.cells #[.int .i64 0, .slice none 0 0, .slice none 0 0] 25)).alloc (.cells #[.int .i64 k, .slice none 0 0, .slice none 0 0] 25)).alloc (.map #[] 0)) ((((w.alloc (.cells (ccS first) 95)).alloc (.cells #[.int .i64 0, .slice none 0 0, .slice none 0 0] 25)).alloc (.cells #[.int .i64 k, .slice none 0 0, .slice none 0 0] 25))).heap.size (nents enS []) := MapIs.new _
  obtain ⟨w3, hrun, hM, hT⟩ := nents_put (s := first) M0 lawS enS_inj (fun s hs => by cases hs) hf Try.underlying114 (by simp)
  rw [World.size_alloc, World.size_alloc, World.size_alloc] at hrun hM hT
  have HRN := Aside0.mk hrun
  have hs3 : w3.heap.size = w.heap.size + 4 := by rw [hT.size, World.size_alloc, World.size_alloc, World.size_alloc, World.size_alloc]
  have bx : w3.heap[w.heap.size]? = some (.cells (ccS first) 95 (0, 0)) := (hT.block _ (by omega)).trans (hp_old (hp_old (hp_old (hp_new rfl))))
  have bx0 := hp_old (o := .map #[] 0) (hp_old (o := .cells #[.int .i64 k, .slice none 0 0, .slice none 0 0] 25) (HB0.out.at 1 rfl))
  have BX := Lib.hid bx; have BX0 := Lib.hid bx0
  clear hrun M0 HN HG hkey hf bx bx0
  go_enter Try.func71, Try.ntmps71
  go_wp2_with (first | ((with_reducible refine gate_st (t := 25) rfl ?_); refine st_auz (k := (k : Int)) _ _ rfl rfl rfl rfl rfl ?_) | ((with_reducible refine gate_ld (t := 95) rfl ?_); refine wpl_rowS (cs := ccS first) rfl 95 _ rfl (w.heap.size) rfl BX0.out rfl Try.underlying95 (by rw [ccS_size]; kernel_rfl) ?_) | ((with_reducible refine gate_ins (t := 114) rfl ?_); refine mp_ins _ _ _ _ rfl _ _ _ rfl rfl rfl rfl HRN.out ?_) | ((with_reducible refine gate_ld (t := 95) rfl ?_); refine wpl_rowS (cs := ccS first) rfl 95 _ rfl (w.heap.size) rfl BX.out rfl Try.underlying95 (by rw [ccS_size]; kernel_rfl) ?_) | ((with_reducible refine gate_lit (t := 115) rfl ?_); refine wpl_boxA rfl 115 95 _ rfl (ccS first) rfl Try.underlying115 infoS (by decide) (by decide) (ccS_size _) ?_))
  have SI : Hid (SS kdS 95 enS w (w3.alloc (.cells (ccS first) 95)) (w.heap.size + 1) (k : Int) (w.heap.size + 1 + 1) (w.heap.size + 1 + 1 + 1) (.slice (some ⟨w.heap.size + 4, 0, none⟩) 1 1) (.slice none 0 0) (.slice none 0 0) (bs k step first (0 * k)) (nx k step first (0 * k)) (sac k step first good 0 (0 * k))) := by
    have e0 : bs k step first (0 * k) = [first] := by rw [Nat.zero_mul]; rfl
    have e1 : nx k step first (0 * k) = [] := by rw [Nat.zero_mul]; rfl
    have e2 : sac k step first good 0 (0 * k) = [] := by unfold sac; rw [List.take_zero]; rfl
    rw [e0, e1, e2]
    have hbb : Below w.heap.size w w3 := hT.below (bl_alloc (bl_alloc (bl_alloc (bl_alloc (Below.refl _ w) _) _) _) _) (by omega)
    refine Lib.hid ⟨hp_old ((hT.block _ (by omega)).trans (hp_old (hp_old (hp_new (by simp))))), hp_old ((hT.block _ (by omega)).trans (hp_old (hp_new (by simp)))), hM.of (by exact (Below.heap_alloc _ _ _ (by omega))), ?_, Kd.R_nil _ _ _ _ _, Kd.R_nil _ _ _ _ _, sep_nil _, bl_alloc hbb _, by omega, by omega, by omega⟩
    exact R_oneG (by rw [← hs3]; exact hp_new rfl) rfl (by omega)
  clear hM hT HRN hmm hs3 BX BX0 HB0
  go_loopw [12, 13] (fun v i wr => ∃ (q : Nat) (vn va : Value), i = .int .i64 q ∧ Hid (q ≤ (bs k step first (q * k)).length ∧ (bs k step first (q * k)).length ≤ 4096) ∧ Hid (SS kdS 95 enS w wr (w.heap.size + 1) (k : Int) (w.heap.size + 1 + 1) (w.heap.size + 1 + 1 + 1) v vn va (bs k step first (q * k)) (nx k step first (q * k)) (sac k step first good q (q * k)))) (fun _ i _ => 4097 - (intOf i).toNat)
  case atStart => exact ⟨0, _, _, rfl, Lib.hid ⟨Nat.zero_le _, by rw [Nat.zero_mul]; simp [bs, bw]⟩, SI⟩
  case round =>
    obtain ⟨i, vn, va, rfl, HK, H⟩ := hrel
    obtain ⟨hK1, hK2⟩ := HK.out
    obtain ⟨lb, lc, rfl, hlb, hlbs, hlcell⟩ := own_formG H.out.lst (by exact List.length_pos_of_mem (List.mem_of_getElem? (bs_pos _)))
    by_cases hil : i < (bs k step first (i * k)).length
    · obtain ⟨s, hs⟩ : ∃ s, (bs k step first (i * k))[i]? = some s := ⟨_, List.getElem?_eq_getElem hil⟩
      have cl1 : HasC wr lb (i * 64) (ccS s) := hlcell i s hs
      have hnl : some lb ≠ va.ownBlock := fun e => sep_type H.out.lst H.out.acc (by decide) lb rfl e.symm
      have hlg : lb ≠ w.heap.size + 1 + 1 := fun e => Kd.R_ne H.out.lst H.out.out (by decide) (by rw [e]; rfl)
      have HSM := Lib.hid hs
      have GC := Aside0.mk (fun (W : World) (hb : Below w.heap.size w W) => HGD.out s (i * k) (List.mem_of_getElem? hs) W hb)
      have HD := Lib.hid H.out.drew
      have HCL := Lib.hid cl1
      clear hs hlcell SI
      go_wp2
      refine wp_region_held_drew (S := fun w' => HasC w' lb (i * 64) (ccS s)) (by kernel_rfl) (fun j u hu => cl1 j u hu) (fun hS => ?_)
      refine any_take (i := 0) (v := ?v3) rfl (by kernel_rfl) (by kernel_rfl) (by kernel_rfl) (fun _ _ _ h => h) hS (.inl ⟨by rfl, ?y3⟩) ?_
      case y3 => (intro w' h'; go_simp; with_reducible rfl)
      (try simp only [Act.put, List.setIfInBounds_toArray, List.set_cons_zero, List.set_cons_succ])
      refine any_take (i := 2) (v := ?v4) rfl (by kernel_rfl) (by kernel_rfl) (by kernel_rfl) (fun _ _ _ h => h) hS (.inl ⟨by rfl, ?y4⟩) ?_
      case y4 => (intro w' h'; go_simp; with_reducible rfl)
      (try simp only [Act.put, List.setIfInBounds_toArray, List.set_cons_zero, List.set_cons_succ])
      refine any_take (i := 3) (v := ?v5) rfl (by kernel_rfl) (by kernel_rfl) (by kernel_rfl) (fun _ _ _ h => h) hS (.inl ⟨by rfl, ?y5⟩) ?_
      case y5 => (intro w' h'; go_simp; with_reducible rfl)
      (try simp only [Act.put, List.setIfInBounds_toArray, List.set_cons_zero, List.set_cons_succ])
      refine any_take (i := 4) (v := ?v6) rfl (by kernel_rfl) (by kernel_rfl) (by kernel_rfl) (fun _ _ _ h => h) hS (.inl ⟨by rfl, ?y6⟩) ?_
      case y6 => (intro w' h'; go_simp; with_reducible rfl)
      (try simp only [Act.put, List.setIfInBounds_toArray, List.set_cons_zero, List.set_cons_succ])
      refine any_take (i := 5) (v := ?v7) rfl (by kernel_rfl) (by kernel_rfl) (by kernel_rfl) (fun _ _ _ h => h) hS (.inl ⟨by rfl, ?y7⟩) ?_
      case y7 => (intro w' h'; go_simp; with_reducible rfl)
      (try simp only [Act.put, List.setIfInBounds_toArray, List.set_cons_zero, List.set_cons_succ])
      refine any_take (i := 6) rfl (by kernel_rfl) (by kernel_rfl) (by kernel_rfl) (fun _ _ _ h => h) hS (HasC.yi (lb := lb) (i := i * 64) (cs := ccS s) _ rfl (by rfl) rfl rfl Try.underlying95 (by rw [ccS_size]; kernel_rfl) (fun w' h' => h')) ?_
      (try simp only [Act.put, List.setIfInBounds_toArray, List.set_cons_zero, List.set_cons_succ])
      have hcall := GC.out wr.drew HD.out.bel
      refine any_gapp (i1 := 1) (ic := 7) (i2 := 8) rfl rfl rfl (by kernel_rfl) (by kernel_rfl) (by kernel_rfl) (by kernel_rfl) (by kernel_rfl) rfl rfl rfl (by decide) (by decide) 23 4 rfl rfl Try.underlying23 (w.heap.size + 1 + 1) 2 va (.bool (good s)) [.bool (good s)] (run_box1 _ _ Try.underlying23 info_bool rfl rfl) fg _ _ hcall (fun e w' h => h) (by simp [go_sem, heg]) (by simp [go_sem, heg]) rfl rfl (fun _ => rfl) rfl rfl rfl (fun _ => rfl) (by rw [cell_of_row _ _ _ _ _ _ HD.out.out]; rfl) hS (fun w' hb => hS.keep hb) (fun w' hb => (hS.keep hb).keep (bl_alloc (Below.refl _ _) _)) (fun w1 hb => ?hh)
      case hh =>
        have HB := Lib.hid (HD.out.below hb)
        have hS1 := hS.keep hb
        (try simp only [Act.put, List.setIfInBounds_toArray, List.set_cons_zero, List.set_cons_succ])
        refine any_append Kd.bool (w0 := w) w.heap.size (i := 9) rfl (by kernel_rfl) (by rfl) _ _ 23 4 (.bool false) 1 rfl Try.underlying23 info_bool rfl (by decide) (by decide) va (sac k step first good i (i * k)) (good s) [.bool (good s)] rfl rfl rfl HB.out.acc HB.out.bel HB.out.bel.size ?f6 (fun v1 w2 ho hb2 ha => ?_)
        case f6 =>
          have : (sac k step first good i (i * k)).length ≤ 4096 := by unfold sac; rw [List.length_map, List.length_take]; omega
          omega
        have hv1 := own_val ho
        have hout1 := ha.cells HB.out.out HB.out.acc (by decide)
        have hlbs1 : lb < w1.heap.size := by
          have h1 := Kd.R_lt HB.out.lst lb rfl
          exact h1
        have hS2 : HasC w2 lb (i * 64) (ccS s) := hS1.kept (ha.gr.block lb hlbs1 hnl)
        refine ⟨hS2, ?_⟩
        (try simp only [Act.put, List.setIfInBounds_toArray, List.set_cons_zero, List.set_cons_succ])
        refine any_take (i := 10) (v := ?v13) rfl (by kernel_rfl) (by kernel_rfl) (by kernel_rfl) (fun _ _ _ h => h) hS2 (.inl ⟨by rfl, ?y13⟩) ?_
        case y13 => (intro w' h'; go_simp; with_reducible rfl)
        (try simp only [Act.put, List.setIfInBounds_toArray, List.set_cons_zero, List.set_cons_succ])
        refine any_one (i := 11) rfl (by kernel_rfl) (by rfl) (wp_store1 23 _ _ rfl (w.heap.size + 1 + 1) 2 v1 va rfl rfl (by kernel_rfl) hv1.1 hv1.2 (by rw [cell_of_row _ _ _ _ _ _ hout1]; rfl) (frozen_of_row _ _ _ _ _ hout1) ⟨?_, ?_⟩)
        · exact hS2.kept (heap_setCell_other _ _ _ _ (fun e => hlg e))
        (try simp only [Act.put, List.setIfInBounds_toArray, List.set_cons_zero, List.set_cons_succ])
        refine wpAnyH_done (by kernel_rfl) ?_ _
        have HM := Lib.hid (HB.out.acc_step rfl (by decide) (by decide) ho hb2 ha)
        clear hv1 hout1 hS1 hS2 ho hb2 ha HD HB H hS hb GC HCL cl1 hnl hlg hlbs1
        rw [← sac_next good HSM.out] at HM
        generalize w2.setCell ⟨w.heap.size + 1 + 1, 2, none⟩ v1 = w5 at *
        clear hcall
        go_wp2
        go_loopw [12, 43] (fun v l wi => ∃ (c : Nat) (vn : Value), c ≤ k ∧ l = .int .i64 c ∧ Hid ((bs k step first (i * k + c)).length ≤ 4096) ∧ Hid (SS kdS 95 enS w wi (w.heap.size + 1) (k : Int) (w.heap.size + 1 + 1) (w.heap.size + 1 + 1 + 1) v vn v1 (bs k step first (i * k + c)) (nx k step first (i * k + c)) (sac k step first good (i + 1) (i * k)))) (fun _ l _ => k - (intOf l).toNat)
        case atStart => exact ⟨0, _, by omega, rfl, Lib.hid hK2, HM⟩
        case round =>
          obtain ⟨c, vn2, hc, rfl, HL, G⟩ := hrel
          have hL := HL.out
          obtain ⟨lb2, lc2, rfl, hlb2, hlbs2, hlcell2⟩ := own_formG G.out.lst (by exact List.length_pos_of_mem (List.mem_of_getElem? (bs_pos _)))
          by_cases hck : c < k
          · have hsq : (bs k step first (i * k + c))[i]? = some s := bs_keep (Nat.le_add_right _ _) HSM.out
            obtain ⟨hk2, hk3⟩ := List.getElem?_eq_some_iff.1 hsq
            have cl1 : HasC wr lb2 (i * 64) (ccS s) := hlcell2 i s hsq
            have CL := Aside0.mk cl1
            have HSQ := Lib.hid hsq
            clear hsq hk3 hlcell2 cl1
            go_wp2_with ((with_reducible refine gate_ld (t := 95) rfl ?_); refine HasC.ld CL.out rfl 95 _ rfl rfl rfl Try.underlying95 (by rw [ccS_size]; kernel_rfl) ?_)
            have hcall2 := HNX.out s (i * k + c) c (List.mem_of_getElem? HSQ.out) hck wr G.out.bel
            refine hcall2.mono ?_
            rintro e w6 ⟨rfl, hb⟩
            clear hcall2
            obtain ⟨t, ht⟩ : ∃ t, t = step s c := ⟨_, rfl⟩
            have GD := Lib.hid ((G.out.below hb).below (bl_alloc (Below.refl _ _) (.cells (ccS t) 95)))
            have TB := Lib.hid (hp_new (w := w6) (o := .cells (ccS t) 95) rfl)
            have HTT := Lib.hid ht
            have hin : ∃ m, t ∈ bs k step first m := ⟨(i * k + c) + 1, by
              have h1 := bs_next (k := k) (step := step) (first := first) (m := i * k + c) (s := s) (by rw [show (i * k + c) / k = i by rw [Nat.add_comm, Nat.add_mul_div_right _ _ hk, Nat.div_eq_of_lt hck, Nat.zero_add]]; exact HSQ.out)
              rw [show (i * k + c) % k = c by rw [Nat.add_comm, Nat.add_mul_mod_self_right, Nat.mod_eq_of_lt hck], ← ht] at h1
              rw [h1]
              split
              · assumption
              · simp⟩
            have htk : ∃ q, keyOf Try.prog 95 (enS t) = some q := by obtain ⟨m, hm⟩ := hin; exact HKY.out m t hm
            have HTK := Aside0.mk htk
            have hcond : Hid (t ∈ bs k step first (i * k + c) → bs k step first (i * k + (c + 1)) = bs k step first (i * k + c) ∧ nx k step first (i * k + (c + 1)) = nx k step first (i * k + c) ++ [@List.idxOf _ instBEqOfDecidableEq t (bs k step first (i * k + c))]) := Lib.hid (fun hm => by rw [ht] at hm ⊢; exact bs_old hck HSQ.out hm)
            have hcond2 : Hid (t ∉ bs k step first (i * k + c) → bs k step first (i * k + (c + 1)) = bs k step first (i * k + c) ++ [t] ∧ nx k step first (i * k + (c + 1)) = nx k step first (i * k + c) ++ [(bs k step first (i * k + c)).length]) := Lib.hid (fun hm => by rw [ht] at hm ⊢; exact bs_new hck HSQ.out hm)
            have hnd : Hid ((bs k step first (i * k + c)).Nodup) := Lib.hid (bs_nodup _)
            have hky : Hid (∀ s ∈ bs k step first (i * k + c), ∃ q, keyOf Try.prog 95 (enS s) = some q) := Lib.hid (fun s hs => HKY.out _ s hs)
            have hnl : Hid ((nx k step first (i * k + c)).length ≤ 40960) := Lib.hid (by
              have h1 := nx_le' (k := k) (step := step) (first := first) (i * k + c)
              have h2 : i * k + c ≤ (i + 1) * k := by rw [Nat.succ_mul]; omega
              have h3 : (i + 1) * k ≤ 4096 * 8 := Nat.mul_le_mul (by omega) hk8
              omega)
            have hi4 : i < 4096 := by omega
            rw [← ht]
            clear hb G CL ht hin htk
            generalize hL1 : bs k step first (i * k + c) = L1 at *
            have HL1 := Lib.hid hL1
            clear hL1
            generalize nx k step first (i * k + c) = N1 at *
            have LK := nents_look (s := t) GD.out.mp lawS enS_inj hnd.out hky.out HTK.out Try.underlying114 (by kernel_rfl) true
            by_cases hm : t ∈ L1
            · rw [if_pos hm, if_pos rfl] at LK
              obtain ⟨e1, e2⟩ := hcond.out hm
              have HE1 := Lib.hid e1; have HE2 := Lib.hid e2
              have HLK := Aside0.mk LK
              have c4 : (w6.alloc (.cells (ccS t) 95)).cell? ⟨w.heap.size + 1 + 1, 1, none⟩ = some vn2 := by rw [cell_of_row _ _ _ _ _ _ GD.out.out]; rfl
              clear e1 e2 LK hcond hcond2 hm
              generalize @List.idxOf _ instBEqOfDecidableEq t L1 = y at *
              go_wp2_with (first | ((with_reducible refine gate_st (t := 95) rfl ?_); refine st_new (cs := ccS t) _ _ rfl rfl rfl rfl (by rw [ccS_size]; kernel_rfl) (by rw [ccS_size]; rfl) (ccS_all t) ?_) | ((with_reducible refine gate_ld (t := 95) rfl ?_); refine wpl_rowS (cs := ccS t) rfl 95 _ rfl w6.heap.size rfl TB.out rfl Try.underlying95 (by rw [ccS_size]; kernel_rfl) ?_) | ((with_reducible refine gate_look (c := true) rfl ?_); refine mp_look _ _ _ _ rfl _ _ _ rfl rfl rfl HLK.out ?_) | ((with_reducible refine gate_builtin (b := .append) (xs := #[.tmp 75, .tmp 77]) rfl ?_); at_builtin; refine wpl_append (Kd.int .i64) (w0 := w) w.heap.size rfl (.tmp 75) (.tmp 77) 22 3 (.int .i64 0) 8 rfl Try.underlying22 info_int rfl (by decide) (by omega) vn2 (zl N1) (y : Int) [.int .i64 y] rfl (by first | rfl | (rw [World.size_alloc]; rfl)) rfl GD.out.nxt GD.out.bel GD.out.bel.size (by rw [zl_len]; have := hnl.out; omega) (fun v4 w9 ho hb ha => ?_); have d1 : w9.cell? ⟨w.heap.size + 1 + 1, 1, none⟩ = some vn2 := (by rw [cell_of_row _ _ _ _ _ _ (ha.cells GD.out.out GD.out.nxt (by decide))]; rfl); have f1 : w9.frozen? ⟨w.heap.size + 1 + 1, 1, none⟩ = false := frozen_of_row _ _ _ _ _ (ha.cells GD.out.out GD.out.nxt (by decide)); have hm3 := GD.out.nxt_step (b := y) rfl (by decide) ho hb ha; obtain ⟨A4, c4', rfl⟩ := Kd.R_slice ho; rw [List.length_append, List.length_singleton] at hm3; have HM3 := Lib.hid hm3; clear ho hb ha hm3))
              go_roundw
              case rel => exact ⟨c + 1, _, by omega, by go_num, by rw [HE1.out]; exact HL, by rw [HE1.out, HE2.out]; exact HM3⟩
              case measure => simp [intOf]; omega
            · rw [if_neg hm, if_pos rfl] at LK
              obtain ⟨e1, e2⟩ := hcond2.out hm
              by_cases hfull : L1.length = 4096
              · have HER : Hid (srE k step first = 81) := Lib.hid (by
                  refine sr_many hk (m := i * k + (c + 1)) ?_ ?_
                  · have h3 : (i + 1) * k ≤ 4096 * k := Nat.mul_le_mul (by omega) (Nat.le_refl _)
                    rw [Nat.succ_mul] at h3
                    omega
                  · rw [e1, List.length_append, hfull]; simp)
                have HVN := Lib.hid (srV_no (k := k) (step := step) (first := first) good (by rw [HER.out]; decide))
                have HLK := Aside0.mk LK
                have hfb : ((L1.length : Int) == 4096) = true := by rw [beq_iff_eq]; omega
                have hfb2 : (L1.length == 4096) = true := by rw [beq_iff_eq]; omega
                clear e1 e2 LK hcond hcond2 hm hfull
                go_wp2_with (first | ((with_reducible refine gate_st (t := 95) rfl ?_); refine st_new (cs := ccS t) _ _ rfl rfl rfl rfl (by rw [ccS_size]; kernel_rfl) (by rw [ccS_size]; rfl) (ccS_all t) ?_) | ((with_reducible refine gate_ld (t := 95) rfl ?_); refine wpl_rowS (cs := ccS t) rfl 95 _ rfl w6.heap.size rfl TB.out rfl Try.underlying95 (by rw [ccS_size]; kernel_rfl) ?_) | ((with_reducible refine gate_look (c := true) rfl ?_); refine mp_look _ _ _ _ rfl _ _ _ rfl rfl rfl HLK.out ?_) | ((with_reducible refine gate_st (t := 25) rfl ?_); refine wpList_store_row rfl 25 _ _ rfl (w.heap.size + 1) #[.int .i64 0, .slice none 0 0, .slice none 0 0] rfl rfl 25 _ GD.out.res (by show _ = some 3; kernel_rfl) rfl (by simp [Value.oneCell']) ?_))
                refine bodyPost_ret (v := .tuple #[.agg #[.int .i64 0, .slice none 0 0, .slice none 0 0], .int .i64 81]) ?_ rfl ⟨_, _, by rw [HVN.out, HER.out], by rw [HVN.out]; exact Kd.R_nil _ _ _ _ _, by rw [HVN.out]; exact Kd.R_nil _ _ _ _ _, bl_row GD.out.bel (by omega) _⟩
                refine (results_cell_tmp (p := 8) (t := 9) (by rfl) _ _ (w.heap.size + 1) 25 _ _ _ ?_ (setRow_heap _ _ _ _ _ _ GD.out.res) Try.underlying25 rfl (by show _ = some 3; kernel_rfl)).trans ?_ <;> rfl
              · obtain ⟨w8, hrun, hM, hT⟩ := nents_put (s := t) GD.out.mp lawS enS_inj hky.out HTK.out Try.underlying114 hm
                have HE1 := Lib.hid e1; have HE2 := Lib.hid e2
                have hfb : ((L1.length : Int) == 4096) = false := by rw [beq_eq_false_iff_ne]; omega
                have hfb2 : (L1.length == 4096) = false := by rw [beq_eq_false_iff_ne]; omega
                have HLK := Aside0.mk LK; have HP := Aside0.mk hrun; have HMM := Aside0.mk hM; have HTN := Aside0.mk hT
                obtain ⟨t2, t3, t5, t6, t7, t8⟩ := GD.out.turn rfl hT
                have HT5 := Aside0.mk t5; have HT8 := Aside0.mk t8
                have TB2 := Lib.hid (show w8.heap[w6.heap.size]? = some (.cells (ccS t) 95 (0, 0)) from (hT.block _ (fun e => by
                  obtain ⟨es, cx, hm1, _⟩ := GD.out.mp
                  rw [← e, TB.out] at hm1
                  cases hm1)).trans TB.out)
                have HLL := Lib.hid (show (L1 ++ [t]).length ≤ 4096 by rw [List.length_append, List.length_singleton]; omega)
                clear e1 e2 LK hcond hcond2 hm hrun hM hT t2 t3 t5 t6 t7 t8 hfull
                go_wp2_with (first | ((with_reducible refine gate_st (t := 95) rfl ?_); refine st_new (cs := ccS t) _ _ rfl rfl rfl rfl (by rw [ccS_size]; kernel_rfl) (by rw [ccS_size]; rfl) (ccS_all t) ?_) | ((with_reducible refine gate_ld (t := 95) rfl ?_); refine wpl_rowS (cs := ccS t) rfl 95 _ rfl w6.heap.size rfl TB.out rfl Try.underlying95 (by rw [ccS_size]; kernel_rfl) ?_) | ((with_reducible refine gate_look (c := true) rfl ?_); refine mp_look _ _ _ _ rfl _ _ _ rfl rfl rfl HLK.out ?_) | ((with_reducible refine gate_ld (t := 95) rfl ?_); refine wpl_rowS (cs := ccS t) rfl 95 _ rfl w6.heap.size rfl TB2.out rfl Try.underlying95 (by rw [ccS_size]; kernel_rfl) ?_) | ((with_reducible refine gate_put rfl ?_); refine mp_put _ _ _ _ rfl _ _ _ rfl rfl rfl rfl HP.out ?_) | ((with_reducible refine gate_lit (t := 115) rfl ?_); refine wpl_boxA rfl 115 95 _ rfl (ccS t) rfl Try.underlying115 infoS (by decide) (by decide) (ccS_size _) ?_) | ((with_reducible refine gate_builtin (b := .append) (xs := #[.tmp 70, .tmp 72]) rfl ?_); at_builtin; refine wpl_append kdS (w0 := w) w.heap.size rfl (.tmp 70) (.tmp 72) 115 95 zeroS 512 rfl Try.underlying115 infoS zeroS_size (by decide) (by omega) _ L1 t (ccS t).toList rfl rfl rfl HT5.out HT8.out HT8.out.size (by omega) (fun v3 w7 ho hb ha => ?_); have hm2 := GD.out.lst_step rfl (by decide) (by decide) HTN.out HMM.out ho hb ha; obtain ⟨A3, c3, rfl⟩ := Kd.R_slice ho; rw [List.length_append, List.length_singleton] at hm2; have HM2 := Lib.hid hm2; clear ho hb ha hm2; have c4 : w7.cell? ⟨w.heap.size + 1 + 1, 1, none⟩ = some vn2 := (by rw [cell_of_row _ _ _ _ _ _ HM2.out.out]; rfl)) | ((with_reducible refine gate_builtin (b := .append) (xs := #[.tmp 75, .tmp 77]) rfl ?_); at_builtin; refine wpl_append (Kd.int .i64) (w0 := w) w.heap.size rfl (.tmp 75) (.tmp 77) 22 3 (.int .i64 0) 8 rfl Try.underlying22 info_int rfl (by decide) (by omega) vn2 (zl N1) (L1.length : Int) [.int .i64 L1.length] rfl (by first | rfl | (rw [World.size_alloc]; rfl)) rfl HM2.out.nxt HM2.out.bel HM2.out.bel.size (by rw [zl_len]; have := hnl.out; omega) (fun v4 w9 ho hb ha => ?_); have d1 : w9.cell? ⟨w.heap.size + 1 + 1, 1, none⟩ = some vn2 := (by rw [cell_of_row _ _ _ _ _ _ (ha.cells HM2.out.out HM2.out.nxt (by decide))]; rfl); have f1 : w9.frozen? ⟨w.heap.size + 1 + 1, 1, none⟩ = false := frozen_of_row _ _ _ _ _ (ha.cells HM2.out.out HM2.out.nxt (by decide)); have hm3 := HM2.out.nxt_step (b := L1.length) rfl (by decide) ho hb ha; obtain ⟨A4, c4', rfl⟩ := Kd.R_slice ho; rw [List.length_append, List.length_singleton] at hm3; have HM3 := Lib.hid hm3; clear ho hb ha hm3))
                go_roundw
                case rel => exact ⟨c + 1, _, by omega, by go_num, by rw [HE1.out]; exact HLL, by rw [HE1.out, HE2.out]; exact HM3⟩
                case measure => simp [intOf]; omega
          · have hce : c = k := by omega
            have HMM : Hid ((i + 1 ≤ (bs k step first ((i + 1) * k)).length ∧ (bs k step first ((i + 1) * k)).length ≤ 4096) ∧ SS kdS 95 enS w wr (w.heap.size + 1) (k : Int) (w.heap.size + 1 + 1) (w.heap.size + 1 + 1 + 1) (.slice (some ⟨lb2, 0, none⟩) (bs k step first (i * k + c)).length lc2) vn2 v1 (bs k step first ((i + 1) * k)) (nx k step first ((i + 1) * k)) (sac k step first good (i + 1) ((i + 1) * k))) := Lib.hid (by
              have e : (i + 1) * k = i * k + c := by rw [Nat.succ_mul, hce]
              have h1 : (bs k step first (i * k)).length ≤ (bs k step first ((i + 1) * k)).length := by
                rw [bs_len, bs_len]; exact bw_le (by omega)
              refine ⟨⟨by omega, by rw [e]; exact hL⟩, ?_⟩
              rw [sac_keep good (show i * k ≤ (i + 1) * k by omega) (by omega), e]
              exact G.out)
            go_wp2
            go_roundw
            case rel => exact ⟨i + 1, _, _, by go_num, Lib.hid HMM.out.1, Lib.hid HMM.out.2⟩
            case measure => simp [intOf]; omega
    · have hie : (bs k step first (i * k)).length = i := by omega
      have hcl : Closed k step first i := by unfold Closed; rw [← bs_len]; exact hie
      obtain ⟨e1, e2⟩ := sr_of_closed hk (by omega) hcl
      have HE0 : Hid (srE k step first = 0) := Lib.hid (by unfold srE; rw [if_pos (by omega)])
      have HV := Lib.hid (srV_ok good HE0.out)
      rw [e2] at HV
      have HAC : Hid ((srL k step first).map good = sac k step first good i (i * k)) := Lib.hid (by unfold sac; rw [e1, List.take_of_length_le (by omega)])
      obtain ⟨An, cn2, rfl⟩ := Kd.R_slice H.out.nxt
      obtain ⟨Aa, ca, rfl⟩ := Kd.R_slice H.out.acc
      clear e1 e2 hcl hlcell
      go_wp2_with (first | ((with_reducible refine gate_ld (t := 25) rfl ?_); refine ld_au (y := ⟨(k : Int), zl (nx k step first (i * k)), sac k step first good i (i * k)⟩) (A := An) (c := cn2) (B := Aa) (d := ca) _ rfl (w.heap.size + 1 + 1) rfl H.out.out rfl ?_) | ((with_reducible refine gate_st (t := 25) rfl ?_); refine wpList_store_row rfl 25 _ _ rfl (w.heap.size + 1) (ac ⟨(k : Int), zl (nx k step first (i * k)), sac k step first good i (i * k)⟩ An cn2 Aa ca) rfl rfl 25 _ H.out.res (by show _ = some 3; kernel_rfl) rfl (by simp [Value.oneCell']) ?_))
      refine bodyPost_ret (v := .tuple #[.agg (ac ⟨(k : Int), zl (nx k step first (i * k)), sac k step first good i (i * k)⟩ An cn2 Aa ca), .int .i64 0]) ?_ rfl ⟨_, _, by rw [HV.out, HE0.out], ?_, ?_, bl_row H.out.bel (by omega) _⟩
      · refine (results_cell_tmp (p := 8) (t := 9) (by rfl) _ _ (w.heap.size + 1) 25 _ _ _ ?_ (setRow_heap _ _ _ _ _ _ H.out.res) Try.underlying25 rfl (by show _ = some 3; kernel_rfl)).trans ?_ <;> rfl
      · rw [HV.out]; exact own_rowT H.out.res H.out.nxt (by decide) rfl _
      · rw [HV.out]; show Kd.R Kd.bool 4 _ _ _ _ ((srL k step first).map good); rw [HAC.out]; exact own_rowT H.out.res H.out.acc (by decide) rfl _
end Go.Proofs.Ytjedippbjjedlaa

namespace Go.Proofs.Ytjedippbjjedlaa
open Go.RowKit Go.Proofs.YtjedippbjjedlaaW.PrintWords
set_option linter.unusedSimpArgs false
set_option linter.unusedVariables false
/-- The accepted states. -/
def accS (x : AutV) : Nat → Sta
  | 0 => noS
  | n + 1 => if rdOf false x.acc (n : Int) then adS (accS x n) n else accS x n
theorem accS_bit (x : AutV) (i : Nat) : ∀ n, n ≤ 4096 → (accS x n).getLsbD i = (decide (i < n) && rdOf false x.acc (i : Int))
  | 0, _ => by rw [show accS x 0 = noS from rfl, noS_bit]; simp
  | n + 1, h => by
    have ih := accS_bit x i n (by omega)
    rw [accS]
    by_cases e : i = n
    · subst e
      by_cases hm : rdOf false x.acc (i : Int)
      · rw [if_pos hm, adS_bit, hm]; simp; omega
      · rw [if_neg hm, ih]; simp [hm]
    · have h1 : (decide (i < n + 1)) = decide (i < n) := by
        by_cases hl : i < n
        · simp [hl]; omega
        · simp [hl]; omega
      split
      · rw [adS_bit, ih, h1, decide_eq_false (fun h => e h.symm : ¬ n = i)]; simp
      · rw [ih, h1]
def rvSt (x : AutV) (m : Sta) (l : Nat) : Sta := rvS x m l x.acc.length
def rvG (m : Sta) : Bool := m.getLsbD 0
noncomputable def rvE (x : AutV) : Int := if autE x = 0 then srE x.k.toNat (rvSt x) (accS x x.acc.length) else 80
noncomputable def rvV (x : AutV) : AutV := if autE x = 0 then srV x.k.toNat (rvSt x) (accS x x.acc.length) rvG else ⟨0, [], []⟩
/-- Where Reverse stands. -/
structure RvY (x : AutV) (A : Option Addr) (c : Nat) (B : Option Addr) (d : Nat) (o : Sta) (gs : Nat) (w wr : World) : Prop where
  box : wr.heap[w.heap.size]? = some (AB x A c B d)
  res : wr.heap[w.heap.size + 1]? = some (.cells #[.int .i64 0, .slice none 0 0, .slice none 0 0] 25 (0, 0))
  out : wr.heap[gs]? = some (.cells (ccS o) 95 (0, 0))
  bel : Below w.heap.size w wr
  gsb : w.heap.size + 1 < gs
theorem RvY.wrote {x : AutV} {A : Option Addr} {c : Nat} {B : Option Addr} {d : Nat} {o o2 : Sta} {gs : Nat} {w wr w2 : World} (h : RvY x A c B d o gs w wr) (hw : Wrote wr gs (ccS o2) w2) : RvY x A c B d o2 gs w w2 :=
  have := h.gsb
  ⟨(hw.no _ (by omega)).trans h.box, (hw.no _ (by omega)).trans h.res, hw.is, hw.bel w h.bel (by omega), h.gsb⟩
set_option maxRecDepth 100000 in
set_option maxHeartbeats 800000 in
theorem reverse_any (x : AutV) (A : Option Addr) (c : Nat) (B : Option Addr) (d : Nat) (w : World) (hr : ARd w x A B) :
    Calls Try.prog 46 #[.agg (ac x A c B d)] w fun e w' => ∃ vn va, e = .returned (.tuple #[.agg #[.int .i64 (rvV x).k, vn, va], .int .i64 (rvE x)]) ∧
      Own w' w.heap.size vn (rvV x).next ∧ Kd.R Kd.bool 4 w' w.heap.size (fun _ => True) va (rvV x).acc ∧ Below w.heap.size w w' := by
  have HR := Aside0.mk hr
  have h00 := ((Hp.start w).alloc (AB x A c B d)).alloc (.cells #[.int .i64 0, .slice none 0 0, .slice none 0 0] 25)
  rw [World.size_alloc] at h00
  have H0 := Lib.hid h00
  clear h00
  have CK := Aside0.mk (acheck_any x A c B d ((w.alloc (AB x A c B d)).alloc (.cells #[.int .i64 0, .slice none 0 0, .slice none 0 0] 25)) (hr.below H0.out.2))
  by_cases h0 : autE x = 0
  · have hx := autE_is h0
    have hkk : ((x.k.toNat : Nat) : Int) = x.k := by have := hx.1; omega
    have SR := fun (W : World) (hW : W.heap[w.heap.size]? = some (AB x A c B d)) (hB : Below w.heap.size w W) => searchS_any x.k.toNat (by have := hx.1; omega) (by have := hx.2.1; omega) (rvSt x) (accS x x.acc.length) rvG 72 74 #[.pointer (some ⟨w.heap.size, 0, none⟩)] #[] W
      (fun m s hs => keyS s) (fun args W => by kernel_rfl) (fun args W => by kernel_rfl)
      (fun s m l hs hl W' hb => revN_any x A c B d w.heap.size hx s l (by omega) W' (hp_below' hb hW) ((HR.out.below hB).below hb))
      (fun s m hs W' hb => revG_any s W')
    rw [hkk] at SR
    replace SR := Aside0.mk SR
    have hE : rvE x = srE x.k.toNat (rvSt x) (accS x x.acc.length) := by unfold rvE; rw [if_pos h0]
    have hV : rvV x = srV x.k.toNat (rvSt x) (accS x x.acc.length) rvG := by unfold rvV; rw [if_pos h0]
    rw [hE, hV]
    rw [h0] at CK
    have hn2 := hx.2.2.2.1
    generalize srV x.k.toNat (rvSt x) (accS x x.acc.length) rvG = V at *
    generalize srE x.k.toNat (rvSt x) (accS x x.acc.length) = E at *
    clear hE hV hx hr h0 hkk
    go_enter Try.func46, Try.ntmps46
    go_wp2_with (refine ld_au (y := x) _ rfl w.heap.size rfl (H0.out.at 1 rfl) rfl ?_)
    refine CK.out.mono ?_
    rintro e w1 ⟨rfl, hb⟩
    have H1 := Lib.hid (H0.out.keep hb)
    have SI : Hid (RvY x A c B d noS w1.heap.size w (w1.alloc (.cells (ccS noS) 95))) := Lib.hid ⟨hp_old (H1.out.at 1 rfl), hp_old (H1.out.at 0 rfl), hp_new rfl, bl_alloc H1.out.2 _, hp_lt (H1.out.at 0 rfl)⟩
    have c2 : (w1.alloc (.cells (ccS noS) 95)).cell? ⟨w.heap.size, 2, none⟩ = some (.slice B x.acc.length d) := by rw [cell_of_row _ _ _ _ _ _ SI.out.box]; rfl
    clear hb CK H0 H1
    go_wp2_with ((with_reducible refine gate_alloc (t := 95) rfl ?_); refine wpl_allocS rfl rfl ?_)
    clear c2
    generalize w1.heap.size = gs at *
    generalize w1.alloc (.cells (ccS noS) 95) = w2 at *
    go_loopw [17] (fun i wr => ∃ q : Nat, q ≤ x.acc.length ∧ i = .int .i64 q ∧ Hid (RvY x A c B d (accS x q) gs w wr)) (fun i _ => x.acc.length - (intOf i).toNat)
    case atStart => exact ⟨0, by omega, rfl, SI⟩
    case round =>
      obtain ⟨i, hi, rfl, H⟩ := hrel
      clear SI
      by_cases hil : i < x.acc.length
      · obtain ⟨ad, hB, cA⟩ := Kd.at_bool (HR.out.below H.out.bel).acc (i : Int) (by omega) (by omega)
        rw [Int.toNat_natCast] at cA
        have hnx : accS x (i + 1) = if rdOf false x.acc (i : Int) then adS (accS x i) i else accS x i := rfl
        generalize rdOf false x.acc (i : Int) = b at *
        subst hB
        cases b
        · rw [if_neg (by decide)] at hnx
          rw [← hnx] at H
          clear hnx
          go_wp2
          go_roundw
          case rel => exact ⟨i + 1, by omega, by go_num, H⟩
          case measure => simp [intOf]; omega
        · rw [if_pos rfl] at hnx
          have AD := Aside0.mk (add_any (accS x i) i (by omega) gs wr H.out.out)
          go_wp2_with fail
          refine AD.out.mono ?_
          rintro e w3 ⟨rfl, hw⟩
          have H3 := Lib.hid (H.out.wrote hw)
          rw [← hnx] at H3
          clear hw AD H hnx
          go_wp2
          go_roundw
          case rel => exact ⟨i + 1, by omega, by go_num, H3⟩
          case measure => simp [intOf]; omega
      · have hie : i = x.acc.length := by omega
        rw [hie] at H
        have c0 : wr.cell? ⟨w.heap.size, 0, none⟩ = some (.int .i64 x.k) := by rw [cell_of_row _ _ _ _ _ _ H.out.box]; rfl
        have SRW := Aside0.mk (SR.out wr H.out.box H.out.bel)
        clear hie SR
        go_wp2_with ((with_reducible refine gate_ld (t := 95) rfl ?_); refine wpl_rowS (cs := ccS (accS x x.acc.length)) rfl 95 _ rfl gs rfl H.out.out rfl Try.underlying95 (by rw [ccS_size]; kernel_rfl) ?_)
        refine SRW.out.mono ?_
        rintro e w3 ⟨vn, va, rfl, hn, ha, hb⟩
        obtain ⟨An, cn, rfl⟩ := Kd.R_slice hn
        obtain ⟨Aa, ca, rfl⟩ := Kd.R_slice ha
        have HS := Lib.hid (show w3.heap[w.heap.size + 1]? = some (.cells #[.int .i64 0, .slice none 0 0, .slice none 0 0] 25 (0, 0)) from hp_below' hb H.out.res)
        have HN := Aside0.mk (Kd.R_lower hn H.out.bel.size)
        have HA := Aside0.mk (Kd.R_lower ha H.out.bel.size)
        have HB := Lib.hid (bl_then H.out.bel hb)
        clear hn ha hb SRW H c0
        go_wp2_with ((with_reducible refine gate_st (t := 25) rfl ?_); refine wpList_store_row rfl 25 _ _ rfl (w.heap.size + 1) (ac V An cn Aa ca) rfl rfl 25 _ HS.out (by show _ = some 3; kernel_rfl) rfl (by simp [Value.oneCell']) ?_)
        refine bodyPost_ret (v := .tuple #[.agg (ac V An cn Aa ca), .int .i64 E]) ?_ rfl ⟨_, _, rfl, own_rowT HS.out HN.out (by decide) rfl _, own_rowT HS.out HA.out (by decide) rfl _, bl_row HB.out (by omega) _⟩
        refine (results_cell_tmp (p := 2) (t := 3) (by rfl) _ _ (w.heap.size + 1) 25 _ _ _ ?_ (setRow_heap _ _ _ _ _ _ HS.out) Try.underlying25 rfl (by show _ = some 3; kernel_rfl)).trans ?_ <;> rfl
  · have h80 : autE x = 80 := autE_no (fun h => h0 (autE_ok h))
    have hE : rvE x = 80 := by unfold rvE; rw [if_neg h0]
    have hV : rvV x = ⟨0, [], []⟩ := by unfold rvV; rw [if_neg h0]
    rw [hE, hV]
    rw [h80] at CK
    clear hE hV hr h0 h80
    go_enter Try.func46, Try.ntmps46
    go_wp2_with (refine ld_au (y := x) _ rfl w.heap.size rfl (H0.out.at 1 rfl) rfl ?_)
    refine CK.out.mono ?_
    rintro e w1 ⟨rfl, hb⟩
    have H1 := Lib.hid (H0.out.keep hb)
    have HS := Lib.hid (show w1.heap[w.heap.size + 1]? = some (.cells #[.int .i64 0, .slice none 0 0, .slice none 0 0] 25 (0, 0)) from H1.out.at 0 rfl)
    clear hb CK H0
    go_wp2_with ((with_reducible refine gate_st (t := 25) rfl ?_); refine wpList_store_row rfl 25 _ _ rfl (w.heap.size + 1) #[.int .i64 0, .slice none 0 0, .slice none 0 0] rfl rfl 25 _ HS.out (by show _ = some 3; kernel_rfl) rfl (by simp [Value.oneCell']) ?_)
    refine bodyPost_ret (v := .tuple #[.agg #[.int .i64 0, .slice none 0 0, .slice none 0 0], .int .i64 80]) ?_ rfl ⟨_, _, rfl, Kd.R_nil _ _ _ _ _, Kd.R_nil _ _ _ _ _, bl_row H1.out.2 (by omega) _⟩
    refine (results_cell_tmp (p := 2) (t := 3) (by rfl) _ _ (w.heap.size + 1) 25 _ _ _ ?_ (setRow_heap _ _ _ _ _ _ HS.out) Try.underlying25 rfl (by show _ = some 3; kernel_rfl)).trans ?_ <;> rfl
end Go.Proofs.Ytjedippbjjedlaa

