/- '==' between two packed transformations: one Bool. -/
import Derived.Test.YtpebnldoimoahaaTrB
import Derived.ChangeKeysEq
import Derived.Laws.StructEq
namespace Go.Proofs.Ytpebnldoimoahaa
open Go.RowKit
section
variable {P : Program} (w : World)
theorem eq_int1 (d : Nat) {t : TypeId} {k : IntKind} (hu : P.underlying t = some (.int k)) (a b : Int) : (Op.equalIn (d + 1) t (.int k a) (.int k b)).run P w = .ok (a == b) w := by
  simp [Op.equalIn, run_underlying hu]
theorem eq_items (d : Nat) {t : TypeId} {k : IntKind} (hu : P.underlying t = some (.int k)) (xs ys : List Int) : ∀ (is : List Nat), (∀ i ∈ is, i < xs.length ∧ i < ys.length) →
    (Op.eqItems (d + 1) t 1 (xs.map (Value.int k)).toArray (ys.map (Value.int k)).toArray is).run P w = .ok (decide (∀ i ∈ is, xs.getD i 0 = ys.getD i 0)) w
  | [], _ => by simp [Op.eqItems]
  | i :: is, h => by
    have hp : P.plainKey t = true := by simp [Program.plainKey, hu]
    obtain ⟨hx, hy⟩ := h i (by simp)
    have ih := eq_items d hu xs ys is (fun j hj => h j (by simp [hj]))
    have e1 : (part t (xs.map (Value.int k)).toArray (i * 1)).run P w = .ok (.int k (xs.getD i 0)) w := run_part_plain w hp (by simp [List.getElem?_eq_getElem hx])
    have e2 : (part t (ys.map (Value.int k)).toArray (i * 1)).run P w = .ok (.int k (ys.getD i 0)) w := run_part_plain w hp (by simp [List.getElem?_eq_getElem hy])
    simp only [Op.eqItems, Sem.run_bind, e1, e2, Result.andThen_ok, eq_int1 w d hu]
    by_cases e : xs.getD i 0 = ys.getD i 0
    · have e' : (xs.getD i 0 == ys.getD i 0) = true := by simpa using e
      rw [e', Bool.not_true, if_neg (by simp), ih]
      congr 1
      simp only [List.mem_cons, forall_eq_or_imp, e, true_and]
    · have e' : (xs.getD i 0 == ys.getD i 0) = false := by simpa using e
      rw [e', Bool.not_false, if_pos rfl]
      simp only [Sem.run_pure]
      congr 1
      symm
      rw [decide_eq_false_iff_not]
      intro hh
      exact e (hh i (by simp))
theorem eq_arr (d : Nat) {t e : TypeId} {n : Nat} {k : IntKind} (ht : P.underlying t = some (.array n e)) (hu : P.underlying e = some (.int k)) (hc : P.cellsOf e = 1) (xs ys : List Int) (hx : xs.length = n) (hy : ys.length = n) :
    (Op.equalIn (d + 2) t (.agg (xs.map (Value.int k)).toArray) (.agg (ys.map (Value.int k)).toArray)).run P w = .ok (decide (xs = ys)) w := by
  obtain ⟨i, hi⟩ := info_of_underlying (P := P) hu
  rw [run_equalIn_array w (d+1) _ _ ht hi, hc, eq_items w d hu xs ys _ (by intro i hi; simp at hi; omega)]
  congr 1
  apply decide_eq_decide.2
  constructor
  · intro h
    apply List.ext_getElem (by omega)
    intro j h1 h2
    have := h j (by simp; omega)
    simpa [List.getElem?_eq_getElem h1, List.getElem?_eq_getElem h2] using this
  · rintro rfl; simp
end
theorem eqf2 {P : Program} {d : Nat} {xs ys : Array Value} {f g : Field} {a b a' b' : Value} {r s : Bool} {w : World} (hn : (f.name == "_") = false) (hm : (g.name == "_") = false)
    (ha : (part f.type xs f.offset).run P w = .ok a w) (hb : (part f.type ys f.offset).run P w = .ok b w) (he : (Op.equalIn d f.type a b).run P w = .ok r w)
    (ha' : (part g.type xs g.offset).run P w = .ok a' w) (hb' : (part g.type ys g.offset).run P w = .ok b' w) (he' : (Op.equalIn d g.type a' b').run P w = .ok s w) :
    (Op.eqFields d xs ys [f, g]).run P w = .ok (r && s) w := by
  have hn' : f.name ≠ "_" := by simpa using hn
  have hm' : g.name ≠ "_" := by simpa using hm
  simp only [Op.eqFields, if_pos hn', if_pos hm', Sem.run_bind, ha, hb, he, Result.andThen_ok]
  cases r
  · simp
  · cases s <;> simp [ha', hb', he']
theorem tvv_cast (n : Int) (ws : List Nat) : tvv n ws = (Value.int .i64 n :: (ws.map (fun (x : Nat) => (x : Int))).map (Value.int .u64)).toArray := by simp [tvv, Function.comp_def]
theorem part_words (w : World) (n : Int) (ws : List Nat) (h : ws.length = 7) : (part 24 (tvv n ws) 1).run Try.prog w = .ok (.agg ((ws.map (fun (x : Nat) => (x : Int))).map (Value.int .u64)).toArray) w := by
  match ws, h with
  | [x0, x1, x2, x3, x4, x5, x6], _ => simp [part, tvv, go_sem]
set_option maxRecDepth 100000 in
theorem eqT (d : Nat) (w : World) (n m : Int) (xs ys : List Nat) (hx : xs.length = 7) (hy : ys.length = 7) :
    (Op.equalIn (d + 3) 26 (.agg (tvv n xs)) (.agg (tvv m ys))).run Try.prog w = .ok (decide (n = m ∧ xs = ys)) w := by
  have hf : Try.prog.fieldsOf 26 = #[{ name := "N", type := 3, offset := 0, embedded := false, tag := "", pkgPath := "", byteOffset := 0 },
        { name := "Words", type := 24, offset := 1, embedded := false, tag := "", pkgPath := "", byteOffset := 8 }] := by simp [Program.fieldsOf, Try.underlying26]
  rw [run_equalIn_struct (P := Try.prog) w (d + 2) 26 _ _ (by rw [hf]; exact Try.underlying26) (by kernel_rfl), hf]
  have hp : Try.prog.plainKey 3 = true := by kernel_rfl
  have e1 : ∀ n ws, (part 3 (tvv n ws) 0).run Try.prog w = .ok (.int .i64 n) w := fun n ws => run_part_plain w hp (tvv_zero n ws)
  have e3 := eq_arr (P := Try.prog) w d Try.underlying24 Try.underlying23 (by kernel_rfl) (xs.map (fun (x : Nat) => (x : Int))) (ys.map (fun (x : Nat) => (x : Int))) (by simpa using hx) (by simpa using hy)
  refine (eqf2 (by kernel_rfl) (by kernel_rfl) (e1 _ _) (e1 _ _) (eq_int1 w (d+1) Try.underlying3 n m) (part_words w n xs hx) (part_words w m ys hy) e3).trans ?_
  congr 1
  have : (xs.map (fun (x : Nat) => (x : Int)) = ys.map (fun (x : Nat) => (x : Int))) ↔ xs = ys := List.map_inj_right (fun a b h => Int.ofNat.inj h)
  rw [Bool.decide_and, show (n == m) = decide (n = m) from rfl, decide_eq_decide.2 this]
set_option maxRecDepth 100000 in
theorem run_eqT (w : World) (n m : Int) (xs ys : List Nat) (hx : xs.length = 7) (hy : ys.length = 7) :
    (binOp .eql 26 (.agg (tvv n xs)) (.agg (tvv m ys))).run Try.prog w = .ok (.bool (decide (n = m ∧ xs = ys))) w := by
  have h : (Op.equalIn Op.maxDepth 26 (.agg (tvv n xs)) (.agg (tvv m ys))).run Try.prog w = .ok (decide (n = m ∧ xs = ys)) w := eqT 9997 w n m xs ys hx hy
  simp only [binOp]
  simp [Op.equal, h]
set_option maxRecDepth 100000 in
theorem run_neT (w : World) (n m : Int) (xs ys : List Nat) (hx : xs.length = 7) (hy : ys.length = 7) :
    (binOp .neq 26 (.agg (tvv n xs)) (.agg (tvv m ys))).run Try.prog w = .ok (.bool (!decide (n = m ∧ xs = ys))) w := by
  have h : (Op.equalIn Op.maxDepth 26 (.agg (tvv n xs)) (.agg (tvv m ys))).run Try.prog w = .ok (decide (n = m ∧ xs = ys)) w := eqT 9997 w n m xs ys hx hy
  simp only [binOp]
  simp [Op.equal, h]
end Go.Proofs.Ytpebnldoimoahaa
