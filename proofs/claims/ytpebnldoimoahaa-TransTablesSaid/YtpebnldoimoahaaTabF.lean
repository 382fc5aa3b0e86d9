/- New, the program's and the reference's; a pair of new tables. -/
import Derived.Test.YtpebnldoimoahaaTabE
namespace Go.Proofs.Ytpebnldoimoahaa
open Go.RowKit Go.Proofs.YtpebnldoimoahaaW.PrintWords
set_option linter.unusedSimpArgs false
set_option linter.unusedVariables false
set_option maxRecDepth 100000
def badN (n : Int) : Bool := decide (n < 1 ∨ 64 < n)
def newE (n : Int) : Int := if badN n = true then 6 else 0
def NewR (n : Int) (w : World) (e : Ending) (w' : World) : Prop :=
  ∃ x, e = .returned (.tuple #[x, .int .i64 (newE n)]) ∧ Below w.heap.size w w' ∧ (∀ W : World, (binOp .eql 51 x (.pointer none)).run Try.prog W = .ok (.bool (badN n)) W) ∧
    ((badN n = true ∧ x = .pointer none) ∨ (badN n = false ∧ x = .pointer (some ⟨w.heap.size + 1, 0, none⟩) ∧ w'.heap[w.heap.size + 1]? = some (.cells #[.int .i64 n, .map (some w.heap.size), .slice none 0 0] 55 (0, 0)) ∧ w'.heap[w.heap.size]? = some (.map #[] 0)))
def RnewR (n : Int) (w : World) (e : Ending) (w' : World) : Prop :=
  ∃ x, e = .returned (.tuple #[x, .int .i64 (newE n)]) ∧ Below w.heap.size w w' ∧ (∀ W : World, (binOp .eql 64 x (.pointer none)).run Try.prog W = .ok (.bool (badN n)) W) ∧
    ((badN n = true ∧ x = .pointer none) ∨ (badN n = false ∧ x = .pointer (some ⟨w.heap.size, 0, none⟩) ∧ w'.heap[w.heap.size]? = some (.cells #[.int .i64 n, .slice none 0 0] 118 (0, 0))))
theorem eq_nil_nil (t e : TypeId) (h : Try.prog.underlying t = some (.pointer e)) (W : World) : (binOp .eql t (.pointer none) (.pointer none)).run Try.prog W = .ok (.bool true) W := by
  have h1 : ∀ d, (Op.equalIn (d + 1) t (.pointer none) (.pointer none)).run Try.prog W = .ok true W := fun d => by simp [Op.equalIn, run_underlying h]
  simp only [binOp]
  simp [Op.equal, Op.maxDepth, h1 9999]
theorem eq_ptr_nil (t e : TypeId) (h : Try.prog.underlying t = some (.pointer e)) (a : Addr) (W : World) : (binOp .eql t (.pointer (some a)) (.pointer none)).run Try.prog W = .ok (.bool false) W := by
  have h1 : ∀ d, (Op.equalIn (d + 1) t (.pointer (some a)) (.pointer none)).run Try.prog W = .ok false W := fun d => by simp [Op.equalIn, run_underlying h]
  simp only [binOp]
  simp [Op.equal, Op.maxDepth, h1 9999]
theorem new_any (n : Int) (w : World) : Calls Try.prog 32 #[.int .i64 n] w (NewR n w) := by
  cases hb : badN n
  · have hn : ¬ (n < 1) ∧ ¬ (64 < n) := by unfold badN at hb; simpa [not_or] using hb
    have HE : Hid (newE n = 0) := Lib.hid (by unfold newE; rw [hb]; rfl)
    have HB := Lib.hid hb
    clear hb
    obtain ⟨h1, h2⟩ := hn
    have hmm := @run_makeMap Try.prog
    go_enter Try.func32, Try.ntmps32
    go_wp2
    go_ret2
    refine ⟨_, by rw [HE.out]; rfl, bl_alloc (bl_alloc (Below.refl _ _) _) _, fun W => by rw [HB.out]; exact eq_ptr_nil _ _ Try.underlying51 _ W, .inr ⟨HB.out, rfl, hp_new (by simp), hp_old (hp_new rfl)⟩⟩
  · have hn : n < 1 ∨ 64 < n := by unfold badN at hb; simpa using hb
    have HE : Hid (newE n = 6) := Lib.hid (by unfold newE; rw [hb]; rfl)
    have HB := Lib.hid hb
    clear hb
    by_cases h1 : n < 1
    · go_enter Try.func32, Try.ntmps32
      go_wp2
      go_ret2
      exact ⟨_, by rw [HE.out]; rfl, Below.refl _ _, fun W => by rw [HB.out]; exact eq_nil_nil _ _ Try.underlying51 W, .inl ⟨HB.out, rfl⟩⟩
    · have h2 : 64 < n := by omega
      go_enter Try.func32, Try.ntmps32
      go_wp2
      go_ret2
      exact ⟨_, by rw [HE.out]; rfl, Below.refl _ _, fun W => by rw [HB.out]; exact eq_nil_nil _ _ Try.underlying51 W, .inl ⟨HB.out, rfl⟩⟩
theorem rnew_any (n : Int) (w : World) : Calls Try.prog 33 #[.int .i64 n] w (RnewR n w) := by
  cases hb : badN n
  · have hn : ¬ (n < 1) ∧ ¬ (64 < n) := by unfold badN at hb; simpa [not_or] using hb
    have HE : Hid (newE n = 0) := Lib.hid (by unfold newE; rw [hb]; rfl)
    have HB := Lib.hid hb
    clear hb
    obtain ⟨h1, h2⟩ := hn
    go_enter Try.func33, Try.ntmps33
    go_wp2
    go_ret2
    refine ⟨_, by rw [HE.out]; rfl, bl_alloc (Below.refl _ _) _, fun W => by rw [HB.out]; exact eq_ptr_nil _ _ Try.underlying64 _ W, .inr ⟨HB.out, rfl, hp_new rfl⟩⟩
  · have hn : n < 1 ∨ 64 < n := by unfold badN at hb; simpa using hb
    have HE : Hid (newE n = 6) := Lib.hid (by unfold newE; rw [hb]; rfl)
    have HB := Lib.hid hb
    clear hb
    by_cases h1 : n < 1
    · go_enter Try.func33, Try.ntmps33
      go_wp2
      go_ret2
      exact ⟨_, by rw [HE.out]; rfl, Below.refl _ _, fun W => by rw [HB.out]; exact eq_nil_nil _ _ Try.underlying64 W, .inl ⟨HB.out, rfl⟩⟩
    · have h2 : 64 < n := by omega
      go_enter Try.func33, Try.ntmps33
      go_wp2
      go_ret2
      exact ⟨_, by rw [HE.out]; rfl, Below.refl _ _, fun W => by rw [HB.out]; exact eq_nil_nil _ _ Try.underlying64 W, .inl ⟨HB.out, rfl⟩⟩
theorem pair_new {n : Int} {N M base : Nat} {w1 w2 W : World} {x d : Value} {c : Nat → Nat} {i j : Nat}
    (hx : (badN n = true ∧ x = .pointer none) ∨ (badN n = false ∧ x = .pointer (some ⟨N + 1, 0, none⟩) ∧ w1.heap[N + 1]? = some (.cells #[.int .i64 n, .map (some N), .slice none 0 0] 55 (0, 0)) ∧ w1.heap[N]? = some (.map #[] 0)))
    (hd : (badN n = true ∧ d = .pointer none) ∨ (badN n = false ∧ d = .pointer (some ⟨M, 0, none⟩) ∧ w2.heap[M]? = some (.cells #[.int .i64 n, .slice none 0 0] 118 (0, 0))))
    (h1 : Below w1.heap.size w1 W) (h2 : Below w2.heap.size w2 W) (hN : base ≤ N) (hM : base ≤ M) (c1 : c (N + 1) = i + 1) (c2 : c N = i + 2) (c3 : c M = j + 1) : Pair W base c i j x d := by
  rcases hx with ⟨hb, rfl⟩ | ⟨hb, rfl, hx1, hx2⟩
  · rcases hd with ⟨_, rfl⟩ | ⟨hb', _⟩
    · exact .inl ⟨rfl, rfl⟩
    · rw [hb] at hb'; cases hb'
  · rcases hd with ⟨hb', _⟩ | ⟨_, rfl, hd1⟩
    · rw [hb] at hb'; cases hb'
    · have hn : ¬ (n < 1) ∧ ¬ (64 < n) := by unfold badN at hb; simpa [not_or] using hb
      exact .inr ⟨n, [], ⟨N + 1, N, _, rfl, hp_below' h1 hx1, ⟨_, _, hp_below' h1 hx2, rfl⟩, Kd.R_nil _ _ _ _ _, c1, c2, by omega, hN⟩, ⟨M, _, rfl, hp_below' h2 hd1, Kd.R_nil _ _ _ _ _, c3, hM⟩, ⟨by simp, by simp, by simp, by omega⟩⟩
end Go.Proofs.Ytpebnldoimoahaa
