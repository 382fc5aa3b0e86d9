/- Sets of states: a set of 4096 bits, in 64 words; the map's keys. -/
import Derived.Test.YtjckidjljkjhfaaLkT
namespace Go.Proofs.Ytjckidjljkjhfaa
open Go.RowKit Go.Proofs.YtjckidjljkjhfaaW.PrintWords Go.ChangeMaps
open Go.Maps (Keyed)
set_option linter.unusedSimpArgs false
abbrev Sta := BitVec 4096
def wdS (m : Sta) (i : Nat) : Nat := (m.extractLsb' (64 * i) 64).toNat
theorem wdS_lt (m : Sta) (i : Nat) : wdS m i < 18446744073709551616 := BitVec.isLt (m.extractLsb' (64 * i) 64)
theorem wdS_bit (m : Sta) (i j : Nat) : (wdS m i).testBit j = (decide (j < 64) && m.getLsbD (64 * i + j)) := by
  unfold wdS
  rw [BitVec.testBit_toNat, BitVec.getLsbD_extractLsb']
def vdS (m : Sta) (i : Nat) : Value := .int .u64 (wdS m i : Int)
def ccS (m : Sta) : Array Value := (Array.range 64).map (vdS m)
theorem ccS_size (m : Sta) : (ccS m).size = 64 := by simp [ccS]
theorem ccS_get {m : Sta} {i : Nat} (h : i < 64) : (ccS m)[i]? = some (.int .u64 (wdS m i : Int)) := by
  unfold ccS
  rw [Array.getElem?_map, Array.getElem?_eq_getElem (by simpa using h), Array.getElem_range]
  rfl
theorem ccS_one (m : Sta) : ∀ u ∈ (ccS m).toList, u.oneCell' = true := fun u hu => by
  unfold ccS at hu
  rw [Array.toList_map, List.mem_map] at hu
  obtain ⟨i, _, rfl⟩ := hu
  rfl
theorem ccS_all (m : Sta) : (ccS m).all (·.oneCell') = true := by
  rw [Array.all_eq_true']
  intro u hu
  exact ccS_one m u (by simpa using hu)
theorem sta_ext {s t : Sta} (h : ∀ i, i < 4096 → s.getLsbD i = t.getLsbD i) : s = t := BitVec.eq_of_getLsbD_eq (fun i hi => h i hi)
theorem ccS_inj {s t : Sta} (h : ccS s = ccS t) : s = t := by
  apply sta_ext
  intro i hi
  have h1 := ccS_get (m := s) (show i / 64 < 64 by omega)
  rw [h, ccS_get (by omega)] at h1
  injection h1 with h1
  injection h1 with _ h1
  have h2 : wdS t (i / 64) = wdS s (i / 64) := Int.ofNat.inj h1
  have h3 := wdS_bit s (i / 64) (i % 64)
  rw [← h2, wdS_bit, decide_eq_true (show i % 64 < 64 by omega), Bool.true_and, Bool.true_and, show 64 * (i / 64) + i % 64 = i by omega] at h3
  exact h3.symm
/-- One more. -/
def adS (m : Sta) (s : Nat) : Sta := m ||| BitVec.twoPow 4096 s
theorem adS_bit (m : Sta) (s i : Nat) : (adS m s).getLsbD i = (m.getLsbD i || (decide (i < 4096) && decide (s = i))) := by
  unfold adS
  rw [BitVec.getLsbD_or, BitVec.getLsbD_twoPow]
  congr 1
  by_cases h : s = i
  · subst h; simp
  · simp [h]
theorem wdS_ad (m : Sta) {s : Nat} (hs : s < 4096) : wdS (adS m s) (s / 64) = wdS m (s / 64) ||| 2 ^ (s % 64) := by
  apply Nat.eq_of_testBit_eq
  intro j
  rw [wdS_bit, adS_bit, Nat.testBit_or, wdS_bit, Nat.testBit_two_pow]
  by_cases hj : j < 64
  · rw [decide_eq_true hj, Bool.true_and, Bool.true_and, decide_eq_true (show 64 * (s / 64) + j < 4096 by omega), Bool.true_and]
    congr 1
    by_cases e : s % 64 = j
    · rw [decide_eq_true e, decide_eq_true (show s = 64 * (s / 64) + j by omega)]
    · rw [decide_eq_false e, decide_eq_false (show ¬ s = 64 * (s / 64) + j by omega)]
  · rw [decide_eq_false hj, decide_eq_false (show ¬ s % 64 = j by omega)]
    rfl
theorem wdS_ne (m : Sta) {s i : Nat} (h : i ≠ s / 64) : wdS (adS m s) i = wdS m i := by
  apply Nat.eq_of_testBit_eq
  intro j
  rw [wdS_bit, wdS_bit, adS_bit]
  by_cases hj : j < 64
  · rw [decide_eq_false (show ¬ s = 64 * i + j by omega), Bool.and_false, Bool.or_false]
  · rw [decide_eq_false hj, Bool.false_and, Bool.false_and]
theorem ccS_ad (m : Sta) {s : Nat} (hs : s < 4096) : (ccS m).setIfInBounds (s / 64) (.int .u64 ((wdS m (s / 64) ||| 2 ^ (s % 64) : Nat) : Int)) = ccS (adS m s) := by
  apply Array.ext_getElem?
  intro i
  by_cases hi : i < 64
  · by_cases e : s / 64 = i
    · subst e
      rw [Array.getElem?_setIfInBounds_self_of_lt (by rw [ccS_size]; exact hi), ccS_get hi, wdS_ad m hs]
    · rw [Array.getElem?_setIfInBounds_ne e, ccS_get hi, ccS_get hi, wdS_ne m (Ne.symm e)]
  · rw [Array.getElem?_eq_none (by rw [Array.size_setIfInBounds, ccS_size]; omega), Array.getElem?_eq_none (by rw [ccS_size]; omega)]
theorem wdS_has (m : Sta) (s : Nat) : (wdS m (s / 64) / 2 ^ (s % 64)) % 2 = (m.getLsbD s).toNat := by
  have h := wdS_bit m (s / 64) (s % 64)
  rw [decide_eq_true (show s % 64 < 64 by omega), Bool.true_and, show 64 * (s / 64) + s % 64 = s by omega] at h
  rw [← h, Nat.toNat_testBit]
@[irreducible] def noS : Sta := BitVec.ofNat 4096 0
theorem noS_bit (i : Nat) : noS.getLsbD i = false := by
  unfold noS
  exact BitVec.getLsbD_zero
theorem wdS_zero (i : Nat) : wdS noS i = 0 := by
  apply Nat.eq_of_testBit_eq
  intro j
  rw [wdS_bit, noS_bit, Bool.and_false, Nat.zero_testBit]
def enS (s : Sta) : Value := .agg (ccS s)
theorem enS_inj (s t : Sta) (h : enS s = enS t) : s = t := by
  unfold enS at h
  injection h with h
  exact ccS_inj h
abbrev kdS : Kd Sta := flatK (fun s => (ccS s).toList) 64 (fun s => by rw [Array.length_toList, ccS_size]) ccS_one
set_option maxRecDepth 100000 in
theorem lawS : Keyed Try.prog 88 :=
  Keyed.of_law (deep_law_laid (m := 4) (by kernel_rfl : laidOutB Try.prog = true) (by decide) (by decide +kernel) (by kernel_rfl) (by kernel_rfl))
def zeroS : Value := .agg (ccS noS)
theorem zeroS_size : zeroS.cells.size = 64 := by
  show (ccS noS).size = 64
  exact ccS_size _
theorem ccS_zero : ccS noS = (Array.range 64).map (fun _ => .int .u64 0) := by
  have h : vdS noS = fun _ => .int .u64 0 := by
    funext i
    unfold vdS
    rw [wdS_zero]; rfl
  unfold ccS
  rw [h]
theorem infoS : (Try.prog.info? 88).map (fun i => (i.zero, i.size, i.bytes)) = some (some zeroS, 64, 512) := by
  unfold zeroS
  rw [ccS_zero]
  kernel_rfl
theorem mapM_some {α β : Type} {f : α → Option β} {g : α → β} : ∀ (l : List α), (∀ a ∈ l, f a = some (g a)) → l.mapM f = some (l.map g)
  | [], _ => rfl
  | a :: l, h => by
    rw [List.mapM_cons, h a List.mem_cons_self, mapM_some l (fun b hb => h b (List.mem_cons_of_mem _ hb))]
    rfl
theorem ccS_cut (s : Sta) {i : Nat} (hi : i < 64) : ((ccS s).toList.drop (i * 1)).take 1 = [.int .u64 (wdS s i : Int)] := by
  have h : (ccS s).toList[i]? = some (.int .u64 (wdS s i : Int)) := by rw [Array.getElem?_toList]; exact ccS_get hi
  obtain ⟨hl, he⟩ := List.getElem?_eq_some_iff.1 h
  rw [Nat.mul_one, List.drop_eq_getElem_cons hl, he]
  rfl
set_option maxRecDepth 100000 in
theorem keyS (s : Sta) : ∃ q, keyOf Try.prog 88 (enS s) = some q := by
  have hkt : Try.prog.keyType 88 = true := by kernel_rfl
  obtain ⟨m, hm⟩ : ∃ m, Try.prog.types.size + 1 = m + 3 := ⟨Try.prog.types.size - 2, by decide +kernel⟩
  have h9 : Try.prog.cellsOf 88 = 64 := by kernel_rfl
  have h8 : Try.prog.cellsOf 86 = 1 := by kernel_rfl
  have hK : Try.prog.keyLits (m + 3) 88 (ccS s).toList = some (((List.range 64).map (fun i => [Lit.int .u64 (wdS s i : Int)])).flatten) := by
    unfold Program.keyLits
    simp only [Try.underlying88]
    rw [if_pos (by rw [Array.length_toList, ccS_size, h9])]
    rw [mapM_some (g := fun i => [Lit.int .u64 (wdS s i : Int)]) _ (fun i hi => ?_)]
    · rfl
    · rw [h8, ccS_cut s (List.mem_range.1 hi)]
      unfold Program.keyLits
      simp only [Try.underlying86]
      have hw : (Lit.int .u64 (wdS s i : Int)).wf = true := WalkArith.wf_u64 (by have := wdS_lt s i; omega)
      simp [hw]
  unfold keyOf enS
  simp only [Try.underlying88]
  rw [if_pos (by simp [hkt, Value.formed, Try.underlying88, h9, ccS_size]), hm]
  have hc : (Value.agg (ccS s)).cells = ccS s := rfl
  rw [hc, hK]
  exact ⟨_, rfl⟩
end Go.Proofs.Ytjckidjljkjhfaa
