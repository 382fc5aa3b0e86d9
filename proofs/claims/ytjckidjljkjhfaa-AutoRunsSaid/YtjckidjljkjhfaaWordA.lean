/- The walk of word.Check: which words are over k letters. -/
import Derived.Test.YtjckidjljkjhfaaA1
import Derived.Laws.RangeAny
import Derived.Laws.RangeString
namespace Go.Proofs.Ytjckidjljkjhfaa
open Go.RowKit
set_option linter.unusedSimpArgs false
set_option linter.unusedVariables false
/-- Is each byte one of the first k letters? -/
def letB (k : Int) (s : ByteArray) : Bool := s.data.toList.all fun c => decide (97 ≤ c.toNat) && decide ((c.toNat : Int) < 97 + k)
theorem letB_at {k : Int} {s : ByteArray} (h : letB k s = true) (i : Nat) (hi : i < s.size) : 97 ≤ (s[i]'hi).toNat ∧ ((s[i]'hi).toNat : Int) < 97 + k := by
  unfold letB at h
  rw [List.all_eq_true] at h
  have := h (s[i]'hi) (by
    have : s.data.toList[i]? = some (s[i]'hi) := by
      rw [Array.getElem?_toList, Array.getElem?_eq_getElem hi]; rfl
    exact List.mem_of_getElem? this)
  simpa using this
theorem letB_of {k : Int} {s : ByteArray} (h : ∀ i (hi : i < s.size), 97 ≤ (s[i]'hi).toNat ∧ ((s[i]'hi).toNat : Int) < 97 + k) : letB k s = true := by
  unfold letB
  rw [List.all_eq_true]
  intro c hc
  obtain ⟨i, hi, rfl⟩ := List.mem_iff_getElem.1 hc
  have hi' : i < s.size := by simpa using hi
  have := h i hi'
  have e : s.data.toList[i] = s[i]'hi' := by rw [Array.getElem_toList]; rfl
  rw [e]
  simpa using this
theorem letB_no {k : Int} {s : ByteArray} {i : Nat} (hi : i < s.size) (h : ¬ (97 ≤ (s[i]'hi).toNat ∧ ((s[i]'hi).toNat : Int) < 97 + k)) : letB k s = false := by
  cases hb : letB k s
  · rfl
  · exact absurd (letB_at hb i hi) h
/-- The error of a word over k letters. -/
def wrdE (k : Int) (s : ByteArray) : Int := if k < 1 ∨ 8 < k then 20 else if letB k s then 0 else 21
set_option maxRecDepth 1000000 in
set_option maxHeartbeats 2000000 in
theorem word_any (k : Int) (s : ByteArray) (w : World) :
    Calls Try.prog 62 #[.int .i64 k, .string s] w fun e w' => e = .returned (.int .i64 (wrdE k s)) ∧ Below w.heap.size w w' := by
  by_cases hk : k < 1 ∨ 8 < k
  · have HE : Hid (wrdE k s = 20) := Lib.hid (by unfold wrdE; rw [if_pos hk])
    rcases hk with hk | hk
    · go_enter Try.func62, Try.ntmps62
      go_wp2
      go_ret
      exact ⟨by rw [HE.out]; rfl, Below.refl _ _⟩
    · have hk1 : ¬ k < 1 := by omega
      go_enter Try.func62, Try.ntmps62
      go_wp2
      go_ret
      exact ⟨by rw [HE.out]; rfl, Below.refl _ _⟩
  · have h1 : ¬ k < 1 := by omega
    have h2 : ¬ 8 < k := by omega
    have HY : Hid (letB k s = true → wrdE k s = 0) := Lib.hid (fun h => by unfold wrdE; rw [if_neg hk, h]; rfl)
    have HN : Hid (letB k s = false → wrdE k s = 21) := Lib.hid (fun h => by unfold wrdE; rw [if_neg hk, h]; rfl)
    clear hk
    go_enter Try.func62, Try.ntmps62
    go_wp2
    go_loopw [6] (fun _ w' => ∃ pos : Nat, pos ≤ s.size ∧ w' = w.iter s pos ∧ Hid (∀ i (hi : i < s.size), i < pos → 97 ≤ (s[i]'hi).toNat ∧ ((s[i]'hi).toNat : Int) < 97 + k)) (fun _ w' => s.size - w'.iterPos w.heap.size)
    case atStart => exact ⟨0, by omega, rfl, Lib.hid (fun i hi h => absurd h (by omega))⟩
    case round =>
      obtain ⟨pos, hpos, rfl, HO⟩ := hrel
      have HB : Hid (∀ p, Below w.heap.size w (w.iter s p)) := Lib.hid (fun p => bl_alloc (Below.refl w.heap.size w) (.stringIter s p))
      by_cases hp : pos < s.size
      · by_cases ha : (s[pos]'hp).toNat < 128
        · have hnx : ∀ ty, (Instr.next (.pointer (some ⟨w.heap.size, 0, none⟩)) true ty).run Try.prog (w.iter s pos) = _ := fun ty => run_next_ascii w s pos ty hp ha
          by_cases hc : 97 ≤ (s[pos]'hp).toNat ∧ ((s[pos]'hp).toNat : Int) < 97 + k
          · have HO2 : Hid (∀ i (hi : i < s.size), i < pos + 1 → 97 ≤ (s[i]'hi).toNat ∧ ((s[i]'hi).toNat : Int) < 97 + k) := Lib.hid (fun i hi h => by
              by_cases e : i = pos
              · subst e; exact hc
              · exact HO.out i hi (by omega))
            obtain ⟨hc1, hc2⟩ := hc
            generalize (s[pos]'hp).toNat = c at *
            have hd1 : decide ((c : Int) < 97) = false := by simp; omega
            have hd2 : decide (97 + k ≤ (c : Int)) = false := by simpa using hc2
            have hd3 : decide (c < 97) = false := by simpa using hc1
            go_wp2
            go_roundw
            case rel => exact ⟨pos + 1, by omega, rfl, HO2⟩
            case measure => simp; omega
          · have HE := Lib.hid (HN.out (letB_no hp hc))
            generalize (s[pos]'hp).toNat = c at *
            by_cases hc1 : c < 97
            · have hd1 : decide ((c : Int) < 97) = true := by simp; omega
              have hd3 : decide (c < 97) = true := by simpa using hc1
              go_wp2
              go_ret
              exact ⟨by rw [HE.out]; rfl, HB.out _⟩
            · have hd1 : decide ((c : Int) < 97) = false := by simp; omega
              have hd3 : decide (c < 97) = false := by simpa using hc1
              have hd2 : decide (97 + k ≤ (c : Int)) = true := by simp; omega
              go_wp2
              go_ret
              exact ⟨by rw [HE.out]; rfl, HB.out _⟩
        · have hnx : ∀ ty, (Instr.next (.pointer (some ⟨w.heap.size, 0, none⟩)) true ty).run Try.prog (w.iter s pos) = _ := fun ty => run_next_any w s pos ty hp
          have HE := Lib.hid (HN.out (letB_no hp (fun h => by omega)))
          obtain ⟨hh, _⟩ := decode_high s pos hp (by omega)
          generalize (Utf8.decode s pos).1 = c at *
          generalize (Utf8.decode s pos).2 = wd at *
          have hd1 : decide ((c : Int) < 97) = false := by simp; omega
          have hd2 : decide (97 + k ≤ (c : Int)) = true := by simp; omega
          go_wp2

          go_ret
          exact ⟨by rw [HE.out]; rfl, HB.out _⟩
      · have hnx : ∀ ty, (Instr.next (.pointer (some ⟨w.heap.size, 0, none⟩)) true ty).run Try.prog (w.iter s pos) = _ := fun ty => run_next_end w s pos ty hp
        have HE := Lib.hid (HY.out (letB_of (fun i hi => HO.out i hi (by omega))))
        go_wp2
        go_ret
        exact ⟨by rw [HE.out]; rfl, HB.out _⟩
end Go.Proofs.Ytjckidjljkjhfaa
