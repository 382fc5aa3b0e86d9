/- The walk of word.Check: which words are over k letters. -/
import Derived.Test.YtpebnldoimoahaaWords
import Derived.Laws.RangeAny
import Derived.Laws.RangeString
import Derived.Test.YtpebnldoimoahaaWMore
import Derived.Test.YtpebnldoimoahaaRegion
import Derived.IntWalk
import Derived.Test.YtpebnldoimoahaaOpen
import Derived.Deep.Grids
import Derived.Test.YtpebnldoimoahaaGoodE
namespace Go.Proofs.Ytpebnldoimoahaa
open Go.RowKit
set_option linter.unusedSimpArgs false
set_option linter.unusedVariables false
/-- Is each byte one of the first k letters? -/
def letB (k : Int) (s : ByteArray) : Bool := s.data.toList.all fun c => decide (97 ≤ c.toNat) && decide ((c.toNat : Int) < 97 + k)
theorem letB_at {k : Int} {s : ByteArray} (h : letB k s = true) (i : Nat) (hi : i < s.size) : 97 ≤ (s[i]'hi).toNat ∧ ((s[i]'hi).toNat : Int) < 97 + k := by
  unfold letB at h
  rw [List.all_eq_true] at h
  have := h (s[i]'hi) (by
    have : s.data.toList[i]? = some (s[i]'hi) := by
      rw [Array.getElem?_toList, Array.getElem?_eq_getElem hi]; rfl
    exact List.mem_of_getElem? this)
  simpa using this
theorem letB_of {k : Int} {s : ByteArray} (h : ∀ i (hi : i < s.size), 97 ≤ (s[i]'hi).toNat ∧ ((s[i]'hi).toNat : Int) < 97 + k) : letB k s = true := by
  unfold letB
  rw [List.all_eq_true]
  intro c hc
  obtain ⟨i, hi, rfl⟩ := List.mem_iff_getElem.1 hc
  have hi' : i < s.size := by simpa using hi
  have := h i hi'
  have e : s.data.toList[i] = s[i]'hi' := by rw [Array.getElem_toList]; rfl
  rw [e]
  simpa using this
theorem letB_no {k : Int} {s : ByteArray} {i : Nat} (hi : i < s.size) (h : ¬ (97 ≤ (s[i]'hi).toNat ∧ ((s[i]'hi).toNat : Int) < 97 + k)) : letB k s = false := by
  cases hb : letB k s
  · rfl
  · exact absurd (letB_at hb i hi) h
/-- The error of a word over k letters. -/
def wrdE (k : Int) (s : ByteArray) : Int := if k < 1 ∨ 8 < k then 20 else if letB k s then 0 else 21
set_option maxRecDepth 1000000 in
set_option maxHeartbeats 2000000 in
theorem word_any (k : Int) (s : ByteArray) (w : World) :
    Calls Try.prog 85 #[.int .i64 k, .string s] w fun e w' => e = .returned (.int .i64 (wrdE k s)) ∧ Below w.heap.size w w' := by
  by_cases hk : k < 1 ∨ 8 < k
  · have HE : Hid (wrdE k s = 20) := Lib.hid (by unfold wrdE; rw [if_pos hk])
    rcases hk with hk | hk
    · go_enter Try.func85, Try.ntmps85
      go_wp2
      go_ret
      exact ⟨by rw [HE.out]; rfl, Below.refl _ _⟩
    · have hk1 : ¬ k < 1 := by omega
      go_enter Try.func85, Try.ntmps85
      go_wp2
      go_ret
      exact ⟨by rw [HE.out]; rfl, Below.refl _ _⟩
  · have h1 : ¬ k < 1 := by omega
    have h2 : ¬ 8 < k := by omega
    have HY : Hid (letB k s = true → wrdE k s = 0) := Lib.hid (fun h => by unfold wrdE; rw [if_neg hk, h]; rfl)
    have HN : Hid (letB k s = false → wrdE k s = 21) := Lib.hid (fun h => by unfold wrdE; rw [if_neg hk, h]; rfl)
    clear hk
    go_enter Try.func85, Try.ntmps85
    go_wp2
    go_loopw [6] (fun _ w' => ∃ pos : Nat, pos ≤ s.size ∧ w' = w.iter s pos ∧ Hid (∀ i (hi : i < s.size), i < pos → 97 ≤ (s[i]'hi).toNat ∧ ((s[i]'hi).toNat : Int) < 97 + k)) (fun _ w' => s.size - w'.iterPos w.heap.size)
    case atStart => exact ⟨0, by omega, rfl, Lib.hid (fun i hi h => absurd h (by omega))⟩
    case round =>
      obtain ⟨pos, hpos, rfl, HO⟩ := hrel
      have HB : Hid (∀ p, Below w.heap.size w (w.iter s p)) := Lib.hid (fun p => bl_alloc (Below.refl w.heap.size w) (.stringIter s p))
      by_cases hp : pos < s.size
      · by_cases ha : (s[pos]'hp).toNat < 128
        · have hnx : ∀ ty, (Instr.next (.pointer (some ⟨w.heap.size, 0, none⟩)) true ty).run Try.prog (w.iter s pos) = _ := fun ty => run_next_ascii w s pos ty hp ha
          by_cases hc : 97 ≤ (s[pos]'hp).toNat ∧ ((s[pos]'hp).toNat : Int) < 97 + k
          · have HO2 : Hid (∀ i (hi : i < s.size), i < pos + 1 → 97 ≤ (s[i]'hi).toNat ∧ ((s[i]'hi).toNat : Int) < 97 + k) := Lib.hid (fun i hi h => by
              by_cases e : i = pos
              · subst e; exact hc
              · exact HO.out i hi (by omega))
            obtain ⟨hc1, hc2⟩ := hc
            generalize (s[pos]'hp).toNat = c at *
            have hd1 : decide ((c : Int) < 97) = false := by simp; omega
            have hd2 : decide (97 + k ≤ (c : Int)) = false := by simpa using hc2
            have hd3 : decide (c < 97) = false := by simpa using hc1
            go_wp2
            go_roundw
            case rel => exact ⟨pos + 1, by omega, rfl, HO2⟩
            case measure => simp; omega
          · have HE := Lib.hid (HN.out (letB_no hp hc))
            generalize (s[pos]'hp).toNat = c at *
            by_cases hc1 : c < 97
            · have hd1 : decide ((c : Int) < 97) = true := by simp; omega
              have hd3 : decide (c < 97) = true := by simpa using hc1
              go_wp2
              go_ret
              exact ⟨by rw [HE.out]; rfl, HB.out _⟩
            · have hd1 : decide ((c : Int) < 97) = false := by simp; omega
              have hd3 : decide (c < 97) = false := by simpa using hc1
              have hd2 : decide (97 + k ≤ (c : Int)) = true := by simp; omega
              go_wp2
              go_ret
              exact ⟨by rw [HE.out]; rfl, HB.out _⟩
        · have hnx : ∀ ty, (Instr.next (.pointer (some ⟨w.heap.size, 0, none⟩)) true ty).run Try.prog (w.iter s pos) = _ := fun ty => run_next_any w s pos ty hp
          have HE := Lib.hid (HN.out (letB_no hp (fun h => by omega)))
          obtain ⟨hh, _⟩ := decode_high s pos hp (by omega)
          generalize (Utf8.decode s pos).1 = c at *
          generalize (Utf8.decode s pos).2 = wd at *
          have hd1 : decide ((c : Int) < 97) = false := by simp; omega
          have hd2 : decide (97 + k ≤ (c : Int)) = true := by simp; omega
          go_wp2

          go_ret
          exact ⟨by rw [HE.out]; rfl, HB.out _⟩
      · have hnx : ∀ ty, (Instr.next (.pointer (some ⟨w.heap.size, 0, none⟩)) true ty).run Try.prog (w.iter s pos) = _ := fun ty => run_next_end w s pos ty hp
        have HE := Lib.hid (HY.out (letB_of (fun i hi => HO.out i hi (by omega))))
        go_wp2
        go_ret
        exact ⟨by rw [HE.out]; rfl, HB.out _⟩
end Go.Proofs.Ytpebnldoimoahaa

namespace Go.Proofs.Ytpebnldoimoahaa
open Go.RowKit Go.Proofs.YtpebnldoimoahaaW.PrintWords
set_option linter.unusedSimpArgs false
set_option linter.unusedVariables false
/-- An automaton: its letters, where they lead, which states are accepted. -/
structure AutV where
  k : Int
  next : List Int
  acc : List Bool
abbrev ac (x : AutV) (A : Option Addr) (c : Nat) (B : Option Addr) (d : Nat) : Array Value := #[.int .i64 x.k, .slice A x.next.length c, .slice B x.acc.length d]
/-- It reads so. -/
structure ARd (w : World) (x : AutV) (A B : Option Addr) : Prop where
  next : Kd.C (Kd.int .i64) w A x.next.length x.next
  acc : Kd.C Kd.bool w B x.acc.length x.acc
theorem ARd.below {w w' : World} {x : AutV} {A B : Option Addr} (h : ARd w x A B) (hb : Below w.heap.size w w') : ARd w' x A B := ⟨Kd.C_below h.next hb, Kd.C_below h.acc hb⟩
def AutOk (x : AutV) : Prop := 1 ≤ x.k ∧ x.k ≤ 8 ∧ 1 ≤ x.acc.length ∧ x.acc.length ≤ 4096 ∧ (x.next.length : Int) = (x.acc.length : Int) * x.k ∧ ∀ i : Nat, i < x.next.length → 0 ≤ rd x.next i ∧ rd x.next i < x.acc.length
open Classical in
noncomputable def autE (x : AutV) : Int := if AutOk x then 0 else 80
theorem autE_ok {x : AutV} (h : AutOk x) : autE x = 0 := by unfold autE; rw [if_pos h]
theorem autE_no {x : AutV} (h : ¬ AutOk x) : autE x = 80 := by unfold autE; rw [if_neg h]
theorem aut_mul {m : Nat} {k : Int} (h1 : 1 ≤ k) (h2 : k ≤ 8) (h3 : m ≤ 4096) : 0 ≤ (m : Int) * k ∧ (m : Int) * k ≤ 32768 := by
  have hk : k = 1 ∨ k = 2 ∨ k = 3 ∨ k = 4 ∨ k = 5 ∨ k = 6 ∨ k = 7 ∨ k = 8 := by omega
  rcases hk with rfl | rfl | rfl | rfl | rfl | rfl | rfl | rfl <;> omega
set_option maxRecDepth 100000 in
set_option maxHeartbeats 4000000 in
theorem acheck_any (x : AutV) (A : Option Addr) (c : Nat) (B : Option Addr) (d : Nat) (w : World) (hr : ARd w x A B) :
    Calls Try.prog 69 #[.agg (ac x A c B d)] w fun e w' => e = .returned (.int .i64 (autE x)) ∧ Below w.heap.size w w' := by
  have HR := Aside0.mk hr
  have hmx := Kd.C_max hr.next
  have hmy := Kd.C_max hr.acc
  have HBL : Hid (Below w.heap.size w (w.alloc (.cells (ac x A c B d) 77))) := Lib.hid (bl_alloc (Below.refl _ _) _)
  clear hr
  obtain ⟨E, HE⟩ : ∃ E, Hid (autE x = E) := ⟨_, Lib.hid rfl⟩
  rw [HE.out]
  by_cases h1 : x.k < 1
  · have HN : Hid (E = 80) := Lib.hid (by rw [← HE.out, autE_no (fun h => by have := h.1; omega)])
    go_enter Try.func69, Try.ntmps69
    go_wp2
    go_ret
    exact ⟨by rw [HN.out]; rfl, HBL.out⟩
  by_cases h2 : 8 < x.k
  · have HN : Hid (E = 80) := Lib.hid (by rw [← HE.out, autE_no (fun h => by have := h.2.1; omega)])
    go_enter Try.func69, Try.ntmps69
    go_wp2
    go_ret
    exact ⟨by rw [HN.out]; rfl, HBL.out⟩
  by_cases h3 : x.acc.length < 1
  · have HN : Hid (E = 80) := Lib.hid (by rw [← HE.out, autE_no (fun h => by have := h.2.2.1; omega)])
    go_enter Try.func69, Try.ntmps69
    go_wp2
    go_ret
    exact ⟨by rw [HN.out]; rfl, HBL.out⟩
  by_cases h4 : 4096 < x.acc.length
  · have HN : Hid (E = 80) := Lib.hid (by rw [← HE.out, autE_no (fun h => by have := h.2.2.2.1; omega)])
    go_enter Try.func69, Try.ntmps69
    go_wp2
    go_ret
    exact ⟨by rw [HN.out]; rfl, HBL.out⟩
  obtain ⟨hp0, hp1⟩ := aut_mul (m := x.acc.length) (k := x.k) (by omega) (by omega) (by omega)
  by_cases h5 : (x.next.length : Int) = (x.acc.length : Int) * x.k
  · have hne : ((x.next.length : Int) != (x.acc.length : Int) * x.k) = false := by rw [bne_eq_false_iff_eq]; exact h5
    have HY : Hid ((∀ i : Nat, i < x.next.length → 0 ≤ rd x.next i ∧ rd x.next i < x.acc.length) → E = 0) := Lib.hid (fun h => by rw [← HE.out, autE_ok ⟨by omega, by omega, by omega, by omega, h5, h⟩])
    have HN : Hid (∀ i : Nat, i < x.next.length → ¬ (0 ≤ rd x.next i ∧ rd x.next i < x.acc.length) → E = 80) := Lib.hid (fun i hi h => by rw [← HE.out, autE_no (fun hh => h (hh.2.2.2.2.2 i hi))])
    clear h5
    go_enter Try.func69, Try.ntmps69
    go_wp2
    go_loopw [38] (fun i wr => ∃ k : Nat, k ≤ x.next.length ∧ i = .int .i64 k ∧ Hid (∀ i : Nat, i < k → 0 ≤ rd x.next i ∧ rd x.next i < x.acc.length) ∧ Hid (wr.heap[w.heap.size]? = some (.cells (ac x A c B d) 77 (0, 0)) ∧ Below w.heap.size w wr)) (fun i _ => x.next.length - (intOf i).toNat)
    case atStart => exact ⟨0, by omega, rfl, Lib.hid (fun i hi => absurd hi (by omega)), Lib.hid ⟨hp_new rfl, HBL.out⟩⟩
    case round =>
      obtain ⟨k, hk, rfl, HF, H⟩ := hrel
      by_cases hkn : k < x.next.length
      · obtain ⟨ad, hA, hcell⟩ := Kd.at_int (Kd.C_below HR.out.next H.out.2) k (by omega) (by omega)
        rw [Int.toNat_natCast] at hcell
        by_cases hok : 0 ≤ rd x.next k ∧ rd x.next k < x.acc.length
        · have HF2 : Hid (∀ i : Nat, i < k + 1 → 0 ≤ rd x.next i ∧ rd x.next i < x.acc.length) := Lib.hid (fun i hi => by
            by_cases e : i = k
            · subst e; exact hok
            · exact HF.out i (by omega))
          obtain ⟨ho1, ho2⟩ := hok
          subst hA
          generalize rd x.next k = y at *
          have hd1 : decide (y < 0) = false := by simp; omega
          have hd2 : decide ((x.acc.length : Int) ≤ y) = false := by simp; omega
          go_wp2
          go_roundw
          case rel => exact ⟨k + 1, by omega, by go_num, HF2, H⟩
          case measure => simp [intOf]; omega
        · have HE2 := Lib.hid (HN.out k hkn hok)
          subst hA
          generalize rd x.next k = y at *
          by_cases hy : y < 0
          · have hd1 : decide (y < 0) = true := by simp; omega
            go_wp2
            go_ret
            exact ⟨by rw [HE2.out]; rfl, H.out.2⟩
          · have hd1 : decide (y < 0) = false := by simp; omega
            have hd2 : decide ((x.acc.length : Int) ≤ y) = true := by simp; omega
            go_wp2
            go_ret
            exact ⟨by rw [HE2.out]; rfl, H.out.2⟩
      · have e8 : k = x.next.length := by omega
        have HE2 := Lib.hid (HY.out (fun i hi => HF.out i (by omega)))
        go_wp2
        go_ret
        exact ⟨by rw [HE2.out]; rfl, H.out.2⟩
  · have HN : Hid (E = 80) := Lib.hid (by rw [← HE.out, autE_no (fun h => h5 h.2.2.2.2.1)])
    have hne : ((x.next.length : Int) != (x.acc.length : Int) * x.k) = true := by rw [bne_iff_ne]; exact h5
    clear h5
    go_enter Try.func69, Try.ntmps69
    go_wp2
    go_ret
    exact ⟨by rw [HN.out]; rfl, HBL.out⟩
set_option maxRecDepth 100000 in
set_option maxHeartbeats 4000000 in
theorem racheck_any (x : AutV) (A : Option Addr) (c : Nat) (B : Option Addr) (d : Nat) (w : World) (hr : ARd w x A B) :
    Calls Try.prog 41 #[.agg (ac x A c B d)] w fun e w' => e = .returned (.int .i64 (autE x)) ∧ Below w.heap.size w w' := by
  have HR := Aside0.mk hr
  have hmx := Kd.C_max hr.next
  have hmy := Kd.C_max hr.acc
  have HBL : Hid (Below w.heap.size w (w.alloc (.cells (ac x A c B d) 77))) := Lib.hid (bl_alloc (Below.refl _ _) _)
  clear hr
  obtain ⟨E, HE⟩ : ∃ E, Hid (autE x = E) := ⟨_, Lib.hid rfl⟩
  rw [HE.out]
  by_cases h1 : x.k < 1
  · have HN : Hid (E = 80) := Lib.hid (by rw [← HE.out, autE_no (fun h => by have := h.1; omega)])
    go_enter Try.func41, Try.ntmps41
    go_wp2
    go_ret
    exact ⟨by rw [HN.out]; rfl, HBL.out⟩
  by_cases h2 : 8 < x.k
  · have HN : Hid (E = 80) := Lib.hid (by rw [← HE.out, autE_no (fun h => by have := h.2.1; omega)])
    go_enter Try.func41, Try.ntmps41
    go_wp2
    go_ret
    exact ⟨by rw [HN.out]; rfl, HBL.out⟩
  by_cases h3 : x.acc.length < 1
  · have HN : Hid (E = 80) := Lib.hid (by rw [← HE.out, autE_no (fun h => by have := h.2.2.1; omega)])
    go_enter Try.func41, Try.ntmps41
    go_wp2
    go_ret
    exact ⟨by rw [HN.out]; rfl, HBL.out⟩
  by_cases h4 : 4096 < x.acc.length
  · have HN : Hid (E = 80) := Lib.hid (by rw [← HE.out, autE_no (fun h => by have := h.2.2.2.1; omega)])
    go_enter Try.func41, Try.ntmps41
    go_wp2
    go_ret
    exact ⟨by rw [HN.out]; rfl, HBL.out⟩
  obtain ⟨hp0, hp1⟩ := aut_mul (m := x.acc.length) (k := x.k) (by omega) (by omega) (by omega)
  by_cases h5 : (x.next.length : Int) = (x.acc.length : Int) * x.k
  · have hne : ((x.next.length : Int) != (x.acc.length : Int) * x.k) = false := by rw [bne_eq_false_iff_eq]; exact h5
    have HY : Hid ((∀ i : Nat, i < x.next.length → 0 ≤ rd x.next i ∧ rd x.next i < x.acc.length) → E = 0) := Lib.hid (fun h => by rw [← HE.out, autE_ok ⟨by omega, by omega, by omega, by omega, h5, h⟩])
    have HN : Hid (∀ i : Nat, i < x.next.length → ¬ (0 ≤ rd x.next i ∧ rd x.next i < x.acc.length) → E = 80) := Lib.hid (fun i hi h => by rw [← HE.out, autE_no (fun hh => h (hh.2.2.2.2.2 i hi))])
    clear h5
    go_enter Try.func41, Try.ntmps41
    go_wp2
    go_loopw [4] (fun i wr => ∃ k : Nat, k ≤ x.next.length ∧ i = .int .i64 k ∧ Hid (∀ i : Nat, i < k → 0 ≤ rd x.next i ∧ rd x.next i < x.acc.length) ∧ Hid (wr.heap[w.heap.size]? = some (.cells (ac x A c B d) 77 (0, 0)) ∧ Below w.heap.size w wr)) (fun i _ => x.next.length - (intOf i).toNat)
    case atStart => exact ⟨0, by omega, rfl, Lib.hid (fun i hi => absurd hi (by omega)), Lib.hid ⟨hp_new rfl, HBL.out⟩⟩
    case round =>
      obtain ⟨k, hk, rfl, HF, H⟩ := hrel
      have d1 : wr.cell? ⟨w.heap.size, 1, none⟩ = some (.slice A x.next.length c) := by rw [cell_of_row _ _ _ _ _ _ H.out.1]; rfl
      by_cases hkn : k < x.next.length
      · obtain ⟨ad, hA, hcell⟩ := Kd.at_int (Kd.C_below HR.out.next H.out.2) k (by omega) (by omega)
        rw [Int.toNat_natCast] at hcell
        by_cases hok : 0 ≤ rd x.next k ∧ rd x.next k < x.acc.length
        · have HF2 : Hid (∀ i : Nat, i < k + 1 → 0 ≤ rd x.next i ∧ rd x.next i < x.acc.length) := Lib.hid (fun i hi => by
            by_cases e : i = k
            · subst e; exact hok
            · exact HF.out i (by omega))
          obtain ⟨ho1, ho2⟩ := hok
          subst hA
          generalize rd x.next k = y at *
          have hd1 : decide (y < 0) = false := by simp; omega
          have hd2 : decide ((x.acc.length : Int) ≤ y) = false := by simp; omega
          go_wp2
          go_roundw
          case rel => exact ⟨k + 1, by omega, by go_num, HF2, H⟩
          case measure => simp [intOf]; omega
        · have HE2 := Lib.hid (HN.out k hkn hok)
          subst hA
          generalize rd x.next k = y at *
          by_cases hy : y < 0
          · have hd1 : decide (y < 0) = true := by simp; omega
            go_wp2
            go_ret
            exact ⟨by rw [HE2.out]; rfl, H.out.2⟩
          · have hd1 : decide (y < 0) = false := by simp; omega
            have hd2 : decide ((x.acc.length : Int) ≤ y) = true := by simp; omega
            go_wp2
            go_ret
            exact ⟨by rw [HE2.out]; rfl, H.out.2⟩
      · have e8 : k = x.next.length := by omega
        have HE2 := Lib.hid (HY.out (fun i hi => HF.out i (by omega)))
        go_wp2
        go_ret
        exact ⟨by rw [HE2.out]; rfl, H.out.2⟩
  · have HN : Hid (E = 80) := Lib.hid (by rw [← HE.out, autE_no (fun h => h5 h.2.2.2.2.1)])
    have hne : ((x.next.length : Int) != (x.acc.length : Int) * x.k) = true := by rw [bne_iff_ne]; exact h5
    clear h5
    go_enter Try.func41, Try.ntmps41
    go_wp2
    go_ret
    exact ⟨by rw [HN.out]; rfl, HBL.out⟩
end Go.Proofs.Ytpebnldoimoahaa

namespace Go.Proofs.Ytpebnldoimoahaa
open Go.RowKit Go.Proofs.YtpebnldoimoahaaW.PrintWords
set_option linter.unusedSimpArgs false
set_option linter.unusedVariables false
/-- Where a letter leads. -/
def stp (x : AutV) (s c : Nat) : Nat := (rd x.next ((s * x.k.toNat + c : Nat) : Int)).toNat
/-- Where a word leads. -/
def fol (x : AutV) (s : Nat) (l : List UInt8) : Nat := l.foldl (fun s c => stp x s (c.toNat - 97)) s
theorem aut_idx {x : AutV} (h : AutOk x) {s c : Nat} (hs : s < x.acc.length) (hc : (c : Int) < x.k) : s * x.k.toNat + c < x.next.length := by
  obtain ⟨h1, h2, h3, h4, h5, _⟩ := h
  obtain ⟨k, hk⟩ := Int.eq_ofNat_of_zero_le (show 0 ≤ x.k by omega)
  rw [hk] at h1 h2 h5 hc ⊢
  simp only [Int.toNat_natCast]
  have e : x.next.length = x.acc.length * k := by exact_mod_cast h5
  rw [e]
  have : (s + 1) * k ≤ x.acc.length * k := Nat.mul_le_mul_right _ hs
  rw [Nat.succ_mul] at this
  omega
theorem stp_lt {x : AutV} (h : AutOk x) {s c : Nat} (hs : s < x.acc.length) (hc : (c : Int) < x.k) : stp x s c < x.acc.length ∧ rd x.next ((s * x.k.toNat + c : Nat) : Int) = (stp x s c : Nat) := by
  have hi := aut_idx h hs hc
  obtain ⟨h1, h2⟩ := h.2.2.2.2.2 _ hi
  unfold stp
  omega
theorem fol_snoc (x : AutV) (s : Nat) (l : List UInt8) (c : UInt8) : fol x s (l ++ [c]) = stp x (fol x s l) (c.toNat - 97) := by simp [fol]
theorem byte_take (s : ByteArray) (k : Nat) (h : k < s.size) : s.data.toList.take (k + 1) = s.data.toList.take k ++ [s[k]] := by
  rw [List.take_succ_eq_append_getElem (by simpa using h)]; rfl
theorem fol_lt {x : AutV} (h : AutOk x) {s : Nat} (hs : s < x.acc.length) {w : ByteArray} (hw : letB x.k w = true) : ∀ k, k ≤ w.size → fol x s (w.data.toList.take k) < x.acc.length
  | 0, _ => by simpa [fol] using hs
  | k + 1, hk => by
    rw [byte_take w k (by omega), fol_snoc]
    have := letB_at hw k (by omega)
    exact (stp_lt h (fol_lt h hs hw k (by omega)) (by omega)).1
set_option maxRecDepth 100000 in
set_option maxHeartbeats 4000000 in
theorem follow_any (x : AutV) (A : Option Addr) (c : Nat) (B : Option Addr) (d : Nat) (s : Nat) (v : ByteArray) (w : World) (hr : ARd w x A B) (hx : AutOk x) (hs : s < x.acc.length) (hv : letB x.k v = true) (hsz : v.size ≤ 4611686018427387904) :
    Calls Try.prog 80 #[.agg (ac x A c B d), .int .i64 s, .string v] w fun e w' => e = .returned (.int .i64 ((fol x s v.data.toList : Nat) : Int)) ∧ Below w.heap.size w w' := by
  have HR := Aside0.mk hr
  have HX := Lib.hid hx
  have HV := Lib.hid hv
  have HS := Lib.hid hs
  have HFL := Lib.hid (fun k hk => fol_lt hx hs hv k hk)
  obtain ⟨R, HRR⟩ : ∃ R, Hid (fol x s v.data.toList = R) := ⟨_, Lib.hid rfl⟩
  rw [HRR.out]
  have h4 := hx.2.2.2.1
  clear hr hx hv hs
  go_enter Try.func80, Try.ntmps80
  go_wp2
  go_loopw [10, 1] (fun i q wr => ∃ k : Nat, k ≤ v.size ∧ i = .int .i64 k ∧ q = .int .i64 ((fol x s (v.data.toList.take k) : Nat) : Int) ∧ Hid (wr.heap[w.heap.size]? = some (.cells (ac x A c B d) 77 (0, 0)) ∧ Below w.heap.size w wr)) (fun i _ _ => v.size - (intOf i).toNat)
  case atStart => exact ⟨0, by omega, rfl, rfl, Lib.hid ⟨hp_new rfl, bl_alloc (Below.refl _ _) _⟩⟩
  case round =>
    obtain ⟨k, hk, rfl, rfl, H⟩ := hrel
    by_cases hkv : k < v.size
    · have hq := HFL.out k hk
      have hb := letB_at HV.out k hkv
      have HST : Hid (fol x s (v.data.toList.take (k + 1)) = stp x (fol x s (v.data.toList.take k)) ((v[k]'hkv).toNat - 97)) := Lib.hid (by rw [byte_take v k hkv, fol_snoc])
      generalize hqq : fol x s (v.data.toList.take k) = q at *
      clear hqq
      obtain ⟨hb1, hb2⟩ := hb
      obtain ⟨l, hl⟩ : ∃ l : Nat, l = (v[k]'hkv).toNat - 97 := ⟨_, rfl⟩
      have hlk : (l : Int) < x.k := by omega
      have hcl : ((v[k]'hkv).toNat : Int) = (l : Int) + 97 := by omega
      have hix := aut_idx HX.out hq hlk
      obtain ⟨hz1, hz2⟩ := stp_lt HX.out hq hlk
      rw [← hl] at HST
      have hk8 := HX.out.2.1
      have hk1 := HX.out.1
      have hmul : (q : Int) * x.k = ((q * x.k.toNat : Nat) : Int) := by
        obtain ⟨kk, hkk⟩ := Int.eq_ofNat_of_zero_le (show 0 ≤ x.k by omega)
        rw [hkk, Int.toNat_natCast]; push_cast; rfl
      have hqk : q * x.k.toNat ≤ 40960 := by
        have : q * x.k.toNat ≤ 4096 * 10 := Nat.mul_le_mul (by omega) (by omega)
        omega
      obtain ⟨ad, hA, hcell⟩ := Kd.at_int (Kd.C_below HR.out.next H.out.2) ((q * x.k.toNat + l : Nat) : Int) (by omega) (by omega)
      rw [Int.toNat_natCast, hz2] at hcell
      have HCELL := Lib.hid hcell
      have HMUL := Lib.hid hmul
      have HCL := Lib.hid hcl
      have HSTP : Hid (stp x q l < x.acc.length) := Lib.hid hz1
      rw [hA] at H
      generalize hPP : q * x.k.toNat = P at *
      generalize stp x q l = z at *
      clear hcell hmul hz2 hl hPP hcl hz1
      go_wp2
      refine wp_region_held_drew (S := fun w' => w' = wr.drew) (by kernel_rfl) rfl (fun hS => ?_)
      have hw5 : IntKind.i64.wrap ((q : Int) * x.k) = (P : Int) := by rw [HMUL.out]; exact IntWalk.i64_in _ ⟨by omega, by omega⟩
      have hw10 : IntKind.i64.wrap (l : Int) = (l : Int) := IntWalk.i64_in _ ⟨by omega, by omega⟩
      have hw9 : IntKind.u8.wrap (((v[k]'hkv).toNat : Int) - 97) = (l : Int) := by rw [HCL.out, show (l : Int) + 97 - 97 = l by omega]; exact IntWalk.u8_in _ ⟨by omega, by omega⟩
      have hw11 : IntKind.i64.wrap ((P : Int) + (l : Int)) = (P : Int) + (l : Int) := IntWalk.i64_in _ ⟨by omega, by omega⟩
      have hw12 : 0 ≤ (P : Int) + (l : Int) ∧ (P : Int) + (l : Int) < (x.next.length : Int) := ⟨by omega, by omega⟩
      have hw13 : ((P : Int) + (l : Int)).toNat = P + l := by omega
      refine any_take (i := 0) (v := ?v2) rfl (by kernel_rfl) (by kernel_rfl) (by kernel_rfl) (fun _ _ _ h => h) hS (.inl ⟨by rfl, ?y2⟩) ?_
      case y2 => (intro w' h'; go_simp; with_reducible rfl)
      (try simp only [Act.put, List.setIfInBounds_toArray, List.set_cons_zero, List.set_cons_succ])
      refine any_take (i := 1) (v := .slice (some ad) x.next.length c) rfl (by kernel_rfl) (by kernel_rfl) (by kernel_rfl) (fun _ _ _ h => h) hS (yi_cell _ _ rfl (by rfl) ⟨w.heap.size, 1, none⟩ rfl _ Try.underlying22 rfl (fun w' h' => (by rw [h', cell_of_row _ _ _ _ _ _ (show wr.drew.heap[w.heap.size]? = _ from H.out.1)]; rfl))) ?_
      (try simp only [Act.put, List.setIfInBounds_toArray, List.set_cons_zero, List.set_cons_succ])
      refine any_take (i := 2) (v := ?v5) rfl (by kernel_rfl) (by kernel_rfl) (by kernel_rfl) (fun _ _ _ h => h) hS (.inl ⟨by rfl, ?y5⟩) ?_
      case y5 => (intro w' h'; go_simp; with_reducible rfl)
      (try simp only [Act.put, List.setIfInBounds_toArray, List.set_cons_zero, List.set_cons_succ])
      refine any_take (i := 3) (v := ?v6) rfl (by kernel_rfl) (by kernel_rfl) (by kernel_rfl) (fun _ _ _ h => h) hS (.inl ⟨by rfl, ?y6⟩) ?_
      case y6 => (intro w' h'; go_simp; with_reducible rfl)
      (try simp only [Act.put, List.setIfInBounds_toArray, List.set_cons_zero, List.set_cons_succ])
      refine any_take (i := 4) (v := .int .i64 x.k) rfl (by kernel_rfl) (by kernel_rfl) (by kernel_rfl) (fun _ _ _ h => h) hS (yi_cell _ _ rfl (by rfl) ⟨w.heap.size, 0, none⟩ rfl _ Try.underlying3 rfl (fun w' h' => (by rw [h', cell_of_row _ _ _ _ _ _ (show wr.drew.heap[w.heap.size]? = _ from H.out.1)]; rfl))) ?_
      (try simp only [Act.put, List.setIfInBounds_toArray, List.set_cons_zero, List.set_cons_succ])
      refine any_take (i := 5) (v := .int .i64 (P : Int)) rfl (by kernel_rfl) (by kernel_rfl) (by kernel_rfl) (fun _ _ _ h => h) hS (yi_val (by rfl) (fun w' h' => ?y8)) ?_
      case y8 => first | rfl | (go_simp; done) | (go_simp; omega)
      (try simp only [Act.put, List.setIfInBounds_toArray, List.set_cons_zero, List.set_cons_succ])
      refine any_take (i := 6) (v := ?v10) rfl (by kernel_rfl) (by kernel_rfl) (by kernel_rfl) (fun _ _ _ h => h) hS (.inl ⟨by rfl, ?y10⟩) ?_
      case y10 => (intro w' h'; go_simp; with_reducible rfl)
      (try simp only [Act.put, List.setIfInBounds_toArray, List.set_cons_zero, List.set_cons_succ])
      refine any_take (i := 7) (v := ?v11) rfl (by kernel_rfl) (by kernel_rfl) (by kernel_rfl) (fun _ _ _ h => h) hS (.inl ⟨by rfl, ?y11⟩) ?_
      case y11 => (intro w' h'; go_simp; with_reducible rfl)
      (try simp only [Act.put, List.setIfInBounds_toArray, List.set_cons_zero, List.set_cons_succ])
      refine any_take (i := 8) (v := .int .u8 ((v[k]'hkv).toNat : Int)) rfl (by kernel_rfl) (by kernel_rfl) (by kernel_rfl) (fun _ _ _ h => h) hS (yi_val (by rfl) (fun w' h' => ?y12)) ?_
      case y12 => first | rfl | (go_simp; done) | (go_simp; omega)
      (try simp only [Act.put, List.setIfInBounds_toArray, List.set_cons_zero, List.set_cons_succ])
      refine any_take (i := 9) (v := .int .u8 (l : Int)) rfl (by kernel_rfl) (by kernel_rfl) (by kernel_rfl) (fun _ _ _ h => h) hS (yi_val (by rfl) (fun w' h' => ?y13)) ?_
      case y13 => first | rfl | (go_simp; done) | (go_simp; omega)
      (try simp only [Act.put, List.setIfInBounds_toArray, List.set_cons_zero, List.set_cons_succ])
      refine any_take (i := 10) (v := .int .i64 (l : Int)) rfl (by kernel_rfl) (by kernel_rfl) (by kernel_rfl) (fun _ _ _ h => h) hS (yi_val (by rfl) (fun w' h' => ?y14)) ?_
      case y14 => first | rfl | (go_simp; done) | (go_simp; omega)
      (try simp only [Act.put, List.setIfInBounds_toArray, List.set_cons_zero, List.set_cons_succ])
      refine any_take (i := 11) (v := .int .i64 ((P : Int) + (l : Int))) rfl (by kernel_rfl) (by kernel_rfl) (by kernel_rfl) (fun _ _ _ h => h) hS (yi_val (by rfl) (fun w' h' => ?y15)) ?_
      case y15 => first | rfl | (go_simp; done) | (go_simp; omega)
      (try simp only [Act.put, List.setIfInBounds_toArray, List.set_cons_zero, List.set_cons_succ])
      refine any_take (i := 12) (v := .pointer (some (ad.add (P + l)))) rfl (by kernel_rfl) (by kernel_rfl) (by kernel_rfl) (fun _ _ _ h => h) hS (yi_val (by rfl) (fun w' h' => ?y16)) ?_
      case y16 => first | rfl | (go_simp; done) | (go_simp; omega)
      (try simp only [Act.put, List.setIfInBounds_toArray, List.set_cons_zero, List.set_cons_succ])
      refine any_take (i := 13) (v := .int .i64 (z : Int)) rfl (by kernel_rfl) (by kernel_rfl) (by kernel_rfl) (fun _ _ _ h => h) hS (yi_cell _ _ rfl (by rfl) (ad.add (P + l)) rfl _ Try.underlying3 rfl (fun w' h' => (by rw [h']; exact HCELL.out))) ?_
      (try simp only [Act.put, List.setIfInBounds_toArray, List.set_cons_zero, List.set_cons_succ])
      refine any_take (i := 14) (v := ?v19) rfl (by kernel_rfl) (by kernel_rfl) (by kernel_rfl) (fun _ _ _ h => h) hS (.inl ⟨by rfl, ?y19⟩) ?_
      case y19 => (intro w' h'; go_simp; with_reducible rfl)
      (try simp only [Act.put, List.setIfInBounds_toArray, List.set_cons_zero, List.set_cons_succ])
      refine wpAnyH_done (by kernel_rfl) ?_ _
      clear hS hw5 hw9 hw10 hw11 hw12 hw13
      go_wp2
      go_roundw
      case rel => exact ⟨k + 1, by omega, by go_num, by rw [HST.out], Lib.hid ⟨by rw [hA]; exact H.out.1, H.out.2.drew⟩⟩
      case measure => simp [intOf]; omega
    · have e8 : k = v.size := by omega
      subst e8
      have e9 : v.data.toList.take v.size = v.data.toList := List.take_of_length_le (by simp)
      rw [e9, HRR.out]
      go_wp2
      go_ret
      exact ⟨rfl, H.out.2⟩
/-- An automaton's block. -/
abbrev AB (x : AutV) (A : Option Addr) (c : Nat) (B : Option Addr) (d : Nat) : Obj := .cells (ac x A c B d) 77 (0, 0)
section
variable {ops : Array Oper} {rest : List Oper} {o : Oper} {a : Act} {w : World} {Q : Exit → Act → World → Prop}
/-- An automaton is loaded, guarded or not. -/
theorem ld_au (x : Operand) (ho : o.op = .load 77 x) (g : Nat) (hx : a.eval x = .pointer (some ⟨g, 0, none⟩)) {y : AutV} {A : Option Addr} {c : Nat} {B : Option Addr} {d : Nat} (hg : w.heap[g]? = some (AB y A c B d)) (hw : Region.wanted o (yielded ops a.tmps) = true)
    (h : wpList Try.prog ops Q rest (a.put o.dst (.agg (ac y A c B d))) w) : wpList Try.prog ops Q (o :: rest) a w :=
  wpList_step fun K hK => by
    rw [if_pos hw]
    exact wp_load_row 77 x ho g hx _ _ _ _ hg Try.underlying77 rfl (by kernel_rfl) (hK _ _ h)
end
set_option maxRecDepth 100000 in
theorem letters_any (x : AutV) (A : Option Addr) (c : Nat) (B : Option Addr) (d : Nat) (v : ByteArray) (w : World) :
    Calls Try.prog 79 #[.agg (ac x A c B d), .string v] w fun e w' => e = .returned (.int .i64 (wrdE x.k v)) ∧ Below w.heap.size w w' := by
  go_enter Try.func79, Try.ntmps79
  go_wp2_with fail
  refine (word_any x.k v _).mono ?_
  rintro e w1 ⟨rfl, hb⟩
  go_wp2
  go_ret
  exact ⟨rfl, bl_then (bl_alloc (Below.refl _ _) _) hb⟩
/-- What Run answers. -/
noncomputable def runV (x : AutV) (s : Int) (v : ByteArray) : Nat := if autE x = 0 ∧ 0 ≤ s ∧ s < x.acc.length ∧ wrdE x.k v = 0 then fol x s.toNat v.data.toList else 0
noncomputable def runE (x : AutV) (s : Int) (v : ByteArray) : Int := if autE x = 0 then (if 0 ≤ s ∧ s < x.acc.length then wrdE x.k v else 11) else 80
theorem wrdE_ok {k : Int} {v : ByteArray} (h : wrdE k v = 0) : letB k v = true := by
  unfold wrdE at h
  split at h
  · cases h
  · split at h
    · assumption
    · cases h
theorem autE_is {x : AutV} (h : autE x = 0) : AutOk x := Classical.byContradiction fun hn => by rw [autE_no hn] at h; cases h
set_option maxRecDepth 100000 in
set_option maxHeartbeats 4000000 in
theorem run_any (x : AutV) (A : Option Addr) (c : Nat) (B : Option Addr) (d : Nat) (s : Int) (v : ByteArray) (hv : v.size ≤ 4611686018427387904) (w : World) (hr : ARd w x A B) :
    Calls Try.prog 70 #[.agg (ac x A c B d), .int .i64 s, .string v] w fun e w' => e = .returned (.tuple #[.int .i64 ((runV x s v : Nat) : Int), .int .i64 (runE x s v)]) ∧ Below w.heap.size w w' := by
  have HR := Aside0.mk hr
  have HV := Lib.hid hv
  have H0 := Lib.hid (hp_new (w := w) (o := AB x A c B d) rfl)
  have HB0 := Lib.hid (bl_alloc (Below.refl w.heap.size w) (AB x A c B d))
  have CK := Aside0.mk (acheck_any x A c B d (w.alloc (AB x A c B d)) (hr.below (bl_alloc (Below.refl _ _) _)))
  clear hr hv
  by_cases h0 : autE x = 0
  · have HX := Lib.hid (autE_is h0)
    rw [h0] at CK
    by_cases h1 : 0 ≤ s ∧ s < x.acc.length
    · obtain ⟨h10, h11⟩ := h1
      have hd1 : decide (s < 0) = false := by simp; omega
      have hd2 : decide ((x.acc.length : Int) ≤ s) = false := by simp; omega
      by_cases h2 : wrdE x.k v = 0
      · have e1 : runV x s v = fol x s.toNat v.data.toList := by unfold runV; rw [if_pos ⟨h0, h10, h11, h2⟩]
        have e2 : runE x s v = 0 := by unfold runE; rw [if_pos h0, if_pos ⟨h10, h11⟩, h2]
        rw [e1, e2]
        obtain ⟨q, rfl⟩ := Int.eq_ofNat_of_zero_le h10
        rw [Int.toNat_natCast]
        have LT := Aside0.mk (letters_any x A c B d v)
        rw [h2] at LT
        have FO := Aside0.mk (fun (W : World) (hR : ARd W x A B) => follow_any x A c B d q v W hR HX.out (by omega) (wrdE_ok h2) HV.out)
        generalize fol x q v.data.toList = f at *
        clear h0 h2 e1 e2
        go_enter Try.func70, Try.ntmps70
        go_wp2_with (refine ld_au _ rfl w.heap.size rfl H0.out rfl ?_)
        refine CK.out.mono ?_
        rintro e w1 ⟨rfl, hb⟩
        have H1 := Lib.hid (hp_below' hb H0.out); have HB1 := Lib.hid (bl_then HB0.out hb)
        have c1 : w1.cell? ⟨w.heap.size, 2, none⟩ = some (.slice B x.acc.length d) := by rw [cell_of_row _ _ _ _ _ _ H1.out]; rfl
        clear hb CK
        go_wp2_with (refine ld_au _ rfl w.heap.size rfl H1.out rfl ?_)
        refine (LT.out _).mono ?_
        rintro e w2 ⟨rfl, hb⟩
        have H2 := Lib.hid (hp_below' hb H1.out); have HB2 := Lib.hid (bl_then HB1.out hb)
        clear hb LT c1
        go_wp2_with (refine ld_au _ rfl w.heap.size rfl H2.out rfl ?_)
        refine (FO.out _ (HR.out.below HB2.out)).mono ?_
        rintro e w3 ⟨rfl, hb⟩
        have HB3 := Lib.hid (bl_then HB2.out hb)
        clear hb FO
        go_wp2
        go_ret2
        exact ⟨rfl, HB3.out⟩
      · have e1 : runV x s v = 0 := by unfold runV; rw [if_neg (fun h => h2 h.2.2.2)]
        have e2 : runE x s v = wrdE x.k v := by unfold runE; rw [if_pos h0, if_pos ⟨h10, h11⟩]
        rw [e1, e2]
        have LT := Aside0.mk (letters_any x A c B d v)
        have hne : (wrdE x.k v != 0) = true := by rw [bne_iff_ne]; exact h2
        generalize wrdE x.k v = we at *
        clear h0 h2 e1 e2
        go_enter Try.func70, Try.ntmps70
        go_wp2_with (refine ld_au _ rfl w.heap.size rfl H0.out rfl ?_)
        refine CK.out.mono ?_
        rintro e w1 ⟨rfl, hb⟩
        have H1 := Lib.hid (hp_below' hb H0.out); have HB1 := Lib.hid (bl_then HB0.out hb)
        have c1 : w1.cell? ⟨w.heap.size, 2, none⟩ = some (.slice B x.acc.length d) := by rw [cell_of_row _ _ _ _ _ _ H1.out]; rfl
        clear hb CK
        go_wp2_with (refine ld_au _ rfl w.heap.size rfl H1.out rfl ?_)
        refine (LT.out _).mono ?_
        rintro e w2 ⟨rfl, hb⟩
        have HB2 := Lib.hid (bl_then HB1.out hb)
        clear hb LT c1
        go_wp2
        go_ret2
        exact ⟨rfl, HB2.out⟩
    · have e1 : runV x s v = 0 := by unfold runV; rw [if_neg (fun h => h1 ⟨h.2.1, h.2.2.1⟩)]
      have e2 : runE x s v = 11 := by unfold runE; rw [if_pos h0, if_neg h1]
      rw [e1, e2]
      clear h0 e1 e2
      have hd : (decide (s < 0) = true) ∨ (decide (s < 0) = false ∧ decide ((x.acc.length : Int) ≤ s) = true) := by
        by_cases h : s < 0
        · exact .inl (by simpa using h)
        · exact .inr ⟨by simpa using h, by simp; omega⟩
      rcases hd with hd | ⟨hd, hd2⟩
      all_goals
        go_enter Try.func70, Try.ntmps70
        go_wp2_with (refine ld_au _ rfl w.heap.size rfl H0.out rfl ?_)
        refine CK.out.mono ?_
        rintro e w1 ⟨rfl, hb⟩
        have H1 := Lib.hid (hp_below' hb H0.out); have HB1 := Lib.hid (bl_then HB0.out hb)
        have c1 : w1.cell? ⟨w.heap.size, 2, none⟩ = some (.slice B x.acc.length d) := by rw [cell_of_row _ _ _ _ _ _ H1.out]; rfl
        clear hb
        go_wp2
        go_ret2
        exact ⟨rfl, HB1.out⟩
  · have h80 : autE x = 80 := autE_no (fun h => h0 (autE_ok h))
    have e1 : runV x s v = 0 := by unfold runV; rw [if_neg (fun h => h0 h.1)]
    have e2 : runE x s v = 80 := by unfold runE; rw [if_neg h0]
    rw [h80] at CK
    rw [e1, e2]
    clear h0 h80 e1 e2
    go_enter Try.func70, Try.ntmps70
    go_wp2_with (refine ld_au _ rfl w.heap.size rfl H0.out rfl ?_)
    refine CK.out.mono ?_
    rintro e w1 ⟨rfl, hb⟩
    have HB1 := Lib.hid (bl_then HB0.out hb)
    clear hb CK
    go_wp2
    go_ret2
    exact ⟨rfl, HB1.out⟩
end Go.Proofs.Ytpebnldoimoahaa

namespace Go.Proofs.Ytpebnldoimoahaa
open Go.ChangeShapes Go.WideShapes Go.ChangeAt Go.RowKit Go.Deep Go.Proofs.YtpebnldoimoahaaW.PrintWords
section
variable {H : Type} {enc : TypeId × Value → H} {W : World}
theorem row_ints {P : Program} {t e : TypeId} {fuel : Nat} {cs : List Value} {y : DataW H × List MemPlace} (ht : P.underlying t = some (.slice e)) (he : P.underlying e = some (.int .i64)) (hc : P.cellsOf e = 1)
    (hf : DataW.trod enc P W 0 (fun _ => true) true fuel t cs = some y) : ∃ A c l, cs = [.slice A (List.length l) c] ∧ Kd.C (Kd.int .i64) W A l.length l ∧ (∀ x ∈ l, -9223372036854775808 ≤ x ∧ x ≤ 9223372036854775807) := by
  rcases open_ints ht he hc hf with ⟨hcs, _⟩ | ⟨x, n, c, zs, hcs, _, hl, hm, hz, _, hcell, hwz⟩
  · exact ⟨none, 0, [], hcs, Kd.C_nil _ _, by simp⟩
  · have hz : zs.length = c := by simpa using hz
    have hlen : (zs.take n).length = n := by rw [List.length_take]; omega
    refine ⟨some x, c, zs.take n, by rw [hlen]; exact hcs, ?_, ?_⟩
    · rw [hlen]
      refine Kd.C_of_reads (enc := Value.int .i64) (d := (0 : Int)) (h1 := fun _ => rfl) ⟨hlen, by unfold maxLen at hm; omega, fun _ => ⟨x, rfl, fun j hj => ?_⟩⟩
      rw [hcell j (by omega)]
      congr 1
      simp [List.getD_eq_getElem?_getD, hj]
    · intro y hy
      exact bounds_i64 (hwz y (List.mem_of_mem_take hy))
theorem row_bools {P : Program} {t e : TypeId} {fuel : Nat} {cs : List Value} {y : DataW H × List MemPlace} (ht : P.underlying t = some (.slice e)) (he : P.underlying e = some .bool) (hc : P.cellsOf e = 1)
    (hf : DataW.trod enc P W 0 (fun _ => true) true fuel t cs = some y) : ∃ A c l, cs = [.slice A (List.length l) c] ∧ Kd.C Kd.bool W A l.length l := by
  rcases open_bools ht he hc hf with ⟨hcs, _⟩ | ⟨x, n, c, z, hcs, _, hl, hm, _, hcell⟩
  · exact ⟨none, 0, [], hcs, Kd.C_nil _ _⟩
  · have hlen : ((List.range n).map z).length = n := by simp
    refine ⟨some x, c, (List.range n).map z, by rw [hlen]; exact hcs, ?_⟩
    rw [hlen]
    refine Kd.C_of_reads (enc := Value.bool) (d := false) (h1 := fun _ => rfl) ⟨hlen, by unfold maxLen at hm; omega, fun _ => ⟨x, rfl, fun j hj => ?_⟩⟩
    rw [hcell j (by omega)]
    congr 1
    simp [List.getD_eq_getElem?_getD, hj]
set_option maxRecDepth 100000 in
theorem open_auto {base : Nat} {v : Value} {d : DataW H} {p : List MemPlace}
    (hval : Value.okWide Try.prog W .any base 77 v) (h : DataW.Trod enc Try.prog W 0 (fun _ => true) true 77 v d p) :
    ∃ x A c B e, v = .agg (ac x A c B e) ∧ ARd W x A B ∧ (-9223372036854775808 ≤ x.k ∧ x.k ≤ 9223372036854775807) ∧ (∀ y ∈ x.next, -9223372036854775808 ≤ y ∧ y ≤ 9223372036854775807) := by
  have hv : ∃ cs : Array Value, v = .agg cs := by
    unfold Value.okWide at hval
    rw [Try.underlying77] at hval
    obtain ⟨cs, hcs, _⟩ := hval
    exact ⟨cs, hcs⟩
  obtain ⟨cs, rfl⟩ := hv
  obtain ⟨fuel, hf⟩ := h
  obtain ⟨xs, m, rfl, hx, hlen, hxl, hfs⟩ := DataW.trod_struct Try.underlying77 hf
  have hlen : cs.toList.length = 3 := by
    have h8 : Try.prog.cellsOf 77 = 3 := by kernel_rfl
    rw [← h8]; exact hlen
  have h0 := hfs 0 _ rfl
  have h1 := hfs 1 _ rfl
  have h2 := hfs 2 _ rfl
  change DataW.trod enc Try.prog W 0 (fun _ => true) true m 3 ((cs.toList.drop 0).take (Try.prog.cellsOf 3)) = _ at h0
  change DataW.trod enc Try.prog W 0 (fun _ => true) true m 22 ((cs.toList.drop 1).take (Try.prog.cellsOf 22)) = _ at h1
  change DataW.trod enc Try.prog W 0 (fun _ => true) true m 75 ((cs.toList.drop 2).take (Try.prog.cellsOf 75)) = _ at h2
  rw [show Try.prog.cellsOf 3 = 1 from by kernel_rfl] at h0
  rw [show Try.prog.cellsOf 22 = 1 from by kernel_rfl] at h1
  rw [show Try.prog.cellsOf 75 = 1 from by kernel_rfl] at h2
  have ex : ∀ i, i < 3 → ∃ y, xs[i]? = some y := fun i hi => ⟨_, List.getElem?_eq_getElem (by rw [hxl]; exact hi)⟩
  obtain ⟨y0, e0⟩ := ex 0 (by decide)
  obtain ⟨y1, e1⟩ := ex 1 (by decide)
  obtain ⟨y2, e2⟩ := ex 2 (by decide)
  obtain ⟨n, hn, _, wn⟩ := DataW.trod_int Try.underlying3 (h0.trans e0)
  obtain ⟨A, c, l, hl, hA, bA⟩ := row_ints Try.underlying22 Try.underlying3 (by kernel_rfl) (h1.trans e1)
  obtain ⟨B, e, b, hb, hB⟩ := row_bools Try.underlying75 Try.underlying4 (by kernel_rfl) (h2.trans e2)
  refine ⟨⟨n, l, b⟩, A, c, B, e, ?_, ⟨hA, hB⟩, bounds_i64 wn, bA⟩
  congr 1
  apply Array.toList_inj.1
  match h : cs.toList, hlen with
  | [u0, u1, u2], _ =>
    rw [h] at hn hl hb
    simp only [List.drop_zero, List.drop_succ_cons, List.take_succ_cons, List.take_zero, List.cons.injEq, and_true] at hn hl hb
    rw [hn, hl, hb]
end
end Go.Proofs.Ytpebnldoimoahaa

namespace Go.Proofs.Ytpebnldoimoahaa
open Go.RowKit Go.Proofs.YtpebnldoimoahaaW.PrintWords
set_option linter.unusedSimpArgs false
set_option linter.unusedVariables false
/-- The words of no transformation. -/
def zo : List Nat := List.replicate 7 0
theorem zo_len : zo.length = 7 := rfl
/-- What a word does. -/
def wL (x : AutV) (v : ByteArray) : List Nat := (List.range x.acc.length).map fun s => fol x s v.data.toList
noncomputable def owE (x : AutV) (v : ByteArray) : Int := if autE x = 0 then (if 64 < x.acc.length then 81 else wrdE x.k v) else 80
noncomputable def owN (x : AutV) (v : ByteArray) : Int := if owE x v = 0 then x.acc.length else 0
noncomputable def owW (x : AutV) (v : ByteArray) : List Nat := if owE x v = 0 then pks (wL x v) x.acc.length else zo
theorem owW_len (x : AutV) (v : ByteArray) : (owW x v).length = 7 := by unfold owW; split; exact pks_len _ _; rfl
theorem wrdE_in {x : AutV} (h : AutOk x) (v : ByteArray) : wrdE x.k v = if letB x.k v then 0 else 21 := by
  unfold wrdE
  rw [if_neg (by have := h.1; have := h.2.1; omega)]
/-- Its images so far. -/
def wim (x : AutV) (v : ByteArray) (k : Nat) : List Nat := (List.range 64).map fun i => if i < k then fol x i v.data.toList else 0
theorem wim_len (x : AutV) (v : ByteArray) (k : Nat) : (wim x v k).length = 64 := by simp [wim]
theorem wim_zero (x : AutV) (v : ByteArray) : wim x v 0 = List.replicate 64 0 := by
  apply List.ext_getElem (by simp [wim])
  intro i h1 h2
  rw [List.getElem_replicate]
  simp [wim]
theorem wim_set (x : AutV) (v : ByteArray) (k : Nat) : (wim x v k).set k (fol x k v.data.toList) = wim x v (k + 1) := by
  apply List.ext_getElem (by simp [wim])
  intro i h1 h2
  simp only [wim, List.getElem_set, List.getElem_map, List.getElem_range]
  by_cases e : k = i
  · subst e; simp
  · rw [if_neg e]
    by_cases h : i < k
    · rw [if_pos h, if_pos (by omega)]
    · rw [if_neg h, if_neg (by omega)]
theorem wim_getD (x : AutV) (v : ByteArray) (k i : Nat) (h : i < 64) : (wim x v k).getD i 0 = if i < k then fol x i v.data.toList else 0 := by simp [wim, h]
theorem wim_lt {x : AutV} {v : ByteArray} (hx : AutOk x) (hv : letB x.k v = true) (hm : x.acc.length ≤ 64) (k : Nat) (hk : k ≤ x.acc.length) (i : Nat) : (wim x v k).getD i 0 < 64 := by
  by_cases hi : i < 64
  · rw [wim_getD _ _ _ _ hi]
    split
    · have h := fol_lt hx (show i < x.acc.length by omega) hv v.size (Nat.le_refl _)
      rw [List.take_of_length_le (by simp)] at h
      omega
    · omega
  · rw [List.getD_eq_getElem?_getD, List.getElem?_eq_none (by rw [wim_len]; omega)]; decide
theorem wim_end {x : AutV} {v : ByteArray} (hm : x.acc.length ≤ 64) : pks (wim x v x.acc.length) x.acc.length = pks (wL x v) x.acc.length := pks_ext _ _ _ fun j hj => by
  rw [wim_getD _ _ _ _ (by omega), if_pos hj]
  simp [wL, hj]
set_option maxRecDepth 100000 in
set_option maxHeartbeats 4000000 in
theorem ofword_any (x : AutV) (A : Option Addr) (c : Nat) (B : Option Addr) (d : Nat) (v : ByteArray) (hv : v.size ≤ 4611686018427387904) (w : World) (hr : ARd w x A B) :
    Calls Try.prog 38 #[.agg (ac x A c B d), .string v] w fun e w' => e = .returned (.tuple #[.agg (tvv (owN x v) (owW x v)), .int .i64 (owE x v)]) ∧ Below w.heap.size w w' := by
  have HR := Aside0.mk hr
  have HV := Lib.hid hv
  have H0 := Lib.hid (hp_old (o := .cells (tvv 0 zo) 26) (hp_new (w := w) (o := AB x A c B d) rfl))
  have HB0 := Lib.hid (bl_alloc (bl_alloc (Below.refl w.heap.size w) (AB x A c B d)) (.cells (tvv 0 zo) 26))
  have CK := Aside0.mk (acheck_any x A c B d ((w.alloc (AB x A c B d)).alloc (.cells (tvv 0 zo) 26)) (hr.below HB0.out))
  have A0 : Hid (((w.alloc (AB x A c B d)).alloc (.cells (tvv 0 zo) 26)).heap[w.heap.size + 1]? = some (.cells (tvv 0 zo) 26 (0, 0))) := Lib.hid (hp_new (by simp))
  have HZ : Hid (tvv 0 zo = #[.int .i64 0, .int .u64 0, .int .u64 0, .int .u64 0, .int .u64 0, .int .u64 0, .int .u64 0, .int .u64 0]) := Lib.hid (tvv_zeros 0)
  rw [HZ.out] at H0 HB0 CK A0
  clear hr hv
  by_cases h0 : autE x = 0
  · have hx := autE_is h0
    have HX := Lib.hid hx
    rw [h0] at CK
    have hm1 : 1 ≤ x.acc.length := hx.2.2.1
    by_cases h64 : 64 < x.acc.length
    · have e3 : owE x v = 81 := by unfold owE; rw [if_pos h0, if_pos h64]
      have e1 : owN x v = 0 := by unfold owN; rw [e3]; rfl
      have e2 : owW x v = zo := by unfold owW; rw [e3]; rfl
      rw [e1, e2, e3]
      clear h0 e1 e2 e3 hx
      go_enter Try.func38, Try.ntmps38
      go_wp2_with (refine ld_au _ rfl w.heap.size rfl H0.out rfl ?_)
      refine CK.out.mono ?_
      rintro e w1 ⟨rfl, hb⟩
      have A1 := Lib.hid (hp_below' hb A0.out); have HB1 := Lib.hid (bl_then HB0.out hb); have G1 := Lib.hid (hp_below' hb H0.out)
      have c1 : w1.cell? ⟨w.heap.size, 2, none⟩ = some (.slice B x.acc.length d) := by rw [cell_of_row _ _ _ _ _ _ G1.out]; rfl
      clear hb CK
      go_wp2_with (refine st_tr (w.heap.size + 1) zo_len A1.out rfl rfl _ _ rfl rfl rfl ?_)
      refine bodyPost_ret (v := .tuple #[.agg (tvv 0 zo), .int .i64 81]) ?_ rfl ⟨rfl, bl_row HB1.out (by omega) _⟩
      refine (results_cell_tmp (p := 4) (t := 5) (by rfl) _ _ (w.heap.size + 1) 26 _ _ _ ?_ (setRow_heap _ _ _ _ _ _ A1.out) Try.underlying26 rfl (tr_z _ _ zo_len)).trans ?_ <;> rfl
    · have hm : x.acc.length ≤ 64 := by omega
      have e3 : owE x v = wrdE x.k v := by unfold owE; rw [if_pos h0, if_neg h64]
      cases hl : letB x.k v
      · have e4 : wrdE x.k v = 21 := by rw [wrdE_in hx, hl]; rfl
        rw [e4] at e3
        have e1 : owN x v = 0 := by unfold owN; rw [e3]; rfl
        have e2 : owW x v = zo := by unfold owW; rw [e3]; rfl
        rw [e1, e2, e3]
        have RU := Aside0.mk (fun (W : World) (hR : ARd W x A B) => run_any x A c B d 0 v HV.out W hR)
        have r1 : runV x 0 v = 0 := by unfold runV; rw [if_neg (fun h => by rw [e4] at h; exact absurd h.2.2.2 (by decide))]
        have r2 : runE x 0 v = 21 := by unfold runE; rw [if_pos h0, if_pos ⟨by omega, by omega⟩, e4]
        rw [r1, r2] at RU
        clear h0 e1 e2 e3 e4 hx hl r1 r2
        go_enter Try.func38, Try.ntmps38
        go_wp2_with (refine ld_au _ rfl w.heap.size rfl H0.out rfl ?_)
        refine CK.out.mono ?_
        rintro e w1 ⟨rfl, hb⟩
        have A1 := Lib.hid (hp_below' hb A0.out); have HB1 := Lib.hid (bl_then HB0.out hb); have G1 := Lib.hid (hp_below' hb H0.out)
        have c1 : w1.cell? ⟨w.heap.size, 2, none⟩ = some (.slice B x.acc.length d) := by rw [cell_of_row _ _ _ _ _ _ G1.out]; rfl
        clear hb CK
        have hlt := hp_lt G1.out
        go_wp2
        go_loopw [25] (fun i wr => i = .int .i64 0 ∧ Hid (Below w1.heap.size w1 wr)) (fun _ _ => 0)
        case atStart => exact ⟨rfl, Lib.hid (bl_alloc (Below.refl _ _) _)⟩
        case round =>
          obtain ⟨rfl, H⟩ := hrel
          have G2 := Lib.hid (hp_below' H.out G1.out)
          clear c1
          go_wp2_with (refine ld_au _ rfl w.heap.size rfl G2.out rfl ?_)
          refine (RU.out _ (HR.out.below (bl_then HB1.out H.out))).mono ?_
          rintro e w2 ⟨rfl, hb⟩
          have A2 := Lib.hid (hp_below' hb (hp_below' H.out A1.out)); have HB2 := Lib.hid (bl_then (bl_then HB1.out H.out) hb)
          clear hb RU
          go_wp2_with (refine st_tr (w.heap.size + 1) zo_len A2.out rfl rfl _ _ rfl rfl rfl ?_)
          refine bodyPost_ret (v := .tuple #[.agg (tvv 0 zo), .int .i64 21]) ?_ rfl ⟨rfl, bl_row HB2.out (by omega) _⟩
          refine (results_cell_tmp (p := 4) (t := 5) (by rfl) _ _ (w.heap.size + 1) 26 _ _ _ ?_ (setRow_heap _ _ _ _ _ _ A2.out) Try.underlying26 rfl (tr_z _ _ zo_len)).trans ?_ <;> rfl
      · have e4 : wrdE x.k v = 0 := by rw [wrdE_in hx, hl]; rfl
        rw [e4] at e3
        have e1 : owN x v = x.acc.length := by unfold owN; rw [e3]; rfl
        have e2 : owW x v = pks (wL x v) x.acc.length := by unfold owW; rw [e3]; rfl
        rw [e1, e2, e3]
        have RU := Aside0.mk (fun (s : Nat) (hs : s < x.acc.length) (W : World) (hR : ARd W x A B) => by
          have h := run_any x A c B d s v HV.out W hR
          rw [show runV x s v = fol x s v.data.toList by unfold runV; rw [if_pos ⟨h0, by omega, by omega, e4⟩, Int.toNat_natCast], show runE x s v = 0 by unfold runE; rw [if_pos h0, if_pos ⟨by omega, by omega⟩, e4]] at h
          exact h)
        have HWL := Lib.hid (fun k hk => wim_lt hx hl hm k hk)
        have HWE := Lib.hid (wim_end (x := x) (v := v) hm)
        have HPL := Lib.hid (pks_len (wL x v) x.acc.length)
        generalize pks (wL x v) x.acc.length = W7 at *
        clear h0 e1 e2 e3 e4 hx hl h64
        go_enter Try.func38, Try.ntmps38
        go_wp2_with (refine ld_au _ rfl w.heap.size rfl H0.out rfl ?_)
        refine CK.out.mono ?_
        rintro e w1 ⟨rfl, hb⟩
        have A1 := Lib.hid (hp_below' hb A0.out); have HB1 := Lib.hid (bl_then HB0.out hb); have G1 := Lib.hid (hp_below' hb H0.out)
        have c1 : w1.cell? ⟨w.heap.size, 2, none⟩ = some (.slice B x.acc.length d) := by rw [cell_of_row _ _ _ _ _ _ G1.out]; rfl
        clear hb CK
        have hlt := hp_lt G1.out
        go_wp2
        clear c1
        have HW1 := hp_lt A1.out
        go_loopw [25] (fun i wr => ∃ k : Nat, k ≤ x.acc.length ∧ i = .int .i64 k ∧ Hid (wr.heap[w1.heap.size]? = some (.cells (img (wim x v k)) 98 (0, 0)) ∧ Below w1.heap.size w1 wr)) (fun i _ => x.acc.length - (intOf i).toNat)
        case atStart =>
          refine ⟨0, by omega, rfl, Lib.hid ⟨?_, bl_alloc (Below.refl _ _) _⟩⟩
          rw [wim_zero, ← zeros_img]; exact hp_new rfl
        case round =>
          obtain ⟨k, hk, rfl, H⟩ := hrel
          have G2 := Lib.hid (hp_below' H.out.2 G1.out)
          by_cases hkm : k < x.acc.length
          · go_wp2_with (refine ld_au _ rfl w.heap.size rfl G2.out rfl ?_)
            refine (RU.out k hkm _ (HR.out.below (bl_then HB1.out H.out.2))).mono ?_
            rintro e w2 ⟨rfl, hb⟩
            have h1 := hp_below' hb H.out.1
            have h2 := bl_then H.out.2 hb
            have HS : Hid ((w2.setCell ⟨w1.heap.size, k, none⟩ (.int .i64 ((fol x k v.data.toList : Nat) : Int))).heap[w1.heap.size]? = some (.cells (img (wim x v (k + 1))) 98 (0, 0)) ∧ Below w1.heap.size w1 (w2.setCell ⟨w1.heap.size, k, none⟩ (.int .i64 ((fol x k v.data.toList : Nat) : Int)))) := by
              refine Lib.hid ⟨?_, bl_cell h2 (by show w1.heap.size ≤ w1.heap.size; omega) _⟩
              rw [heap_setCell_same _ _ _ _ _ _ h1, img_set, wim_set]
            have d1 : w2.cell? ⟨w1.heap.size, k, none⟩ = some (.int .i64 (((wim x v k).getD k 0 : Nat) : Int)) := by rw [cell_of_row _ _ _ _ _ _ h1, img_get _ _ (by rw [wim_len]; omega)]
            have f1 : w2.frozen? ⟨w1.heap.size, k, none⟩ = false := frozen_of_row _ _ _ _ _ h1
            clear hb H h1 h2
            generalize (wim x v k).getD k 0 = z at *
            generalize fol x k v.data.toList = y at *
            go_wp2
            go_roundw
            case rel => exact ⟨k + 1, by omega, by go_num, HS⟩
            case measure => simp [intOf]; omega
          · have e8 : k = x.acc.length := by omega
            have hw := HWL.out k (by omega)
            have PK := Aside0.mk (pack_any k (wim x v k) (by omega) (wim_len _ _ _) hw)
            rw [e8] at PK
            rw [HWE.out] at PK
            have c2 : wr.cell? ⟨w.heap.size, 2, none⟩ = some (.slice B x.acc.length d) := by rw [cell_of_row _ _ _ _ _ _ G2.out]; rfl
            have A2 := Lib.hid (hp_below' H.out.2 A1.out)
            rw [e8] at H
            subst e8
            go_wp2_with (refine ld_im w1.heap.size (wim_len _ _ _) H.out.1 rfl _ rfl rfl ?_)
            refine (PK.out _).mono ?_
            rintro e w3 ⟨rfl, hb⟩
            have A3 := Lib.hid (hp_below' hb A2.out); have HB3 := Lib.hid (bl_then (bl_then HB1.out H.out.2) hb)
            clear hb PK
            go_wp2_with (refine st_tr (w.heap.size + 1) HPL.out A3.out rfl rfl _ _ rfl rfl rfl ?_)
            refine bodyPost_ret (v := .tuple #[.agg (tvv x.acc.length W7), .int .i64 0]) ?_ rfl ⟨rfl, bl_row HB3.out (by omega) _⟩
            refine (results_cell_tmp (p := 4) (t := 5) (by rfl) _ _ (w.heap.size + 1) 26 _ _ _ ?_ (setRow_heap _ _ _ _ _ _ A3.out) Try.underlying26 rfl (tr_z _ _ HPL.out)).trans ?_ <;> rfl
  · have h80 : autE x = 80 := autE_no (fun h => h0 (autE_ok h))
    have e3 : owE x v = 80 := by unfold owE; rw [if_neg h0]
    have e1 : owN x v = 0 := by unfold owN; rw [e3]; rfl
    have e2 : owW x v = zo := by unfold owW; rw [e3]; rfl
    rw [h80] at CK
    rw [e1, e2, e3]
    clear h0 h80 e1 e2 e3
    go_enter Try.func38, Try.ntmps38
    go_wp2_with (refine ld_au _ rfl w.heap.size rfl H0.out rfl ?_)
    refine CK.out.mono ?_
    rintro e w1 ⟨rfl, hb⟩
    have A1 := Lib.hid (hp_below' hb A0.out); have HB1 := Lib.hid (bl_then HB0.out hb)
    clear hb CK
    go_wp2_with (refine st_tr (w.heap.size + 1) zo_len A1.out rfl rfl _ _ rfl rfl rfl ?_)
    refine bodyPost_ret (v := .tuple #[.agg (tvv 0 zo), .int .i64 80]) ?_ rfl ⟨rfl, bl_row HB1.out (by omega) _⟩
    refine (results_cell_tmp (p := 4) (t := 5) (by rfl) _ _ (w.heap.size + 1) 26 _ _ _ ?_ (setRow_heap _ _ _ _ _ _ A1.out) Try.underlying26 rfl (tr_z _ _ zo_len)).trans ?_ <;> rfl
end Go.Proofs.Ytpebnldoimoahaa

