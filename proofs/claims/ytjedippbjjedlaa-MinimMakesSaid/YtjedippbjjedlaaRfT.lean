/- Plain: the reference's Is, as the print tool's function. -/
import Derived.Test.YtjedippbjjedlaaRfO
import Derived.Test.YtjedippbjjedlaaRfQ
import Derived.Test.YtjedippbjjedlaaIsM
namespace Go.Proofs.Ytjedippbjjedlaa
open Go.RowKit Go.Proofs.YtjedippbjjedlaaW.PrintWords Go.Proofs.Ytjedippbjjedlaa.PMinimMakes
set_option linter.unusedVariables false
theorem rsame_l0 {a b : AutV} (hla : a.acc.length = b.acc.length) (hln : a.next.length = b.next.length) (hb : a.acc.length ≤ 1000000) (hb2 : a.next.length ≤ 1000000) (d : Nat) : ∀ (k i : Nat), a.acc.length - i = d → i ≤ a.acc.length → (∀ j : Nat, j < i → rdOf false a.acc j = rdOf false b.acc j) → a.next.length + d + 1 < k →
    eggboxref10_Same.l0 k i a.k a.next a.acc b.k b.next b.acc = some (decide (a.next = b.next ∧ a.acc = b.acc)) := by
  induction d with
  | zero =>
    intro k i hd hi hp hk
    obtain ⟨k, rfl⟩ : ∃ m, k = m + 1 := ⟨k - 1, by omega⟩
    have ha : a.acc = b.acc := blist_eq hla (fun j hj => hp j (by omega))
    simp only [eggboxref10_Same.l0]
    rw [if_neg (by omega)]
    unfold eggboxref10_same.f
    have hs := same_f a.next.length k 0 a.next b.next hln hb2 (by omega) (by omega) (fun j hj => by omega) (by omega)
    rw [show ((0 : Nat) : Int) = 0 from rfl] at hs
    rw [hs]
    simp [ha]
  | succ d ih =>
    intro k i hd hi hp hk
    obtain ⟨k, rfl⟩ : ∃ m, k = m + 1 := ⟨k - 1, by omega⟩
    simp only [eggboxref10_Same.l0]
    rw [if_pos (by omega), if_pos (by omega), if_pos (by omega)]
    by_cases e : rdOf false a.acc (i : Int) = rdOf false b.acc (i : Int)
    · rw [if_neg (by rw [e]; simp), w_in ⟨by omega, by omega⟩]
      have := ih k (i + 1) (by omega) (by omega) (fun j hj => by
        by_cases hji : j = i
        · subst hji; exact e
        · exact hp j (by omega)) (by omega)
      push_cast at this
      exact this
    · rw [if_pos (by rw [bne_iff_ne]; exact e), decide_eq_false (fun h => blist_ne e h.2)]
theorem rsame_f {a b : AutV} (hb : a.acc.length ≤ 1000000) (hb2 : a.next.length ≤ 1000000) {k : Nat} (hk : a.next.length + a.acc.length + 3 < k) :
    eggboxref10_Same.f k a.k a.next a.acc b.k b.next b.acc = some (sameV a b) := by
  obtain ⟨k, rfl⟩ : ∃ m, k = m + 1 := ⟨k - 1, by omega⟩
  unfold eggboxref10_Same.f sameV
  by_cases h1 : a.k = b.k
  · rw [if_pos h1]
    by_cases h2 : a.next.length = b.next.length
    · rw [if_pos (by omega)]
      by_cases h3 : a.acc.length = b.acc.length
      · simp only [eggboxref10_Same.j0]
        rw [if_neg (by rw [bne_iff_ne]; omega)]
        have := rsame_l0 h3 h2 hb hb2 a.acc.length k 0 (by omega) (by omega) (fun j hj => by omega) (by omega)
        rw [show ((0 : Nat) : Int) = 0 from rfl] at this
        rw [this]
        simp [h1]
      · simp only [eggboxref10_Same.j0]
        rw [if_pos (by rw [bne_iff_ne]; omega), decide_eq_false (fun h => h3 (by rw [h.2.2]))]
    · rw [if_neg (by omega)]
      simp only [eggboxref10_Same.j0]
      rw [if_pos trivial, decide_eq_false (fun h => h2 (by rw [h.2.1]))]
  · rw [if_neg h1]
    simp only [eggboxref10_Same.j0]
    rw [if_pos trivial, decide_eq_false (fun h => h1 h.1)]
theorem sameV_symm (a b : AutV) : sameV a b = sameV b a := by
  unfold sameV
  rw [decide_eq_decide]
  exact ⟨fun ⟨h1, h2, h3⟩ => ⟨h1.symm, h2.symm, h3.symm⟩, fun ⟨h1, h2, h3⟩ => ⟨h1.symm, h2.symm, h3.symm⟩⟩
theorem ris_f (x : AutV) (hn : x.acc.length ≤ 140737488351232) {k : Nat} (hk : rK x + x.acc.length + 3 < k) (hk2 : mR x 0 < k) (hk3 : 40960 < k) : eggboxref10_Is.f k x.k x.next x.acc = some (isV x, autE x) := by
  unfold eggboxref10_Is.f
  rw [rmin_f x hn hk hk2]
  simp only [Option.bind_some]
  by_cases h0 : autE x = 0
  · have h := autE_is h0
    have e2 : minV x = mAut x := by unfold minV; rw [if_pos h0]
    have hle := mbs_le h (x.acc.length * mK x)
    have hla : (mAut x).acc.length ≤ 4096 := by
      show ((mL x).map _).length ≤ 4096
      rw [List.length_map]
      have := h.2.2.2.1
      exact Nat.le_trans hle this
    have hln := mAut_next_len h
    have hln2 : (mAut x).next.length ≤ 32768 := by
      have h1 := aut_mul (m := (mAut x).acc.length) h.1 h.2.1 hla
      omega
    rw [if_pos h0, e2, rsame_f (a := mAut x) (b := x) (by omega) (by omega) (by omega)]
    simp only [Option.bind_some]
    rw [sameV_symm]
    unfold isV
    rw [h0]; rfl
  · rw [if_neg h0]
    unfold isV
    rw [decide_eq_false h0]; rfl
end Go.Proofs.Ytjedippbjjedlaa
