/- The first accepted place of a search, found while the search goes on. -/
import Derived.Test.YtjckidjljkjhfaaA1
namespace Go.Proofs.Ytjckidjljkjhfaa
section
variable {σ : Type} [DecidableEq σ] {k : Nat} {step : σ → Nat → σ} {first : σ}
/-- Found at place i, with none found ahead of it: the answer, wherever the search closes. -/
theorem fnd_at (hk : 0 < k) {good : σ → Bool} {n i m : Nat} (h : Closed k step first n) {w : List Nat} (hi : (bw k step first m)[i]? = some w) (hg : good (rn step first w) = true)
    (hb : ∀ j, j < i → ∀ u, (bw k step first m)[j]? = some u → good (rn step first u) = false) : fnd k step first good n = some w := by
  have hall : ∀ j u, (bw k step first m)[j]? = some u → (bw k step first (n * k))[j]? = some u := fun j u hj => by
    by_cases hm : m ≤ n * k
    · exact bw_keep hm hj
    · rw [bw_stay hk (Nat.le_of_eq h) (by omega)] at hj
      exact hj
  have hwi := hall i w hi
  obtain ⟨hlt, he⟩ := List.getElem?_eq_some_iff.1 hwi
  have him := (List.getElem?_eq_some_iff.1 hi).1
  refine List.find?_eq_some_iff_getElem.2 ⟨hg, i, hlt, he, fun j hj => ?_⟩
  have hjm : j < (bw k step first m).length := by omega
  have hj1 := List.getElem?_eq_getElem hjm
  have hj2 := hall j _ hj1
  have hj3 := (List.getElem?_eq_some_iff.1 hj2).2
  rw [hj3, hb j hj _ hj1]
  rfl
/-- None found at the search's end: none. -/
theorem fnd_end {good : σ → Bool} {n : Nat} (h : Closed k step first n) (hb : ∀ j, j < n → ∀ u, (bw k step first (n * k))[j]? = some u → good (rn step first u) = false) : fnd k step first good n = none := by
  refine List.find?_eq_none.2 fun u hu => ?_
  obtain ⟨j, hj⟩ := List.mem_iff_getElem?.1 hu
  have hjl := (List.getElem?_eq_some_iff.1 hj).1
  rw [h] at hjl
  rw [hb j hjl u hj]
  simp
end
/-- A word as bytes. -/
def wb (l : List Nat) : ByteArray := ⟨(l.map fun c => UInt8.ofNat (97 + c)).toArray⟩
theorem wb_snoc (l : List Nat) (c : Nat) : wb (l ++ [c]) = wb l ++ ⟨#[UInt8.ofNat (97 + c)]⟩ := by
  apply ByteArray.ext
  simp [wb]
theorem wb_size (l : List Nat) : (wb l).size = l.length := by simp [wb, ByteArray.size]
end Go.Proofs.Ytjckidjljkjhfaa
