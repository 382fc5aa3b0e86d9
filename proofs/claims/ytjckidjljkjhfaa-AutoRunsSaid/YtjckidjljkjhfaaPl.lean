/- The example's automaton, of b*, and the one of all other words. -/
import Derived.Test.YtjckidjljkjhfaaRch
namespace Go.Proofs.Ytjckidjljkjhfaa
open Go.Proofs.YtjckidjljkjhfaaW.PrintWords
def plainV : AutV := ⟨2, [1, 0, 1, 1], [true, false]⟩
theorem plain_ok : AutOk plainV := by
  refine ⟨by decide, by decide, by decide, by decide, by decide, fun i hi => ?_⟩
  have : i = 0 ∨ i = 1 ∨ i = 2 ∨ i = 3 := by simp [plainV] at hi; omega
  rcases this with rfl | rfl | rfl | rfl <;> decide
theorem not_plain : fromV plainV 0 (fun s => !rdOf false plainV.acc (s : Int)) = ⟨2, [1, 0, 1, 1], [false, true]⟩ := by
  have hc : Closed 2 (stp plainV) 0 2 := by unfold Closed; decide +kernel
  obtain ⟨e1, e2⟩ := sr_of_closed (k := 2) (by decide) (n := 2) (by decide) hc
  have h0 : srE 2 (stp plainV) 0 = 0 := by unfold srE; rw [e2]; rfl
  unfold fromV
  rw [if_pos (autE_ok plain_ok), show plainV.k.toNat = 2 from rfl, srV_ok _ h0, e2, e1]
  have n1 : (nx 2 (stp plainV) 0 (2 * 2)).map (fun (n : Nat) => (n : Int)) = [1, 0, 1, 1] := by decide +kernel
  have n2 : (bs 2 (stp plainV) 0 (2 * 2)).map (fun (s : Nat) => !rdOf false plainV.acc (s : Int)) = [false, true] := by decide +kernel
  rw [n1, n2]
  rfl
end Go.Proofs.Ytjckidjljkjhfaa
