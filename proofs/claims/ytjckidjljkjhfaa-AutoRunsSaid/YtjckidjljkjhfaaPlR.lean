/- The example's word, read by the example's automaton. -/
import Derived.Test.YtjckidjljkjhfaaPl
import Derived.Test.YtjckidjljkjhfaaRun
namespace Go.Proofs.Ytjckidjljkjhfaa
open Go.Proofs.YtjckidjljkjhfaaW.PrintWords
theorem run_plain : runV plainV 0 ⟨#[98, 98, 97]⟩ = 1 ∧ runE plainV 0 ⟨#[98, 98, 97]⟩ = 0 := by
  have hw : wrdE plainV.k ⟨#[98, 98, 97]⟩ = 0 := by decide +kernel
  have h0 := autE_ok plain_ok
  constructor
  · unfold runV
    rw [if_pos ⟨h0, by decide, by decide, hw⟩]
    decide +kernel
  · unfold runE
    rw [if_pos h0, if_pos ⟨by decide, by decide⟩, hw]
end Go.Proofs.Ytjckidjljkjhfaa
