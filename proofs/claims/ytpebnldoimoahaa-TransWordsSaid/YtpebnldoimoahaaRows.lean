/-
  No cell of these rows narrows 'for every input' (looked for: loops, veiled, ifaces, maps, wideKeys, modest, calm, conditions, laid).
  DERIVED. THE GIVEN ROWS OF THIS SEAT. 11 by the template 'for every input the law returns true; each argument reads behind the call as it read before'; 0 by the template 'total and deterministic' (their statements: YtpebnldoimoahaaTotals.lean).
  GIVEN WITH THE SEED: the statements are not yours to turn. If you find one false, say at which input.
  Laid BY PROGRAM, IN A SANDBOX (cutbox-rows.mjs): the forced cells as the released guide's own fill.sh prints them over the translation 202916bd0cf8ed61… (all of the seat's roots in one cut). By AI agents, Wed Nov 11 2026. No macro, syntax, notation, axiom, sorry.
-/
import Derived.Test.YtpebnldoimoahaaChecked
import GoSem.Claim
import GoSem.ClaimJoined
import GoSem.ClaimMapViews
import Derived.JoinedTies
import Derived.KernelRfl
namespace Go.Proofs.Ytpebnldoimoahaa
/- THE CELL 'sum', in the pinned program and in every row, IS THE sha256 OF THE DUMP (.gsa) THAT YtpebnldoimoahaaProg.lean LOADS. Nothing in Lean hashes anything: it is a label: what it is worth is what the hold of that sum in a sandbox is worth. -/
noncomputable def Try.pinned : Pinned := { name := "ytpebnldoimoahaa", sum := "202916bd0cf8ed61e84026076ff9b3445f91ce375d82df63fceca35bf577693e", checked := Try.checked }
namespace Rows
def none {H : Type} : Left H := { results := [], args := [] }

/-- 'eggboxlaw13.TransMakes': WHATEVER THE INPUT: true; the input reads as it did. -/
def transMakesSpec : ChangeSpec := { name := "transMakes", fn := fun _ => fun
  | [d1, d2] => { results := [.lit (.bool true)], args := [d1, d2] }
  | _ => none }
def transMakesRow : OpenClaim := { program := "ytpebnldoimoahaa", sum := "202916bd0cf8ed61e84026076ff9b3445f91ce375d82df63fceca35bf577693e", func := "eggbox/eggboxlaw13.TransMakes", spec := "transMakes", plainKeys := false, apart := false }
def TransMakesSaid : Prop := transMakesRow.holds Try.pinned (OpenSpec.ofChange transMakesSpec)

/-- ITS FALSE NEIGHBOUR: 'it returns false'. Refute it at one input. -/
def transMakesWrong : ChangeSpec := { name := "transMakes", fn := fun _ => fun
  | [d1, d2] => { results := [.lit (.bool false)], args := [d1, d2] }
  | _ => none }
def TransMakesWrongFalsely : Prop := transMakesRow.holds Try.pinned (OpenSpec.ofChange transMakesWrong)

/-- 'eggboxlaw13.TransCycles': WHATEVER THE INPUT: true; the input reads as it did. -/
def transCyclesSpec : ChangeSpec := { name := "transCycles", fn := fun _ => fun
  | [d1, d2, d3] => { results := [.lit (.bool true)], args := [d1, d2, d3] }
  | _ => none }
def transCyclesRow : OpenClaim := { program := "ytpebnldoimoahaa", sum := "202916bd0cf8ed61e84026076ff9b3445f91ce375d82df63fceca35bf577693e", func := "eggbox/eggboxlaw13.TransCycles", spec := "transCycles", plainKeys := false, apart := false }
def TransCyclesSaid : Prop := transCyclesRow.holds Try.pinned (OpenSpec.ofChange transCyclesSpec)

/-- ITS FALSE NEIGHBOUR: 'it returns false'. Refute it at one input. -/
def transCyclesWrong : ChangeSpec := { name := "transCycles", fn := fun _ => fun
  | [d1, d2, d3] => { results := [.lit (.bool false)], args := [d1, d2, d3] }
  | _ => none }
def TransCyclesWrongFalsely : Prop := transCyclesRow.holds Try.pinned (OpenSpec.ofChange transCyclesWrong)

/-- 'eggboxlaw13.TransComposes': WHATEVER THE INPUT: true; the input reads as it did. -/
def transComposesSpec : ChangeSpec := { name := "transComposes", fn := fun _ => fun
  | [d1, d2, d3, d4] => { results := [.lit (.bool true)], args := [d1, d2, d3, d4] }
  | _ => none }
def transComposesRow : OpenClaim := { program := "ytpebnldoimoahaa", sum := "202916bd0cf8ed61e84026076ff9b3445f91ce375d82df63fceca35bf577693e", func := "eggbox/eggboxlaw13.TransComposes", spec := "transComposes", plainKeys := false, apart := false }
def TransComposesSaid : Prop := transComposesRow.holds Try.pinned (OpenSpec.ofChange transComposesSpec)

/-- ITS FALSE NEIGHBOUR: 'it returns false'. Refute it at one input. -/
def transComposesWrong : ChangeSpec := { name := "transComposes", fn := fun _ => fun
  | [d1, d2, d3, d4] => { results := [.lit (.bool false)], args := [d1, d2, d3, d4] }
  | _ => none }
def TransComposesWrongFalsely : Prop := transComposesRow.holds Try.pinned (OpenSpec.ofChange transComposesWrong)

/-- 'eggboxlaw13.TransNil': WHATEVER THE INPUT: true; the input reads as it did. -/
def transNilSpec : ChangeSpec := { name := "transNil", fn := fun _ => fun
  | [d] => { results := [.lit (.bool true)], args := [d] }
  | _ => none }
def transNilRow : OpenClaim := { program := "ytpebnldoimoahaa", sum := "202916bd0cf8ed61e84026076ff9b3445f91ce375d82df63fceca35bf577693e", func := "eggbox/eggboxlaw13.TransNil", spec := "transNil", plainKeys := false, apart := false }
def TransNilSaid : Prop := transNilRow.holds Try.pinned (OpenSpec.ofChange transNilSpec)

/-- ITS FALSE NEIGHBOUR: 'it returns false'. Refute it at one input. -/
def transNilWrong : ChangeSpec := { name := "transNil", fn := fun _ => fun
  | [d] => { results := [.lit (.bool false)], args := [d] }
  | _ => none }
def TransNilWrongFalsely : Prop := transNilRow.holds Try.pinned (OpenSpec.ofChange transNilWrong)

/-- 'eggboxlaw13.TransMonoid': WHATEVER THE INPUT: true; the input reads as it did. -/
def transMonoidSpec : ChangeSpec := { name := "transMonoid", fn := fun _ => fun
  | [d1, d2, d3, d4, d5, d6] => { results := [.lit (.bool true)], args := [d1, d2, d3, d4, d5, d6] }
  | _ => none }
def transMonoidRow : OpenClaim := { program := "ytpebnldoimoahaa", sum := "202916bd0cf8ed61e84026076ff9b3445f91ce375d82df63fceca35bf577693e", func := "eggbox/eggboxlaw13.TransMonoid", spec := "transMonoid", plainKeys := false, apart := false }
def TransMonoidSaid : Prop := transMonoidRow.holds Try.pinned (OpenSpec.ofChange transMonoidSpec)

/-- ITS FALSE NEIGHBOUR: 'it returns false'. Refute it at one input. -/
def transMonoidWrong : ChangeSpec := { name := "transMonoid", fn := fun _ => fun
  | [d1, d2, d3, d4, d5, d6] => { results := [.lit (.bool false)], args := [d1, d2, d3, d4, d5, d6] }
  | _ => none }
def TransMonoidWrongFalsely : Prop := transMonoidRow.holds Try.pinned (OpenSpec.ofChange transMonoidWrong)

/-- 'eggboxlaw13.TransTables': WHATEVER THE INPUT: true; the input reads as it did. -/
def transTablesSpec : ChangeSpec := { name := "transTables", fn := fun _ => fun
  | [d1, d2, d3] => { results := [.lit (.bool true)], args := [d1, d2, d3] }
  | _ => none }
def transTablesRow : OpenClaim := { program := "ytpebnldoimoahaa", sum := "202916bd0cf8ed61e84026076ff9b3445f91ce375d82df63fceca35bf577693e", func := "eggbox/eggboxlaw13.TransTables", spec := "transTables", plainKeys := false, apart := false }
def TransTablesSaid : Prop := transTablesRow.holds Try.pinned (OpenSpec.ofChange transTablesSpec)

/-- ITS FALSE NEIGHBOUR: 'it returns false'. Refute it at one input. -/
def transTablesWrong : ChangeSpec := { name := "transTables", fn := fun _ => fun
  | [d1, d2, d3] => { results := [.lit (.bool false)], args := [d1, d2, d3] }
  | _ => none }
def TransTablesWrongFalsely : Prop := transTablesRow.holds Try.pinned (OpenSpec.ofChange transTablesWrong)

/-- 'eggboxlaw13.TransKernels': WHATEVER THE INPUT: true; the input reads as it did. -/
def transKernelsSpec : ChangeSpec := { name := "transKernels", fn := fun _ => fun
  | [d1, d2, d3] => { results := [.lit (.bool true)], args := [d1, d2, d3] }
  | _ => none }
def transKernelsRow : OpenClaim := { program := "ytpebnldoimoahaa", sum := "202916bd0cf8ed61e84026076ff9b3445f91ce375d82df63fceca35bf577693e", func := "eggbox/eggboxlaw13.TransKernels", spec := "transKernels", plainKeys := false, apart := false }
def TransKernelsSaid : Prop := transKernelsRow.holds Try.pinned (OpenSpec.ofChange transKernelsSpec)

/-- ITS FALSE NEIGHBOUR: 'it returns false'. Refute it at one input. -/
def transKernelsWrong : ChangeSpec := { name := "transKernels", fn := fun _ => fun
  | [d1, d2, d3] => { results := [.lit (.bool false)], args := [d1, d2, d3] }
  | _ => none }
def TransKernelsWrongFalsely : Prop := transKernelsRow.holds Try.pinned (OpenSpec.ofChange transKernelsWrong)

/-- 'eggboxlaw13.TransWords': WHATEVER THE INPUT: true; the input reads as it did. -/
def transWordsSpec : ChangeSpec := { name := "transWords", fn := fun _ => fun
  | [d1, d2] => { results := [.lit (.bool true)], args := [d1, d2] }
  | _ => none }
def transWordsRow : OpenClaim := { program := "ytpebnldoimoahaa", sum := "202916bd0cf8ed61e84026076ff9b3445f91ce375d82df63fceca35bf577693e", func := "eggbox/eggboxlaw13.TransWords", spec := "transWords", plainKeys := false, apart := false }
def TransWordsSaid : Prop := transWordsRow.holds Try.pinned (OpenSpec.ofChange transWordsSpec)

/-- ITS FALSE NEIGHBOUR: 'it returns false'. Refute it at one input. -/
def transWordsWrong : ChangeSpec := { name := "transWords", fn := fun _ => fun
  | [d1, d2] => { results := [.lit (.bool false)], args := [d1, d2] }
  | _ => none }
def TransWordsWrongFalsely : Prop := transWordsRow.holds Try.pinned (OpenSpec.ofChange transWordsWrong)

/-- 'eggboxlaw13.TransWord': WHATEVER THE INPUT: true; the input reads as it did. -/
def transWordSpec : ChangeSpec := { name := "transWord", fn := fun _ => fun
  | [d1, d2, d3] => { results := [.lit (.bool true)], args := [d1, d2, d3] }
  | _ => none }
def transWordRow : OpenClaim := { program := "ytpebnldoimoahaa", sum := "202916bd0cf8ed61e84026076ff9b3445f91ce375d82df63fceca35bf577693e", func := "eggbox/eggboxlaw13.TransWord", spec := "transWord", plainKeys := false, apart := false }
def TransWordSaid : Prop := transWordRow.holds Try.pinned (OpenSpec.ofChange transWordSpec)

/-- ITS FALSE NEIGHBOUR: 'it returns false'. Refute it at one input. -/
def transWordWrong : ChangeSpec := { name := "transWord", fn := fun _ => fun
  | [d1, d2, d3] => { results := [.lit (.bool false)], args := [d1, d2, d3] }
  | _ => none }
def TransWordWrongFalsely : Prop := transWordRow.holds Try.pinned (OpenSpec.ofChange transWordWrong)

/-- 'eggboxlaw13.TransInverses': WHATEVER THE INPUT: true; the input reads as it did. -/
def transInversesSpec : ChangeSpec := { name := "transInverses", fn := fun _ => fun
  | [d1, d2, d3] => { results := [.lit (.bool true)], args := [d1, d2, d3] }
  | _ => none }
def transInversesRow : OpenClaim := { program := "ytpebnldoimoahaa", sum := "202916bd0cf8ed61e84026076ff9b3445f91ce375d82df63fceca35bf577693e", func := "eggbox/eggboxlaw13.TransInverses", spec := "transInverses", plainKeys := false, apart := false }
def TransInversesSaid : Prop := transInversesRow.holds Try.pinned (OpenSpec.ofChange transInversesSpec)

/-- ITS FALSE NEIGHBOUR: 'it returns false'. Refute it at one input. -/
def transInversesWrong : ChangeSpec := { name := "transInverses", fn := fun _ => fun
  | [d1, d2, d3] => { results := [.lit (.bool false)], args := [d1, d2, d3] }
  | _ => none }
def TransInversesWrongFalsely : Prop := transInversesRow.holds Try.pinned (OpenSpec.ofChange transInversesWrong)

/-- 'eggboxlaw13.TransLooks': WHATEVER THE INPUT: true; the input reads as it did. -/
def transLooksSpec : ChangeSpec := { name := "transLooks", fn := fun _ => fun
  | [d1, d2] => { results := [.lit (.bool true)], args := [d1, d2] }
  | _ => none }
def transLooksRow : OpenClaim := { program := "ytpebnldoimoahaa", sum := "202916bd0cf8ed61e84026076ff9b3445f91ce375d82df63fceca35bf577693e", func := "eggbox/eggboxlaw13.TransLooks", spec := "transLooks", plainKeys := false, apart := false }
def TransLooksSaid : Prop := transLooksRow.holds Try.pinned (OpenSpec.ofChange transLooksSpec)

/-- ITS FALSE NEIGHBOUR: 'it returns false'. Refute it at one input. -/
def transLooksWrong : ChangeSpec := { name := "transLooks", fn := fun _ => fun
  | [d1, d2] => { results := [.lit (.bool false)], args := [d1, d2] }
  | _ => none }
def TransLooksWrongFalsely : Prop := transLooksRow.holds Try.pinned (OpenSpec.ofChange transLooksWrong)

/- THE SECOND FORM. 'bulk': how many values and letters a reading holds, each counted each time it is reached (what is shared counts as often as it is met; a slice's spare places count too). A statement '..UptoSaid' is the law's where the arguments, and the package variables that the reading takes, are together of bulk at most 1048576: NARROWER than '..Said'. Prove '..Said' where nothing that the law and all that it calls make is longer than what came in: it says more and counts as full. Else prove '..UptoSaid'. A law counts once. -/
mutual
def uptoBulk {H : Type} : DataW H → Nat
  | .lit (.string bytes) => bytes.length + 1
  | .lit _ => 1
  | .nil => 1
  | .ptr d => uptoBulk d + 1
  | .slice elems spare => uptoBulkAll elems + uptoBulkAll spare + 1
  | .agg parts => uptoBulkAll parts + 1
  | .iface _ d => uptoBulk d + 1
  | .map entries => uptoBulkEntries entries + 1
  | .held _ => 1
def uptoBulkAll {H : Type} : List (DataW H) → Nat
  | [] => 0
  | d :: r => uptoBulk d + uptoBulkAll r
def uptoBulkEntries {H : Type} : List (Lit × DataW H) → Nat
  | [] => 0
  | x :: r => uptoBulkEntry x + uptoBulkEntries r
def uptoBulkEntry {H : Type} : Lit × DataW H → Nat
  | (.string bytes, d) => bytes.length + uptoBulk d + 1
  | (_, d) => uptoBulk d + 1
 end
def uptoSmall : (H : Type) → List (DataW H) → Bool := fun _ ds => decide (uptoBulkAll ds ≤ 1048576)
def OpenSpec.upto (s : _root_.Go.ChangeSpec) : _root_.Go.OpenSpec := { _root_.Go.OpenSpec.ofChange s with cond := some uptoSmall }

/-- 'eggboxlaw13.TransMakes', WHERE WHAT IT READS IS OF BULK AT MOST 1048576: true; the input reads as it did. -/
def transMakesUptoRow : OpenClaim := { program := "ytpebnldoimoahaa", sum := "202916bd0cf8ed61e84026076ff9b3445f91ce375d82df63fceca35bf577693e", func := "eggbox/eggboxlaw13.TransMakes", spec := "transMakes", plainKeys := false, apart := false, narrowed := true }
def TransMakesUptoSaid : Prop := transMakesUptoRow.holds Try.pinned (OpenSpec.upto transMakesSpec)

/-- 'eggboxlaw13.TransCycles', WHERE WHAT IT READS IS OF BULK AT MOST 1048576: true; the input reads as it did. -/
def transCyclesUptoRow : OpenClaim := { program := "ytpebnldoimoahaa", sum := "202916bd0cf8ed61e84026076ff9b3445f91ce375d82df63fceca35bf577693e", func := "eggbox/eggboxlaw13.TransCycles", spec := "transCycles", plainKeys := false, apart := false, narrowed := true }
def TransCyclesUptoSaid : Prop := transCyclesUptoRow.holds Try.pinned (OpenSpec.upto transCyclesSpec)

/-- 'eggboxlaw13.TransComposes', WHERE WHAT IT READS IS OF BULK AT MOST 1048576: true; the input reads as it did. -/
def transComposesUptoRow : OpenClaim := { program := "ytpebnldoimoahaa", sum := "202916bd0cf8ed61e84026076ff9b3445f91ce375d82df63fceca35bf577693e", func := "eggbox/eggboxlaw13.TransComposes", spec := "transComposes", plainKeys := false, apart := false, narrowed := true }
def TransComposesUptoSaid : Prop := transComposesUptoRow.holds Try.pinned (OpenSpec.upto transComposesSpec)

/-- 'eggboxlaw13.TransNil', WHERE WHAT IT READS IS OF BULK AT MOST 1048576: true; the input reads as it did. -/
def transNilUptoRow : OpenClaim := { program := "ytpebnldoimoahaa", sum := "202916bd0cf8ed61e84026076ff9b3445f91ce375d82df63fceca35bf577693e", func := "eggbox/eggboxlaw13.TransNil", spec := "transNil", plainKeys := false, apart := false, narrowed := true }
def TransNilUptoSaid : Prop := transNilUptoRow.holds Try.pinned (OpenSpec.upto transNilSpec)

/-- 'eggboxlaw13.TransMonoid', WHERE WHAT IT READS IS OF BULK AT MOST 1048576: true; the input reads as it did. -/
def transMonoidUptoRow : OpenClaim := { program := "ytpebnldoimoahaa", sum := "202916bd0cf8ed61e84026076ff9b3445f91ce375d82df63fceca35bf577693e", func := "eggbox/eggboxlaw13.TransMonoid", spec := "transMonoid", plainKeys := false, apart := false, narrowed := true }
def TransMonoidUptoSaid : Prop := transMonoidUptoRow.holds Try.pinned (OpenSpec.upto transMonoidSpec)

/-- 'eggboxlaw13.TransTables', WHERE WHAT IT READS IS OF BULK AT MOST 1048576: true; the input reads as it did. -/
def transTablesUptoRow : OpenClaim := { program := "ytpebnldoimoahaa", sum := "202916bd0cf8ed61e84026076ff9b3445f91ce375d82df63fceca35bf577693e", func := "eggbox/eggboxlaw13.TransTables", spec := "transTables", plainKeys := false, apart := false, narrowed := true }
def TransTablesUptoSaid : Prop := transTablesUptoRow.holds Try.pinned (OpenSpec.upto transTablesSpec)

/-- 'eggboxlaw13.TransKernels', WHERE WHAT IT READS IS OF BULK AT MOST 1048576: true; the input reads as it did. -/
def transKernelsUptoRow : OpenClaim := { program := "ytpebnldoimoahaa", sum := "202916bd0cf8ed61e84026076ff9b3445f91ce375d82df63fceca35bf577693e", func := "eggbox/eggboxlaw13.TransKernels", spec := "transKernels", plainKeys := false, apart := false, narrowed := true }
def TransKernelsUptoSaid : Prop := transKernelsUptoRow.holds Try.pinned (OpenSpec.upto transKernelsSpec)

/-- 'eggboxlaw13.TransWords', WHERE WHAT IT READS IS OF BULK AT MOST 1048576: true; the input reads as it did. -/
def transWordsUptoRow : OpenClaim := { program := "ytpebnldoimoahaa", sum := "202916bd0cf8ed61e84026076ff9b3445f91ce375d82df63fceca35bf577693e", func := "eggbox/eggboxlaw13.TransWords", spec := "transWords", plainKeys := false, apart := false, narrowed := true }
def TransWordsUptoSaid : Prop := transWordsUptoRow.holds Try.pinned (OpenSpec.upto transWordsSpec)

/-- 'eggboxlaw13.TransWord', WHERE WHAT IT READS IS OF BULK AT MOST 1048576: true; the input reads as it did. -/
def transWordUptoRow : OpenClaim := { program := "ytpebnldoimoahaa", sum := "202916bd0cf8ed61e84026076ff9b3445f91ce375d82df63fceca35bf577693e", func := "eggbox/eggboxlaw13.TransWord", spec := "transWord", plainKeys := false, apart := false, narrowed := true }
def TransWordUptoSaid : Prop := transWordUptoRow.holds Try.pinned (OpenSpec.upto transWordSpec)

/-- 'eggboxlaw13.TransInverses', WHERE WHAT IT READS IS OF BULK AT MOST 1048576: true; the input reads as it did. -/
def transInversesUptoRow : OpenClaim := { program := "ytpebnldoimoahaa", sum := "202916bd0cf8ed61e84026076ff9b3445f91ce375d82df63fceca35bf577693e", func := "eggbox/eggboxlaw13.TransInverses", spec := "transInverses", plainKeys := false, apart := false, narrowed := true }
def TransInversesUptoSaid : Prop := transInversesUptoRow.holds Try.pinned (OpenSpec.upto transInversesSpec)

/-- 'eggboxlaw13.TransLooks', WHERE WHAT IT READS IS OF BULK AT MOST 1048576: true; the input reads as it did. -/
def transLooksUptoRow : OpenClaim := { program := "ytpebnldoimoahaa", sum := "202916bd0cf8ed61e84026076ff9b3445f91ce375d82df63fceca35bf577693e", func := "eggbox/eggboxlaw13.TransLooks", spec := "transLooks", plainKeys := false, apart := false, narrowed := true }
def TransLooksUptoSaid : Prop := transLooksUptoRow.holds Try.pinned (OpenSpec.upto transLooksSpec)

end Rows
end Go.Proofs.Ytpebnldoimoahaa
