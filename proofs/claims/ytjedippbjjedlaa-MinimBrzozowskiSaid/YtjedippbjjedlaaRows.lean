/-
  No cell of these rows narrows 'for every input' (looked for: loops, veiled, ifaces, maps, wideKeys, modest, calm, conditions, laid).
  DERIVED. THE GIVEN ROWS OF THIS SEAT. 12 by the template 'for every input the law returns true; each argument reads behind the call as it read before'; 0 by the template 'total and deterministic' (their statements: YtjedippbjjedlaaTotals.lean).
  GIVEN WITH THE SEED: the statements are not yours to turn. If you find one false, say at which input.
  Laid BY PROGRAM, IN A SANDBOX (cutbox-rows.mjs): the forced cells as the released guide's own fill.sh prints them over the translation 17461672aaf4d46a… (all of the seat's roots in one cut). By AI agents, Wed Nov 11 2026. No macro, syntax, notation, axiom, sorry.
-/
import Derived.Test.YtjedippbjjedlaaChecked
import GoSem.Claim
import GoSem.ClaimJoined
import GoSem.ClaimMapViews
import Derived.JoinedTies
import Derived.KernelRfl
namespace Go.Proofs.Ytjedippbjjedlaa
/- THE CELL 'sum', in the pinned program and in every row, IS THE sha256 OF THE DUMP (.gsa) THAT YtjedippbjjedlaaProg.lean LOADS. Nothing in Lean hashes anything: it is a label: what it is worth is what the hold of that sum in a sandbox is worth. -/
noncomputable def Try.pinned : Pinned := { name := "ytjedippbjjedlaa", sum := "17461672aaf4d46a40243637908d62e9dbfa31eba85f05b9649c93e7d4ba074a", checked := Try.checked }
namespace Rows
def none {H : Type} : Left H := { results := [], args := [] }

/-- 'eggboxlaw12.EqualBounds': WHATEVER THE INPUT: true; the input reads as it did. -/
def equalBoundsSpec : ChangeSpec := { name := "equalBounds", fn := fun _ => fun
  | [d1, d2, d3] => { results := [.lit (.bool true)], args := [d1, d2, d3] }
  | _ => none }
def equalBoundsRow : OpenClaim := { program := "ytjedippbjjedlaa", sum := "17461672aaf4d46a40243637908d62e9dbfa31eba85f05b9649c93e7d4ba074a", func := "eggbox/eggboxlaw12.EqualBounds", spec := "equalBounds", inPlace := ["internal/bytealg.abigen_runtime_cmpstring"], unfollowed := true, recurses := true, plainKeys := false, apart := false }
def EqualBoundsSaid : Prop := equalBoundsRow.holds Try.pinned (OpenSpec.ofChange equalBoundsSpec)

/-- ITS FALSE NEIGHBOUR: 'it returns false'. Refute it at one input. -/
def equalBoundsWrong : ChangeSpec := { name := "equalBounds", fn := fun _ => fun
  | [d1, d2, d3] => { results := [.lit (.bool false)], args := [d1, d2, d3] }
  | _ => none }
def EqualBoundsWrongFalsely : Prop := equalBoundsRow.holds Try.pinned (OpenSpec.ofChange equalBoundsWrong)

/-- 'eggboxlaw10.MinimMakes': WHATEVER THE INPUT: true; the input reads as it did. -/
def minimMakesSpec : ChangeSpec := { name := "minimMakes", fn := fun _ => fun
  | [d] => { results := [.lit (.bool true)], args := [d] }
  | _ => none }
def minimMakesRow : OpenClaim := { program := "ytjedippbjjedlaa", sum := "17461672aaf4d46a40243637908d62e9dbfa31eba85f05b9649c93e7d4ba074a", func := "eggbox/eggboxlaw10.MinimMakes", spec := "minimMakes", plainKeys := false, apart := false }
def MinimMakesSaid : Prop := minimMakesRow.holds Try.pinned (OpenSpec.ofChange minimMakesSpec)

/-- ITS FALSE NEIGHBOUR: 'it returns false'. Refute it at one input. -/
def minimMakesWrong : ChangeSpec := { name := "minimMakes", fn := fun _ => fun
  | [d] => { results := [.lit (.bool false)], args := [d] }
  | _ => none }
def MinimMakesWrongFalsely : Prop := minimMakesRow.holds Try.pinned (OpenSpec.ofChange minimMakesWrong)

/-- 'eggboxlaw12.EqualTogether': WHATEVER THE INPUT: true; the input reads as it did. -/
def equalTogetherSpec : ChangeSpec := { name := "equalTogether", fn := fun _ => fun
  | [d1, d2] => { results := [.lit (.bool true)], args := [d1, d2] }
  | _ => none }
def equalTogetherRow : OpenClaim := { program := "ytjedippbjjedlaa", sum := "17461672aaf4d46a40243637908d62e9dbfa31eba85f05b9649c93e7d4ba074a", func := "eggbox/eggboxlaw12.EqualTogether", spec := "equalTogether", inPlace := ["internal/bytealg.abigen_runtime_cmpstring"], unfollowed := true, recurses := true, plainKeys := false, apart := false }
def EqualTogetherSaid : Prop := equalTogetherRow.holds Try.pinned (OpenSpec.ofChange equalTogetherSpec)

/-- ITS FALSE NEIGHBOUR: 'it returns false'. Refute it at one input. -/
def equalTogetherWrong : ChangeSpec := { name := "equalTogether", fn := fun _ => fun
  | [d1, d2] => { results := [.lit (.bool false)], args := [d1, d2] }
  | _ => none }
def EqualTogetherWrongFalsely : Prop := equalTogetherRow.holds Try.pinned (OpenSpec.ofChange equalTogetherWrong)

/-- 'eggboxlaw10.MinimClasses': WHATEVER THE INPUT: true; the input reads as it did. -/
def minimClassesSpec : ChangeSpec := { name := "minimClasses", fn := fun _ => fun
  | [d1, d2] => { results := [.lit (.bool true)], args := [d1, d2] }
  | _ => none }
def minimClassesRow : OpenClaim := { program := "ytjedippbjjedlaa", sum := "17461672aaf4d46a40243637908d62e9dbfa31eba85f05b9649c93e7d4ba074a", func := "eggbox/eggboxlaw10.MinimClasses", spec := "minimClasses", plainKeys := false, apart := false }
def MinimClassesSaid : Prop := minimClassesRow.holds Try.pinned (OpenSpec.ofChange minimClassesSpec)

/-- ITS FALSE NEIGHBOUR: 'it returns false'. Refute it at one input. -/
def minimClassesWrong : ChangeSpec := { name := "minimClasses", fn := fun _ => fun
  | [d1, d2] => { results := [.lit (.bool false)], args := [d1, d2] }
  | _ => none }
def MinimClassesWrongFalsely : Prop := minimClassesRow.holds Try.pinned (OpenSpec.ofChange minimClassesWrong)

/-- 'eggboxlaw10.MinimMoore': WHATEVER THE INPUT: true; the input reads as it did. -/
def minimMooreSpec : ChangeSpec := { name := "minimMoore", fn := fun _ => fun
  | [d1, d2] => { results := [.lit (.bool true)], args := [d1, d2] }
  | _ => none }
def minimMooreRow : OpenClaim := { program := "ytjedippbjjedlaa", sum := "17461672aaf4d46a40243637908d62e9dbfa31eba85f05b9649c93e7d4ba074a", func := "eggbox/eggboxlaw10.MinimMoore", spec := "minimMoore", plainKeys := false, apart := false }
def MinimMooreSaid : Prop := minimMooreRow.holds Try.pinned (OpenSpec.ofChange minimMooreSpec)

/-- ITS FALSE NEIGHBOUR: 'it returns false'. Refute it at one input. -/
def minimMooreWrong : ChangeSpec := { name := "minimMoore", fn := fun _ => fun
  | [d1, d2] => { results := [.lit (.bool false)], args := [d1, d2] }
  | _ => none }
def MinimMooreWrongFalsely : Prop := minimMooreRow.holds Try.pinned (OpenSpec.ofChange minimMooreWrong)

/-- 'eggboxlaw10.MinimDiffers': WHATEVER THE INPUT: true; the input reads as it did. -/
def minimDiffersSpec : ChangeSpec := { name := "minimDiffers", fn := fun _ => fun
  | [d1, d2, d3] => { results := [.lit (.bool true)], args := [d1, d2, d3] }
  | _ => none }
def minimDiffersRow : OpenClaim := { program := "ytjedippbjjedlaa", sum := "17461672aaf4d46a40243637908d62e9dbfa31eba85f05b9649c93e7d4ba074a", func := "eggbox/eggboxlaw10.MinimDiffers", spec := "minimDiffers", plainKeys := false, apart := false }
def MinimDiffersSaid : Prop := minimDiffersRow.holds Try.pinned (OpenSpec.ofChange minimDiffersSpec)

/-- ITS FALSE NEIGHBOUR: 'it returns false'. Refute it at one input. -/
def minimDiffersWrong : ChangeSpec := { name := "minimDiffers", fn := fun _ => fun
  | [d1, d2, d3] => { results := [.lit (.bool false)], args := [d1, d2, d3] }
  | _ => none }
def MinimDiffersWrongFalsely : Prop := minimDiffersRow.holds Try.pinned (OpenSpec.ofChange minimDiffersWrong)

/-- 'eggboxlaw10.MinimNerode': WHATEVER THE INPUT: true; the input reads as it did. -/
def minimNerodeSpec : ChangeSpec := { name := "minimNerode", fn := fun _ => fun
  | [d1, d2, d3, d4] => { results := [.lit (.bool true)], args := [d1, d2, d3, d4] }
  | _ => none }
def minimNerodeRow : OpenClaim := { program := "ytjedippbjjedlaa", sum := "17461672aaf4d46a40243637908d62e9dbfa31eba85f05b9649c93e7d4ba074a", func := "eggbox/eggboxlaw10.MinimNerode", spec := "minimNerode", plainKeys := false, apart := false }
def MinimNerodeSaid : Prop := minimNerodeRow.holds Try.pinned (OpenSpec.ofChange minimNerodeSpec)

/-- ITS FALSE NEIGHBOUR: 'it returns false'. Refute it at one input. -/
def minimNerodeWrong : ChangeSpec := { name := "minimNerode", fn := fun _ => fun
  | [d1, d2, d3, d4] => { results := [.lit (.bool false)], args := [d1, d2, d3, d4] }
  | _ => none }
def MinimNerodeWrongFalsely : Prop := minimNerodeRow.holds Try.pinned (OpenSpec.ofChange minimNerodeWrong)

/-- 'eggboxlaw10.MinimApart': WHATEVER THE INPUT: true; the input reads as it did. -/
def minimApartSpec : ChangeSpec := { name := "minimApart", fn := fun _ => fun
  | [d1, d2, d3, d4] => { results := [.lit (.bool true)], args := [d1, d2, d3, d4] }
  | _ => none }
def minimApartRow : OpenClaim := { program := "ytjedippbjjedlaa", sum := "17461672aaf4d46a40243637908d62e9dbfa31eba85f05b9649c93e7d4ba074a", func := "eggbox/eggboxlaw10.MinimApart", spec := "minimApart", inPlace := ["internal/bytealg.abigen_runtime_cmpstring"], plainKeys := false, apart := false }
def MinimApartSaid : Prop := minimApartRow.holds Try.pinned (OpenSpec.ofChange minimApartSpec)

/-- ITS FALSE NEIGHBOUR: 'it returns false'. Refute it at one input. -/
def minimApartWrong : ChangeSpec := { name := "minimApart", fn := fun _ => fun
  | [d1, d2, d3, d4] => { results := [.lit (.bool false)], args := [d1, d2, d3, d4] }
  | _ => none }
def MinimApartWrongFalsely : Prop := minimApartRow.holds Try.pinned (OpenSpec.ofChange minimApartWrong)

/-- 'eggboxlaw12.EqualLaws': WHATEVER THE INPUT: true; the input reads as it did. -/
def equalLawsSpec : ChangeSpec := { name := "equalLaws", fn := fun _ => fun
  | [d1, d2, d3] => { results := [.lit (.bool true)], args := [d1, d2, d3] }
  | _ => none }
def equalLawsRow : OpenClaim := { program := "ytjedippbjjedlaa", sum := "17461672aaf4d46a40243637908d62e9dbfa31eba85f05b9649c93e7d4ba074a", func := "eggbox/eggboxlaw12.EqualLaws", spec := "equalLaws", unfollowed := true, recurses := true, plainKeys := false, apart := false }
def EqualLawsSaid : Prop := equalLawsRow.holds Try.pinned (OpenSpec.ofChange equalLawsSpec)

/-- ITS FALSE NEIGHBOUR: 'it returns false'. Refute it at one input. -/
def equalLawsWrong : ChangeSpec := { name := "equalLaws", fn := fun _ => fun
  | [d1, d2, d3] => { results := [.lit (.bool false)], args := [d1, d2, d3] }
  | _ => none }
def EqualLawsWrongFalsely : Prop := equalLawsRow.holds Try.pinned (OpenSpec.ofChange equalLawsWrong)

/-- 'eggboxlaw10.MinimBrzozowski': WHATEVER THE INPUT: true; the input reads as it did. -/
def minimBrzozowskiSpec : ChangeSpec := { name := "minimBrzozowski", fn := fun _ => fun
  | [d] => { results := [.lit (.bool true)], args := [d] }
  | _ => none }
def minimBrzozowskiRow : OpenClaim := { program := "ytjedippbjjedlaa", sum := "17461672aaf4d46a40243637908d62e9dbfa31eba85f05b9649c93e7d4ba074a", func := "eggbox/eggboxlaw10.MinimBrzozowski", spec := "minimBrzozowski", unfollowed := true, recurses := true, plainKeys := false, apart := false }
def MinimBrzozowskiSaid : Prop := minimBrzozowskiRow.holds Try.pinned (OpenSpec.ofChange minimBrzozowskiSpec)

/-- ITS FALSE NEIGHBOUR: 'it returns false'. Refute it at one input. -/
def minimBrzozowskiWrong : ChangeSpec := { name := "minimBrzozowski", fn := fun _ => fun
  | [d] => { results := [.lit (.bool false)], args := [d] }
  | _ => none }
def MinimBrzozowskiWrongFalsely : Prop := minimBrzozowskiRow.holds Try.pinned (OpenSpec.ofChange minimBrzozowskiWrong)

/-- 'eggboxlaw10.MinimOnce': WHATEVER THE INPUT: true; the input reads as it did. -/
def minimOnceSpec : ChangeSpec := { name := "minimOnce", fn := fun _ => fun
  | [d] => { results := [.lit (.bool true)], args := [d] }
  | _ => none }
def minimOnceRow : OpenClaim := { program := "ytjedippbjjedlaa", sum := "17461672aaf4d46a40243637908d62e9dbfa31eba85f05b9649c93e7d4ba074a", func := "eggbox/eggboxlaw10.MinimOnce", spec := "minimOnce", unfollowed := true, recurses := true, plainKeys := false, apart := false }
def MinimOnceSaid : Prop := minimOnceRow.holds Try.pinned (OpenSpec.ofChange minimOnceSpec)

/-- ITS FALSE NEIGHBOUR: 'it returns false'. Refute it at one input. -/
def minimOnceWrong : ChangeSpec := { name := "minimOnce", fn := fun _ => fun
  | [d] => { results := [.lit (.bool false)], args := [d] }
  | _ => none }
def MinimOnceWrongFalsely : Prop := minimOnceRow.holds Try.pinned (OpenSpec.ofChange minimOnceWrong)

/-- 'eggboxlaw12.EqualMinimal': WHATEVER THE INPUT: true; the input reads as it did. -/
def equalMinimalSpec : ChangeSpec := { name := "equalMinimal", fn := fun _ => fun
  | [d1, d2] => { results := [.lit (.bool true)], args := [d1, d2] }
  | _ => none }
def equalMinimalRow : OpenClaim := { program := "ytjedippbjjedlaa", sum := "17461672aaf4d46a40243637908d62e9dbfa31eba85f05b9649c93e7d4ba074a", func := "eggbox/eggboxlaw12.EqualMinimal", spec := "equalMinimal", unfollowed := true, recurses := true, plainKeys := false, apart := false }
def EqualMinimalSaid : Prop := equalMinimalRow.holds Try.pinned (OpenSpec.ofChange equalMinimalSpec)

/-- ITS FALSE NEIGHBOUR: 'it returns false'. Refute it at one input. -/
def equalMinimalWrong : ChangeSpec := { name := "equalMinimal", fn := fun _ => fun
  | [d1, d2] => { results := [.lit (.bool false)], args := [d1, d2] }
  | _ => none }
def EqualMinimalWrongFalsely : Prop := equalMinimalRow.holds Try.pinned (OpenSpec.ofChange equalMinimalWrong)

/- THE SECOND FORM. 'bulk': how many values and letters a reading holds, each counted each time it is reached (what is shared counts as often as it is met; a slice's spare places count too). A statement '..UptoSaid' is the law's where the arguments, and the package variables that the reading takes, are together of bulk at most 1048576: NARROWER than '..Said'. Prove '..Said' where nothing that the law and all that it calls make is longer than what came in: it says more and counts as full. Else prove '..UptoSaid'. A law counts once. -/
mutual
def uptoBulk {H : Type} : DataW H → Nat
  | .lit (.string bytes) => bytes.length + 1
  | .lit _ => 1
  | .nil => 1
  | .ptr d => uptoBulk d + 1
  | .slice elems spare => uptoBulkAll elems + uptoBulkAll spare + 1
  | .agg parts => uptoBulkAll parts + 1
  | .iface _ d => uptoBulk d + 1
  | .map entries => uptoBulkEntries entries + 1
  | .held _ => 1
def uptoBulkAll {H : Type} : List (DataW H) → Nat
  | [] => 0
  | d :: r => uptoBulk d + uptoBulkAll r
def uptoBulkEntries {H : Type} : List (Lit × DataW H) → Nat
  | [] => 0
  | x :: r => uptoBulkEntry x + uptoBulkEntries r
def uptoBulkEntry {H : Type} : Lit × DataW H → Nat
  | (.string bytes, d) => bytes.length + uptoBulk d + 1
  | (_, d) => uptoBulk d + 1
 end
def uptoSmall : (H : Type) → List (DataW H) → Bool := fun _ ds => decide (uptoBulkAll ds ≤ 1048576)
def OpenSpec.upto (s : _root_.Go.ChangeSpec) : _root_.Go.OpenSpec := { _root_.Go.OpenSpec.ofChange s with cond := some uptoSmall }

/-- 'eggboxlaw12.EqualBounds', WHERE WHAT IT READS IS OF BULK AT MOST 1048576: true; the input reads as it did. -/
def equalBoundsUptoRow : OpenClaim := { program := "ytjedippbjjedlaa", sum := "17461672aaf4d46a40243637908d62e9dbfa31eba85f05b9649c93e7d4ba074a", func := "eggbox/eggboxlaw12.EqualBounds", spec := "equalBounds", inPlace := ["internal/bytealg.abigen_runtime_cmpstring"], unfollowed := true, recurses := true, plainKeys := false, apart := false, narrowed := true }
def EqualBoundsUptoSaid : Prop := equalBoundsUptoRow.holds Try.pinned (OpenSpec.upto equalBoundsSpec)

/-- 'eggboxlaw10.MinimMakes', WHERE WHAT IT READS IS OF BULK AT MOST 1048576: true; the input reads as it did. -/
def minimMakesUptoRow : OpenClaim := { program := "ytjedippbjjedlaa", sum := "17461672aaf4d46a40243637908d62e9dbfa31eba85f05b9649c93e7d4ba074a", func := "eggbox/eggboxlaw10.MinimMakes", spec := "minimMakes", plainKeys := false, apart := false, narrowed := true }
def MinimMakesUptoSaid : Prop := minimMakesUptoRow.holds Try.pinned (OpenSpec.upto minimMakesSpec)

/-- 'eggboxlaw12.EqualTogether', WHERE WHAT IT READS IS OF BULK AT MOST 1048576: true; the input reads as it did. -/
def equalTogetherUptoRow : OpenClaim := { program := "ytjedippbjjedlaa", sum := "17461672aaf4d46a40243637908d62e9dbfa31eba85f05b9649c93e7d4ba074a", func := "eggbox/eggboxlaw12.EqualTogether", spec := "equalTogether", inPlace := ["internal/bytealg.abigen_runtime_cmpstring"], unfollowed := true, recurses := true, plainKeys := false, apart := false, narrowed := true }
def EqualTogetherUptoSaid : Prop := equalTogetherUptoRow.holds Try.pinned (OpenSpec.upto equalTogetherSpec)

/-- 'eggboxlaw10.MinimClasses', WHERE WHAT IT READS IS OF BULK AT MOST 1048576: true; the input reads as it did. -/
def minimClassesUptoRow : OpenClaim := { program := "ytjedippbjjedlaa", sum := "17461672aaf4d46a40243637908d62e9dbfa31eba85f05b9649c93e7d4ba074a", func := "eggbox/eggboxlaw10.MinimClasses", spec := "minimClasses", plainKeys := false, apart := false, narrowed := true }
def MinimClassesUptoSaid : Prop := minimClassesUptoRow.holds Try.pinned (OpenSpec.upto minimClassesSpec)

/-- 'eggboxlaw10.MinimMoore', WHERE WHAT IT READS IS OF BULK AT MOST 1048576: true; the input reads as it did. -/
def minimMooreUptoRow : OpenClaim := { program := "ytjedippbjjedlaa", sum := "17461672aaf4d46a40243637908d62e9dbfa31eba85f05b9649c93e7d4ba074a", func := "eggbox/eggboxlaw10.MinimMoore", spec := "minimMoore", plainKeys := false, apart := false, narrowed := true }
def MinimMooreUptoSaid : Prop := minimMooreUptoRow.holds Try.pinned (OpenSpec.upto minimMooreSpec)

/-- 'eggboxlaw10.MinimDiffers', WHERE WHAT IT READS IS OF BULK AT MOST 1048576: true; the input reads as it did. -/
def minimDiffersUptoRow : OpenClaim := { program := "ytjedippbjjedlaa", sum := "17461672aaf4d46a40243637908d62e9dbfa31eba85f05b9649c93e7d4ba074a", func := "eggbox/eggboxlaw10.MinimDiffers", spec := "minimDiffers", plainKeys := false, apart := false, narrowed := true }
def MinimDiffersUptoSaid : Prop := minimDiffersUptoRow.holds Try.pinned (OpenSpec.upto minimDiffersSpec)

/-- 'eggboxlaw10.MinimNerode', WHERE WHAT IT READS IS OF BULK AT MOST 1048576: true; the input reads as it did. -/
def minimNerodeUptoRow : OpenClaim := { program := "ytjedippbjjedlaa", sum := "17461672aaf4d46a40243637908d62e9dbfa31eba85f05b9649c93e7d4ba074a", func := "eggbox/eggboxlaw10.MinimNerode", spec := "minimNerode", plainKeys := false, apart := false, narrowed := true }
def MinimNerodeUptoSaid : Prop := minimNerodeUptoRow.holds Try.pinned (OpenSpec.upto minimNerodeSpec)

/-- 'eggboxlaw10.MinimApart', WHERE WHAT IT READS IS OF BULK AT MOST 1048576: true; the input reads as it did. -/
def minimApartUptoRow : OpenClaim := { program := "ytjedippbjjedlaa", sum := "17461672aaf4d46a40243637908d62e9dbfa31eba85f05b9649c93e7d4ba074a", func := "eggbox/eggboxlaw10.MinimApart", spec := "minimApart", inPlace := ["internal/bytealg.abigen_runtime_cmpstring"], plainKeys := false, apart := false, narrowed := true }
def MinimApartUptoSaid : Prop := minimApartUptoRow.holds Try.pinned (OpenSpec.upto minimApartSpec)

/-- 'eggboxlaw12.EqualLaws', WHERE WHAT IT READS IS OF BULK AT MOST 1048576: true; the input reads as it did. -/
def equalLawsUptoRow : OpenClaim := { program := "ytjedippbjjedlaa", sum := "17461672aaf4d46a40243637908d62e9dbfa31eba85f05b9649c93e7d4ba074a", func := "eggbox/eggboxlaw12.EqualLaws", spec := "equalLaws", unfollowed := true, recurses := true, plainKeys := false, apart := false, narrowed := true }
def EqualLawsUptoSaid : Prop := equalLawsUptoRow.holds Try.pinned (OpenSpec.upto equalLawsSpec)

/-- 'eggboxlaw10.MinimBrzozowski', WHERE WHAT IT READS IS OF BULK AT MOST 1048576: true; the input reads as it did. -/
def minimBrzozowskiUptoRow : OpenClaim := { program := "ytjedippbjjedlaa", sum := "17461672aaf4d46a40243637908d62e9dbfa31eba85f05b9649c93e7d4ba074a", func := "eggbox/eggboxlaw10.MinimBrzozowski", spec := "minimBrzozowski", unfollowed := true, recurses := true, plainKeys := false, apart := false, narrowed := true }
def MinimBrzozowskiUptoSaid : Prop := minimBrzozowskiUptoRow.holds Try.pinned (OpenSpec.upto minimBrzozowskiSpec)

/-- 'eggboxlaw10.MinimOnce', WHERE WHAT IT READS IS OF BULK AT MOST 1048576: true; the input reads as it did. -/
def minimOnceUptoRow : OpenClaim := { program := "ytjedippbjjedlaa", sum := "17461672aaf4d46a40243637908d62e9dbfa31eba85f05b9649c93e7d4ba074a", func := "eggbox/eggboxlaw10.MinimOnce", spec := "minimOnce", unfollowed := true, recurses := true, plainKeys := false, apart := false, narrowed := true }
def MinimOnceUptoSaid : Prop := minimOnceUptoRow.holds Try.pinned (OpenSpec.upto minimOnceSpec)

/-- 'eggboxlaw12.EqualMinimal', WHERE WHAT IT READS IS OF BULK AT MOST 1048576: true; the input reads as it did. -/
def equalMinimalUptoRow : OpenClaim := { program := "ytjedippbjjedlaa", sum := "17461672aaf4d46a40243637908d62e9dbfa31eba85f05b9649c93e7d4ba074a", func := "eggbox/eggboxlaw12.EqualMinimal", spec := "equalMinimal", unfollowed := true, recurses := true, plainKeys := false, apart := false, narrowed := true }
def EqualMinimalUptoSaid : Prop := equalMinimalUptoRow.holds Try.pinned (OpenSpec.upto equalMinimalSpec)

end Rows
end Go.Proofs.Ytjedippbjjedlaa
