/-
  No cell of these rows narrows 'for every input' (looked for: loops, veiled, ifaces, maps, wideKeys, modest, calm, conditions, laid).
  DERIVED. THE GIVEN ROWS OF THIS SEAT. 9 by the template 'for every input the law returns true; each argument reads behind the call as it read before'; 0 by the template 'total and deterministic' (their statements: YtjckidjljkjhfaaTotals.lean).
  GIVEN WITH THE SEED: the statements are not yours to turn. If you find one false, say at which input.
  Laid BY PROGRAM, IN A SANDBOX (cutbox-rows.mjs): the forced cells as the released guide's own fill.sh prints them over the translation 9d362179fe58c1a4… (all of the seat's roots in one cut). By AI agents, Wed Nov 11 2026. No macro, syntax, notation, axiom, sorry.
-/
import Derived.Test.YtjckidjljkjhfaaChecked
import GoSem.Claim
import GoSem.ClaimJoined
import GoSem.ClaimMapViews
import Derived.JoinedTies
import Derived.KernelRfl
namespace Go.Proofs.Ytjckidjljkjhfaa
/- THE CELL 'sum', in the pinned program and in every row, IS THE sha256 OF THE DUMP (.gsa) THAT YtjckidjljkjhfaaProg.lean LOADS. Nothing in Lean hashes anything: it is a label: what it is worth is what the hold of that sum in a sandbox is worth. -/
noncomputable def Try.pinned : Pinned := { name := "ytjckidjljkjhfaa", sum := "9d362179fe58c1a46c3dcde7338495c253bf53755a2234f17495e0f58f557d3d", checked := Try.checked }
namespace Rows
def none {H : Type} : Left H := { results := [], args := [] }

/-- 'eggboxlaw08.AutoRuns': WHATEVER THE INPUT: true; the input reads as it did. -/
def autoRunsSpec : ChangeSpec := { name := "autoRuns", fn := fun _ => fun
  | [d1, d2, d3] => { results := [.lit (.bool true)], args := [d1, d2, d3] }
  | _ => none }
def autoRunsRow : OpenClaim := { program := "ytjckidjljkjhfaa", sum := "9d362179fe58c1a46c3dcde7338495c253bf53755a2234f17495e0f58f557d3d", func := "eggbox/eggboxlaw08.AutoRuns", spec := "autoRuns", unfollowed := true, recurses := true, plainKeys := false, apart := false }
def AutoRunsSaid : Prop := autoRunsRow.holds Try.pinned (OpenSpec.ofChange autoRunsSpec)

/-- ITS FALSE NEIGHBOUR: 'it returns false'. Refute it at one input. -/
def autoRunsWrong : ChangeSpec := { name := "autoRuns", fn := fun _ => fun
  | [d1, d2, d3] => { results := [.lit (.bool false)], args := [d1, d2, d3] }
  | _ => none }
def AutoRunsWrongFalsely : Prop := autoRunsRow.holds Try.pinned (OpenSpec.ofChange autoRunsWrong)

/-- 'eggboxlaw08.AutoMakes': WHATEVER THE INPUT: true; the input reads as it did. -/
def autoMakesSpec : ChangeSpec := { name := "autoMakes", fn := fun _ => fun
  | [d] => { results := [.lit (.bool true)], args := [d] }
  | _ => none }
def autoMakesRow : OpenClaim := { program := "ytjckidjljkjhfaa", sum := "9d362179fe58c1a46c3dcde7338495c253bf53755a2234f17495e0f58f557d3d", func := "eggbox/eggboxlaw08.AutoMakes", spec := "autoMakes", unfollowed := true, recurses := true, plainKeys := false, apart := false }
def AutoMakesSaid : Prop := autoMakesRow.holds Try.pinned (OpenSpec.ofChange autoMakesSpec)

/-- ITS FALSE NEIGHBOUR: 'it returns false'. Refute it at one input. -/
def autoMakesWrong : ChangeSpec := { name := "autoMakes", fn := fun _ => fun
  | [d] => { results := [.lit (.bool false)], args := [d] }
  | _ => none }
def AutoMakesWrongFalsely : Prop := autoMakesRow.holds Try.pinned (OpenSpec.ofChange autoMakesWrong)

/-- 'eggboxlaw08.AutoWords': WHATEVER THE INPUT: true; the input reads as it did. -/
def autoWordsSpec : ChangeSpec := { name := "autoWords", fn := fun _ => fun
  | [d1, d2] => { results := [.lit (.bool true)], args := [d1, d2] }
  | _ => none }
def autoWordsRow : OpenClaim := { program := "ytjckidjljkjhfaa", sum := "9d362179fe58c1a46c3dcde7338495c253bf53755a2234f17495e0f58f557d3d", func := "eggbox/eggboxlaw08.AutoWords", spec := "autoWords", unfollowed := true, recurses := true, plainKeys := false, apart := false }
def AutoWordsSaid : Prop := autoWordsRow.holds Try.pinned (OpenSpec.ofChange autoWordsSpec)

/-- ITS FALSE NEIGHBOUR: 'it returns false'. Refute it at one input. -/
def autoWordsWrong : ChangeSpec := { name := "autoWords", fn := fun _ => fun
  | [d1, d2] => { results := [.lit (.bool false)], args := [d1, d2] }
  | _ => none }
def AutoWordsWrongFalsely : Prop := autoWordsRow.holds Try.pinned (OpenSpec.ofChange autoWordsWrong)

/-- 'eggboxlaw08.AutoQuotients': WHATEVER THE INPUT: true; the input reads as it did. -/
def autoQuotientsSpec : ChangeSpec := { name := "autoQuotients", fn := fun _ => fun
  | [d1, d2, d3] => { results := [.lit (.bool true)], args := [d1, d2, d3] }
  | _ => none }
def autoQuotientsRow : OpenClaim := { program := "ytjckidjljkjhfaa", sum := "9d362179fe58c1a46c3dcde7338495c253bf53755a2234f17495e0f58f557d3d", func := "eggbox/eggboxlaw08.AutoQuotients", spec := "autoQuotients", unfollowed := true, recurses := true, plainKeys := false, apart := false }
def AutoQuotientsSaid : Prop := autoQuotientsRow.holds Try.pinned (OpenSpec.ofChange autoQuotientsSpec)

/-- ITS FALSE NEIGHBOUR: 'it returns false'. Refute it at one input. -/
def autoQuotientsWrong : ChangeSpec := { name := "autoQuotients", fn := fun _ => fun
  | [d1, d2, d3] => { results := [.lit (.bool false)], args := [d1, d2, d3] }
  | _ => none }
def AutoQuotientsWrongFalsely : Prop := autoQuotientsRow.holds Try.pinned (OpenSpec.ofChange autoQuotientsWrong)

/-- 'eggboxlaw08.AutoProducts': WHATEVER THE INPUT: true; the input reads as it did. -/
def autoProductsSpec : ChangeSpec := { name := "autoProducts", fn := fun _ => fun
  | [d1, d2] => { results := [.lit (.bool true)], args := [d1, d2] }
  | _ => none }
def autoProductsRow : OpenClaim := { program := "ytjckidjljkjhfaa", sum := "9d362179fe58c1a46c3dcde7338495c253bf53755a2234f17495e0f58f557d3d", func := "eggbox/eggboxlaw08.AutoProducts", spec := "autoProducts", unfollowed := true, recurses := true, plainKeys := false, apart := false }
def AutoProductsSaid : Prop := autoProductsRow.holds Try.pinned (OpenSpec.ofChange autoProductsSpec)

/-- ITS FALSE NEIGHBOUR: 'it returns false'. Refute it at one input. -/
def autoProductsWrong : ChangeSpec := { name := "autoProducts", fn := fun _ => fun
  | [d1, d2] => { results := [.lit (.bool false)], args := [d1, d2] }
  | _ => none }
def AutoProductsWrongFalsely : Prop := autoProductsRow.holds Try.pinned (OpenSpec.ofChange autoProductsWrong)

/-- 'eggboxlaw08.AutoOrder': WHATEVER THE INPUT: true; the input reads as it did. -/
def autoOrderSpec : ChangeSpec := { name := "autoOrder", fn := fun _ => fun
  | [d1, d2] => { results := [.lit (.bool true)], args := [d1, d2] }
  | _ => none }
def autoOrderRow : OpenClaim := { program := "ytjckidjljkjhfaa", sum := "9d362179fe58c1a46c3dcde7338495c253bf53755a2234f17495e0f58f557d3d", func := "eggbox/eggboxlaw08.AutoOrder", spec := "autoOrder", unfollowed := true, recurses := true, plainKeys := false, apart := false }
def AutoOrderSaid : Prop := autoOrderRow.holds Try.pinned (OpenSpec.ofChange autoOrderSpec)

/-- ITS FALSE NEIGHBOUR: 'it returns false'. Refute it at one input. -/
def autoOrderWrong : ChangeSpec := { name := "autoOrder", fn := fun _ => fun
  | [d1, d2] => { results := [.lit (.bool false)], args := [d1, d2] }
  | _ => none }
def AutoOrderWrongFalsely : Prop := autoOrderRow.holds Try.pinned (OpenSpec.ofChange autoOrderWrong)

/-- 'eggboxlaw08.AutoConcats': WHATEVER THE INPUT: true; the input reads as it did. -/
def autoConcatsSpec : ChangeSpec := { name := "autoConcats", fn := fun _ => fun
  | [d1, d2] => { results := [.lit (.bool true)], args := [d1, d2] }
  | _ => none }
def autoConcatsRow : OpenClaim := { program := "ytjckidjljkjhfaa", sum := "9d362179fe58c1a46c3dcde7338495c253bf53755a2234f17495e0f58f557d3d", func := "eggbox/eggboxlaw08.AutoConcats", spec := "autoConcats", unfollowed := true, recurses := true, plainKeys := false, apart := false }
def AutoConcatsSaid : Prop := autoConcatsRow.holds Try.pinned (OpenSpec.ofChange autoConcatsSpec)

/-- ITS FALSE NEIGHBOUR: 'it returns false'. Refute it at one input. -/
def autoConcatsWrong : ChangeSpec := { name := "autoConcats", fn := fun _ => fun
  | [d1, d2] => { results := [.lit (.bool false)], args := [d1, d2] }
  | _ => none }
def AutoConcatsWrongFalsely : Prop := autoConcatsRow.holds Try.pinned (OpenSpec.ofChange autoConcatsWrong)

/-- 'eggboxlaw08.AutoSets': WHATEVER THE INPUT: true; the input reads as it did. -/
def autoSetsSpec : ChangeSpec := { name := "autoSets", fn := fun _ => fun
  | [d] => { results := [.lit (.bool true)], args := [d] }
  | _ => none }
def autoSetsRow : OpenClaim := { program := "ytjckidjljkjhfaa", sum := "9d362179fe58c1a46c3dcde7338495c253bf53755a2234f17495e0f58f557d3d", func := "eggbox/eggboxlaw08.AutoSets", spec := "autoSets", unfollowed := true, recurses := true, plainKeys := false, apart := false }
def AutoSetsSaid : Prop := autoSetsRow.holds Try.pinned (OpenSpec.ofChange autoSetsSpec)

/-- ITS FALSE NEIGHBOUR: 'it returns false'. Refute it at one input. -/
def autoSetsWrong : ChangeSpec := { name := "autoSets", fn := fun _ => fun
  | [d] => { results := [.lit (.bool false)], args := [d] }
  | _ => none }
def AutoSetsWrongFalsely : Prop := autoSetsRow.holds Try.pinned (OpenSpec.ofChange autoSetsWrong)

/-- 'eggboxlaw08.AutoLanguages': WHATEVER THE INPUT: true; the input reads as it did. -/
def autoLanguagesSpec : ChangeSpec := { name := "autoLanguages", fn := fun _ => fun
  | [d1, d2, d3] => { results := [.lit (.bool true)], args := [d1, d2, d3] }
  | _ => none }
def autoLanguagesRow : OpenClaim := { program := "ytjckidjljkjhfaa", sum := "9d362179fe58c1a46c3dcde7338495c253bf53755a2234f17495e0f58f557d3d", func := "eggbox/eggboxlaw08.AutoLanguages", spec := "autoLanguages", unfollowed := true, recurses := true, plainKeys := false, apart := false }
def AutoLanguagesSaid : Prop := autoLanguagesRow.holds Try.pinned (OpenSpec.ofChange autoLanguagesSpec)

/-- ITS FALSE NEIGHBOUR: 'it returns false'. Refute it at one input. -/
def autoLanguagesWrong : ChangeSpec := { name := "autoLanguages", fn := fun _ => fun
  | [d1, d2, d3] => { results := [.lit (.bool false)], args := [d1, d2, d3] }
  | _ => none }
def AutoLanguagesWrongFalsely : Prop := autoLanguagesRow.holds Try.pinned (OpenSpec.ofChange autoLanguagesWrong)

/- THE SECOND FORM. 'bulk': how many values and letters a reading holds, each counted each time it is reached (what is shared counts as often as it is met; a slice's spare places count too). A statement '..UptoSaid' is the law's where the arguments, and the package variables that the reading takes, are together of bulk at most 1048576: NARROWER than '..Said'. Prove '..Said' where nothing that the law and all that it calls make is longer than what came in: it says more and counts as full. Else prove '..UptoSaid'. A law counts once. -/
mutual
def uptoBulk {H : Type} : DataW H → Nat
  | .lit (.string bytes) => bytes.length + 1
  | .lit _ => 1
  | .nil => 1
  | .ptr d => uptoBulk d + 1
  | .slice elems spare => uptoBulkAll elems + uptoBulkAll spare + 1
  | .agg parts => uptoBulkAll parts + 1
  | .iface _ d => uptoBulk d + 1
  | .map entries => uptoBulkEntries entries + 1
  | .held _ => 1
def uptoBulkAll {H : Type} : List (DataW H) → Nat
  | [] => 0
  | d :: r => uptoBulk d + uptoBulkAll r
def uptoBulkEntries {H : Type} : List (Lit × DataW H) → Nat
  | [] => 0
  | x :: r => uptoBulkEntry x + uptoBulkEntries r
def uptoBulkEntry {H : Type} : Lit × DataW H → Nat
  | (.string bytes, d) => bytes.length + uptoBulk d + 1
  | (_, d) => uptoBulk d + 1
 end
def uptoSmall : (H : Type) → List (DataW H) → Bool := fun _ ds => decide (uptoBulkAll ds ≤ 1048576)
def OpenSpec.upto (s : _root_.Go.ChangeSpec) : _root_.Go.OpenSpec := { _root_.Go.OpenSpec.ofChange s with cond := some uptoSmall }

/-- 'eggboxlaw08.AutoRuns', WHERE WHAT IT READS IS OF BULK AT MOST 1048576: true; the input reads as it did. -/
def autoRunsUptoRow : OpenClaim := { program := "ytjckidjljkjhfaa", sum := "9d362179fe58c1a46c3dcde7338495c253bf53755a2234f17495e0f58f557d3d", func := "eggbox/eggboxlaw08.AutoRuns", spec := "autoRuns", unfollowed := true, recurses := true, plainKeys := false, apart := false, narrowed := true }
def AutoRunsUptoSaid : Prop := autoRunsUptoRow.holds Try.pinned (OpenSpec.upto autoRunsSpec)

/-- 'eggboxlaw08.AutoMakes', WHERE WHAT IT READS IS OF BULK AT MOST 1048576: true; the input reads as it did. -/
def autoMakesUptoRow : OpenClaim := { program := "ytjckidjljkjhfaa", sum := "9d362179fe58c1a46c3dcde7338495c253bf53755a2234f17495e0f58f557d3d", func := "eggbox/eggboxlaw08.AutoMakes", spec := "autoMakes", unfollowed := true, recurses := true, plainKeys := false, apart := false, narrowed := true }
def AutoMakesUptoSaid : Prop := autoMakesUptoRow.holds Try.pinned (OpenSpec.upto autoMakesSpec)

/-- 'eggboxlaw08.AutoWords', WHERE WHAT IT READS IS OF BULK AT MOST 1048576: true; the input reads as it did. -/
def autoWordsUptoRow : OpenClaim := { program := "ytjckidjljkjhfaa", sum := "9d362179fe58c1a46c3dcde7338495c253bf53755a2234f17495e0f58f557d3d", func := "eggbox/eggboxlaw08.AutoWords", spec := "autoWords", unfollowed := true, recurses := true, plainKeys := false, apart := false, narrowed := true }
def AutoWordsUptoSaid : Prop := autoWordsUptoRow.holds Try.pinned (OpenSpec.upto autoWordsSpec)

/-- 'eggboxlaw08.AutoQuotients', WHERE WHAT IT READS IS OF BULK AT MOST 1048576: true; the input reads as it did. -/
def autoQuotientsUptoRow : OpenClaim := { program := "ytjckidjljkjhfaa", sum := "9d362179fe58c1a46c3dcde7338495c253bf53755a2234f17495e0f58f557d3d", func := "eggbox/eggboxlaw08.AutoQuotients", spec := "autoQuotients", unfollowed := true, recurses := true, plainKeys := false, apart := false, narrowed := true }
def AutoQuotientsUptoSaid : Prop := autoQuotientsUptoRow.holds Try.pinned (OpenSpec.upto autoQuotientsSpec)

/-- 'eggboxlaw08.AutoProducts', WHERE WHAT IT READS IS OF BULK AT MOST 1048576: true; the input reads as it did. -/
def autoProductsUptoRow : OpenClaim := { program := "ytjckidjljkjhfaa", sum := "9d362179fe58c1a46c3dcde7338495c253bf53755a2234f17495e0f58f557d3d", func := "eggbox/eggboxlaw08.AutoProducts", spec := "autoProducts", unfollowed := true, recurses := true, plainKeys := false, apart := false, narrowed := true }
def AutoProductsUptoSaid : Prop := autoProductsUptoRow.holds Try.pinned (OpenSpec.upto autoProductsSpec)

/-- 'eggboxlaw08.AutoOrder', WHERE WHAT IT READS IS OF BULK AT MOST 1048576: true; the input reads as it did. -/
def autoOrderUptoRow : OpenClaim := { program := "ytjckidjljkjhfaa", sum := "9d362179fe58c1a46c3dcde7338495c253bf53755a2234f17495e0f58f557d3d", func := "eggbox/eggboxlaw08.AutoOrder", spec := "autoOrder", unfollowed := true, recurses := true, plainKeys := false, apart := false, narrowed := true }
def AutoOrderUptoSaid : Prop := autoOrderUptoRow.holds Try.pinned (OpenSpec.upto autoOrderSpec)

/-- 'eggboxlaw08.AutoConcats', WHERE WHAT IT READS IS OF BULK AT MOST 1048576: true; the input reads as it did. -/
def autoConcatsUptoRow : OpenClaim := { program := "ytjckidjljkjhfaa", sum := "9d362179fe58c1a46c3dcde7338495c253bf53755a2234f17495e0f58f557d3d", func := "eggbox/eggboxlaw08.AutoConcats", spec := "autoConcats", unfollowed := true, recurses := true, plainKeys := false, apart := false, narrowed := true }
def AutoConcatsUptoSaid : Prop := autoConcatsUptoRow.holds Try.pinned (OpenSpec.upto autoConcatsSpec)

/-- 'eggboxlaw08.AutoSets', WHERE WHAT IT READS IS OF BULK AT MOST 1048576: true; the input reads as it did. -/
def autoSetsUptoRow : OpenClaim := { program := "ytjckidjljkjhfaa", sum := "9d362179fe58c1a46c3dcde7338495c253bf53755a2234f17495e0f58f557d3d", func := "eggbox/eggboxlaw08.AutoSets", spec := "autoSets", unfollowed := true, recurses := true, plainKeys := false, apart := false, narrowed := true }
def AutoSetsUptoSaid : Prop := autoSetsUptoRow.holds Try.pinned (OpenSpec.upto autoSetsSpec)

/-- 'eggboxlaw08.AutoLanguages', WHERE WHAT IT READS IS OF BULK AT MOST 1048576: true; the input reads as it did. -/
def autoLanguagesUptoRow : OpenClaim := { program := "ytjckidjljkjhfaa", sum := "9d362179fe58c1a46c3dcde7338495c253bf53755a2234f17495e0f58f557d3d", func := "eggbox/eggboxlaw08.AutoLanguages", spec := "autoLanguages", unfollowed := true, recurses := true, plainKeys := false, apart := false, narrowed := true }
def AutoLanguagesUptoSaid : Prop := autoLanguagesUptoRow.holds Try.pinned (OpenSpec.upto autoLanguagesSpec)

end Rows
end Go.Proofs.Ytjckidjljkjhfaa
