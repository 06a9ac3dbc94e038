/-
  No cell of these rows narrows 'for every input' (looked for: loops, veiled, ifaces, maps, wideKeys, modest, calm, conditions, laid).
  DERIVED. THE GIVEN ROWS OF THIS SEAT. 8 by the template 'for every input the law returns true; each argument reads behind the call as it read before'; 0 by the template 'total and deterministic' (their statements: YthejefgpanceoaaTotals.lean).
  GIVEN WITH THE SEED: the statements are not yours to turn. If you find one false, say at which input.
  Laid BY PROGRAM, IN A SANDBOX (cutbox-rows.mjs): the forced cells as the released guide's own fill.sh prints them over the translation b8dca74e70daecfb… (all of the seat's roots in one cut). By AI agents, Wed Nov 11 2026. No macro, syntax, notation, axiom, sorry.
-/
import Derived.Test.YthejefgpanceoaaChecked
import GoSem.Claim
import GoSem.ClaimJoined
import GoSem.ClaimMapViews
import Derived.JoinedTies
import Derived.KernelRfl
namespace Go.Proofs.Ythejefgpanceoaa
/- THE CELL 'sum', in the pinned program and in every row, IS THE sha256 OF THE DUMP (.gsa) THAT YthejefgpanceoaaProg.lean LOADS. Nothing in Lean hashes anything: it is a label: what it is worth is what the hold of that sum in a sandbox is worth. -/
noncomputable def Try.pinned : Pinned := { name := "ythejefgpanceoaa", sum := "b8dca74e70daecfb9210b5584f173956e2241c69bfec74b3438196de9108f5ba", checked := Try.checked }
namespace Rows
def none {H : Type} : Left H := { results := [], args := [] }

/-- 'gristmilllaw15.FoldAll': WHATEVER THE INPUT: true; the input reads as it did. -/
def foldAllSpec : ChangeSpec := { name := "foldAll", fn := fun _ => fun
  | [d1, d2] => { results := [.lit (.bool true)], args := [d1, d2] }
  | _ => none }
def foldAllRow : OpenClaim := { program := "ythejefgpanceoaa", sum := "b8dca74e70daecfb9210b5584f173956e2241c69bfec74b3438196de9108f5ba", func := "gristmill/gristmilllaw15.FoldAll", spec := "foldAll", inPlace := ["internal/bytealg.abigen_runtime_cmpstring"], apart := false }
def FoldAllSaid : Prop := foldAllRow.holds Try.pinned (OpenSpec.ofChange foldAllSpec)

/-- ITS FALSE NEIGHBOUR: 'it returns false'. Refute it at one input. -/
def foldAllWrong : ChangeSpec := { name := "foldAll", fn := fun _ => fun
  | [d1, d2] => { results := [.lit (.bool false)], args := [d1, d2] }
  | _ => none }
def FoldAllWrongFalsely : Prop := foldAllRow.holds Try.pinned (OpenSpec.ofChange foldAllWrong)

/-- 'gristmilllaw15.FoldJoins': WHATEVER THE INPUT: true; the input reads as it did. -/
def foldJoinsSpec : ChangeSpec := { name := "foldJoins", fn := fun _ => fun
  | [d1, d2, d3, d4] => { results := [.lit (.bool true)], args := [d1, d2, d3, d4] }
  | _ => none }
def foldJoinsRow : OpenClaim := { program := "ythejefgpanceoaa", sum := "b8dca74e70daecfb9210b5584f173956e2241c69bfec74b3438196de9108f5ba", func := "gristmill/gristmilllaw15.FoldJoins", spec := "foldJoins", inPlace := ["internal/bytealg.abigen_runtime_cmpstring"], apart := false }
def FoldJoinsSaid : Prop := foldJoinsRow.holds Try.pinned (OpenSpec.ofChange foldJoinsSpec)

/-- ITS FALSE NEIGHBOUR: 'it returns false'. Refute it at one input. -/
def foldJoinsWrong : ChangeSpec := { name := "foldJoins", fn := fun _ => fun
  | [d1, d2, d3, d4] => { results := [.lit (.bool false)], args := [d1, d2, d3, d4] }
  | _ => none }
def FoldJoinsWrongFalsely : Prop := foldJoinsRow.holds Try.pinned (OpenSpec.ofChange foldJoinsWrong)

/-- 'gristmilllaw15.FoldGroups': WHATEVER THE INPUT: true; the input reads as it did. -/
def foldGroupsSpec : ChangeSpec := { name := "foldGroups", fn := fun _ => fun
  | [d1, d2, d3, d4] => { results := [.lit (.bool true)], args := [d1, d2, d3, d4] }
  | _ => none }
def foldGroupsRow : OpenClaim := { program := "ythejefgpanceoaa", sum := "b8dca74e70daecfb9210b5584f173956e2241c69bfec74b3438196de9108f5ba", func := "gristmill/gristmilllaw15.FoldGroups", spec := "foldGroups", inPlace := ["internal/bytealg.abigen_runtime_cmpstring"], apart := false }
def FoldGroupsSaid : Prop := foldGroupsRow.holds Try.pinned (OpenSpec.ofChange foldGroupsSpec)

/-- ITS FALSE NEIGHBOUR: 'it returns false'. Refute it at one input. -/
def foldGroupsWrong : ChangeSpec := { name := "foldGroups", fn := fun _ => fun
  | [d1, d2, d3, d4] => { results := [.lit (.bool false)], args := [d1, d2, d3, d4] }
  | _ => none }
def FoldGroupsWrongFalsely : Prop := foldGroupsRow.holds Try.pinned (OpenSpec.ofChange foldGroupsWrong)

/-- 'gristmilllaw16.RunsPuts': WHATEVER THE INPUT: true; the input reads as it did. -/
def runsPutsSpec : ChangeSpec := { name := "runsPuts", fn := fun _ => fun
  | [d] => { results := [.lit (.bool true)], args := [d] }
  | _ => none }
def runsPutsRow : OpenClaim := { program := "ythejefgpanceoaa", sum := "b8dca74e70daecfb9210b5584f173956e2241c69bfec74b3438196de9108f5ba", func := "gristmill/gristmilllaw16.RunsPuts", spec := "runsPuts", unfollowed := true, recurses := true, apart := false }
def RunsPutsSaid : Prop := runsPutsRow.holds Try.pinned (OpenSpec.ofChange runsPutsSpec)

/-- ITS FALSE NEIGHBOUR: 'it returns false'. Refute it at one input. -/
def runsPutsWrong : ChangeSpec := { name := "runsPuts", fn := fun _ => fun
  | [d] => { results := [.lit (.bool false)], args := [d] }
  | _ => none }
def RunsPutsWrongFalsely : Prop := runsPutsRow.holds Try.pinned (OpenSpec.ofChange runsPutsWrong)

/-- 'gristmilllaw16.RunsEven': WHATEVER THE INPUT: true; the input reads as it did. -/
def runsEvenSpec : ChangeSpec := { name := "runsEven", fn := fun _ => fun
  | [d1, d2, d3] => { results := [.lit (.bool true)], args := [d1, d2, d3] }
  | _ => none }
def runsEvenRow : OpenClaim := { program := "ythejefgpanceoaa", sum := "b8dca74e70daecfb9210b5584f173956e2241c69bfec74b3438196de9108f5ba", func := "gristmill/gristmilllaw16.RunsEven", spec := "runsEven", unfollowed := true, recurses := true, apart := false }
def RunsEvenSaid : Prop := runsEvenRow.holds Try.pinned (OpenSpec.ofChange runsEvenSpec)

/-- ITS FALSE NEIGHBOUR: 'it returns false'. Refute it at one input. -/
def runsEvenWrong : ChangeSpec := { name := "runsEven", fn := fun _ => fun
  | [d1, d2, d3] => { results := [.lit (.bool false)], args := [d1, d2, d3] }
  | _ => none }
def RunsEvenWrongFalsely : Prop := runsEvenRow.holds Try.pinned (OpenSpec.ofChange runsEvenWrong)

/-- 'gristmilllaw16.RunsGets': WHATEVER THE INPUT: true; the input reads as it did. -/
def runsGetsSpec : ChangeSpec := { name := "runsGets", fn := fun _ => fun
  | [d1, d2] => { results := [.lit (.bool true)], args := [d1, d2] }
  | _ => none }
def runsGetsRow : OpenClaim := { program := "ythejefgpanceoaa", sum := "b8dca74e70daecfb9210b5584f173956e2241c69bfec74b3438196de9108f5ba", func := "gristmill/gristmilllaw16.RunsGets", spec := "runsGets", unfollowed := true, recurses := true, apart := false }
def RunsGetsSaid : Prop := runsGetsRow.holds Try.pinned (OpenSpec.ofChange runsGetsSpec)

/-- ITS FALSE NEIGHBOUR: 'it returns false'. Refute it at one input. -/
def runsGetsWrong : ChangeSpec := { name := "runsGets", fn := fun _ => fun
  | [d1, d2] => { results := [.lit (.bool false)], args := [d1, d2] }
  | _ => none }
def RunsGetsWrongFalsely : Prop := runsGetsRow.holds Try.pinned (OpenSpec.ofChange runsGetsWrong)

/-- 'gristmilllaw15.FoldBytes': WHATEVER THE INPUT: true; the input reads as it did. -/
def foldBytesSpec : ChangeSpec := { name := "foldBytes", fn := fun _ => fun
  | [d1, d2, d3] => { results := [.lit (.bool true)], args := [d1, d2, d3] }
  | _ => none }
def foldBytesRow : OpenClaim := { program := "ythejefgpanceoaa", sum := "b8dca74e70daecfb9210b5584f173956e2241c69bfec74b3438196de9108f5ba", func := "gristmill/gristmilllaw15.FoldBytes", spec := "foldBytes", inPlace := ["internal/bytealg.abigen_runtime_cmpstring"], apart := false }
def FoldBytesSaid : Prop := foldBytesRow.holds Try.pinned (OpenSpec.ofChange foldBytesSpec)

/-- ITS FALSE NEIGHBOUR: 'it returns false'. Refute it at one input. -/
def foldBytesWrong : ChangeSpec := { name := "foldBytes", fn := fun _ => fun
  | [d1, d2, d3] => { results := [.lit (.bool false)], args := [d1, d2, d3] }
  | _ => none }
def FoldBytesWrongFalsely : Prop := foldBytesRow.holds Try.pinned (OpenSpec.ofChange foldBytesWrong)

/-- 'gristmilllaw16.RunsUnions': WHATEVER THE INPUT: true; the input reads as it did. -/
def runsUnionsSpec : ChangeSpec := { name := "runsUnions", fn := fun _ => fun
  | [d1, d2] => { results := [.lit (.bool true)], args := [d1, d2] }
  | _ => none }
def runsUnionsRow : OpenClaim := { program := "ythejefgpanceoaa", sum := "b8dca74e70daecfb9210b5584f173956e2241c69bfec74b3438196de9108f5ba", func := "gristmill/gristmilllaw16.RunsUnions", spec := "runsUnions", unfollowed := true, recurses := true, apart := false }
def RunsUnionsSaid : Prop := runsUnionsRow.holds Try.pinned (OpenSpec.ofChange runsUnionsSpec)

/-- ITS FALSE NEIGHBOUR: 'it returns false'. Refute it at one input. -/
def runsUnionsWrong : ChangeSpec := { name := "runsUnions", fn := fun _ => fun
  | [d1, d2] => { results := [.lit (.bool false)], args := [d1, d2] }
  | _ => none }
def RunsUnionsWrongFalsely : Prop := runsUnionsRow.holds Try.pinned (OpenSpec.ofChange runsUnionsWrong)

/- THE SECOND FORM. 'bulk': how many values and letters a reading holds, each counted each time it is reached (what is shared counts as often as it is met; a slice's spare places count too). A statement '..UptoSaid' is the law's where the arguments, and the package variables that the reading takes, are together of bulk at most 1048576: NARROWER than '..Said'. Prove '..Said' where nothing that the law and all that it calls make is longer than what came in: it says more and counts as full. Else prove '..UptoSaid'. A law counts once. -/
mutual
def uptoBulk {H : Type} : DataW H → Nat
  | .lit (.string bytes) => bytes.length + 1
  | .lit _ => 1
  | .nil => 1
  | .ptr d => uptoBulk d + 1
  | .slice elems spare => uptoBulkAll elems + uptoBulkAll spare + 1
  | .agg parts => uptoBulkAll parts + 1
  | .iface _ d => uptoBulk d + 1
  | .map entries => uptoBulkEntries entries + 1
  | .held _ => 1
def uptoBulkAll {H : Type} : List (DataW H) → Nat
  | [] => 0
  | d :: r => uptoBulk d + uptoBulkAll r
def uptoBulkEntries {H : Type} : List (Lit × DataW H) → Nat
  | [] => 0
  | x :: r => uptoBulkEntry x + uptoBulkEntries r
def uptoBulkEntry {H : Type} : Lit × DataW H → Nat
  | (.string bytes, d) => bytes.length + uptoBulk d + 1
  | (_, d) => uptoBulk d + 1
 end
def uptoSmall : (H : Type) → List (DataW H) → Bool := fun _ ds => decide (uptoBulkAll ds ≤ 1048576)
def OpenSpec.upto (s : _root_.Go.ChangeSpec) : _root_.Go.OpenSpec := { _root_.Go.OpenSpec.ofChange s with cond := some uptoSmall }

/-- 'gristmilllaw15.FoldAll', WHERE WHAT IT READS IS OF BULK AT MOST 1048576: true; the input reads as it did. -/
def foldAllUptoRow : OpenClaim := { program := "ythejefgpanceoaa", sum := "b8dca74e70daecfb9210b5584f173956e2241c69bfec74b3438196de9108f5ba", func := "gristmill/gristmilllaw15.FoldAll", spec := "foldAll", inPlace := ["internal/bytealg.abigen_runtime_cmpstring"], apart := false, narrowed := true }
def FoldAllUptoSaid : Prop := foldAllUptoRow.holds Try.pinned (OpenSpec.upto foldAllSpec)

/-- 'gristmilllaw15.FoldJoins', WHERE WHAT IT READS IS OF BULK AT MOST 1048576: true; the input reads as it did. -/
def foldJoinsUptoRow : OpenClaim := { program := "ythejefgpanceoaa", sum := "b8dca74e70daecfb9210b5584f173956e2241c69bfec74b3438196de9108f5ba", func := "gristmill/gristmilllaw15.FoldJoins", spec := "foldJoins", inPlace := ["internal/bytealg.abigen_runtime_cmpstring"], apart := false, narrowed := true }
def FoldJoinsUptoSaid : Prop := foldJoinsUptoRow.holds Try.pinned (OpenSpec.upto foldJoinsSpec)

/-- 'gristmilllaw15.FoldGroups', WHERE WHAT IT READS IS OF BULK AT MOST 1048576: true; the input reads as it did. -/
def foldGroupsUptoRow : OpenClaim := { program := "ythejefgpanceoaa", sum := "b8dca74e70daecfb9210b5584f173956e2241c69bfec74b3438196de9108f5ba", func := "gristmill/gristmilllaw15.FoldGroups", spec := "foldGroups", inPlace := ["internal/bytealg.abigen_runtime_cmpstring"], apart := false, narrowed := true }
def FoldGroupsUptoSaid : Prop := foldGroupsUptoRow.holds Try.pinned (OpenSpec.upto foldGroupsSpec)

/-- 'gristmilllaw16.RunsPuts', WHERE WHAT IT READS IS OF BULK AT MOST 1048576: true; the input reads as it did. -/
def runsPutsUptoRow : OpenClaim := { program := "ythejefgpanceoaa", sum := "b8dca74e70daecfb9210b5584f173956e2241c69bfec74b3438196de9108f5ba", func := "gristmill/gristmilllaw16.RunsPuts", spec := "runsPuts", unfollowed := true, recurses := true, apart := false, narrowed := true }
def RunsPutsUptoSaid : Prop := runsPutsUptoRow.holds Try.pinned (OpenSpec.upto runsPutsSpec)

/-- 'gristmilllaw16.RunsEven', WHERE WHAT IT READS IS OF BULK AT MOST 1048576: true; the input reads as it did. -/
def runsEvenUptoRow : OpenClaim := { program := "ythejefgpanceoaa", sum := "b8dca74e70daecfb9210b5584f173956e2241c69bfec74b3438196de9108f5ba", func := "gristmill/gristmilllaw16.RunsEven", spec := "runsEven", unfollowed := true, recurses := true, apart := false, narrowed := true }
def RunsEvenUptoSaid : Prop := runsEvenUptoRow.holds Try.pinned (OpenSpec.upto runsEvenSpec)

/-- 'gristmilllaw16.RunsGets', WHERE WHAT IT READS IS OF BULK AT MOST 1048576: true; the input reads as it did. -/
def runsGetsUptoRow : OpenClaim := { program := "ythejefgpanceoaa", sum := "b8dca74e70daecfb9210b5584f173956e2241c69bfec74b3438196de9108f5ba", func := "gristmill/gristmilllaw16.RunsGets", spec := "runsGets", unfollowed := true, recurses := true, apart := false, narrowed := true }
def RunsGetsUptoSaid : Prop := runsGetsUptoRow.holds Try.pinned (OpenSpec.upto runsGetsSpec)

/-- 'gristmilllaw15.FoldBytes', WHERE WHAT IT READS IS OF BULK AT MOST 1048576: true; the input reads as it did. -/
def foldBytesUptoRow : OpenClaim := { program := "ythejefgpanceoaa", sum := "b8dca74e70daecfb9210b5584f173956e2241c69bfec74b3438196de9108f5ba", func := "gristmill/gristmilllaw15.FoldBytes", spec := "foldBytes", inPlace := ["internal/bytealg.abigen_runtime_cmpstring"], apart := false, narrowed := true }
def FoldBytesUptoSaid : Prop := foldBytesUptoRow.holds Try.pinned (OpenSpec.upto foldBytesSpec)

/-- 'gristmilllaw16.RunsUnions', WHERE WHAT IT READS IS OF BULK AT MOST 1048576: true; the input reads as it did. -/
def runsUnionsUptoRow : OpenClaim := { program := "ythejefgpanceoaa", sum := "b8dca74e70daecfb9210b5584f173956e2241c69bfec74b3438196de9108f5ba", func := "gristmill/gristmilllaw16.RunsUnions", spec := "runsUnions", unfollowed := true, recurses := true, apart := false, narrowed := true }
def RunsUnionsUptoSaid : Prop := runsUnionsUptoRow.holds Try.pinned (OpenSpec.upto runsUnionsSpec)

end Rows
end Go.Proofs.Ythejefgpanceoaa
