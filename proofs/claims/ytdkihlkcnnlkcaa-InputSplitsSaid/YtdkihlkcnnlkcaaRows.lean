/-
  No cell of these rows narrows 'for every input' (looked for: loops, veiled, ifaces, maps, wideKeys, modest, calm, conditions, laid).
  DERIVED. THE GIVEN ROWS OF THIS SEAT. 8 by the template 'for every input the law returns true; each argument reads behind the call as it read before'; 0 by the template 'total and deterministic' (their statements: YtdkihlkcnnlkcaaTotals.lean).
  GIVEN WITH THE SEED: the statements are not yours to turn. If you find one false, say at which input.
  Laid BY PROGRAM, IN A SANDBOX (cutbox-rows.mjs): the forced cells as the released guide's own fill.sh prints them over the translation 05cdda85763caee1… (all of the seat's roots in one cut). By AI agents, Wed Nov 11 2026. No macro, syntax, notation, axiom, sorry.
-/
import Derived.Test.YtdkihlkcnnlkcaaChecked
import GoSem.Claim
import GoSem.ClaimJoined
import GoSem.ClaimMapViews
import Derived.JoinedTies
import Derived.KernelRfl
namespace Go.Proofs.Ytdkihlkcnnlkcaa
/- THE CELL 'sum', in the pinned program and in every row, IS THE sha256 OF THE DUMP (.gsa) THAT YtdkihlkcnnlkcaaProg.lean LOADS. Nothing in Lean hashes anything: it is a label: what it is worth is what the hold of that sum in a sandbox is worth. -/
noncomputable def Try.pinned : Pinned := { name := "ytdkihlkcnnlkcaa", sum := "05cdda85763caee1a0282c1ff20534110fde6708f20d88473c11c34fb22b2c08", checked := Try.checked }
namespace Rows
def none {H : Type} : Left H := { results := [], args := [] }

/-- 'gristmilllaw14.InputBounds': WHATEVER THE INPUT: true; the input reads as it did. -/
def inputBoundsSpec : ChangeSpec := { name := "inputBounds", fn := fun _ => fun
  | [d1, d2] => { results := [.lit (.bool true)], args := [d1, d2] }
  | _ => none }
def inputBoundsRow : OpenClaim := { program := "ytdkihlkcnnlkcaa", sum := "05cdda85763caee1a0282c1ff20534110fde6708f20d88473c11c34fb22b2c08", func := "gristmill/gristmilllaw14.InputBounds", spec := "inputBounds", inPlace := ["internal/bytealg.IndexByte"], unfollowed := true, recurses := true, apart := false }
def InputBoundsSaid : Prop := inputBoundsRow.holds Try.pinned (OpenSpec.ofChange inputBoundsSpec)

/-- ITS FALSE NEIGHBOUR: 'it returns false'. Refute it at one input. -/
def inputBoundsWrong : ChangeSpec := { name := "inputBounds", fn := fun _ => fun
  | [d1, d2] => { results := [.lit (.bool false)], args := [d1, d2] }
  | _ => none }
def InputBoundsWrongFalsely : Prop := inputBoundsRow.holds Try.pinned (OpenSpec.ofChange inputBoundsWrong)

/-- 'gristmilllaw14.InputJoins': WHATEVER THE INPUT: true; the input reads as it did. -/
def inputJoinsSpec : ChangeSpec := { name := "inputJoins", fn := fun _ => fun
  | [d] => { results := [.lit (.bool true)], args := [d] }
  | _ => none }
def inputJoinsRow : OpenClaim := { program := "ytdkihlkcnnlkcaa", sum := "05cdda85763caee1a0282c1ff20534110fde6708f20d88473c11c34fb22b2c08", func := "gristmill/gristmilllaw14.InputJoins", spec := "inputJoins", inPlace := ["internal/bytealg.IndexByte"], unfollowed := true, recurses := true, apart := false }
def InputJoinsSaid : Prop := inputJoinsRow.holds Try.pinned (OpenSpec.ofChange inputJoinsSpec)

/-- ITS FALSE NEIGHBOUR: 'it returns false'. Refute it at one input. -/
def inputJoinsWrong : ChangeSpec := { name := "inputJoins", fn := fun _ => fun
  | [d] => { results := [.lit (.bool false)], args := [d] }
  | _ => none }
def InputJoinsWrongFalsely : Prop := inputJoinsRow.holds Try.pinned (OpenSpec.ofChange inputJoinsWrong)

/-- 'gristmilllaw14.InputRecords': WHATEVER THE INPUT: true; the input reads as it did. -/
def inputRecordsSpec : ChangeSpec := { name := "inputRecords", fn := fun _ => fun
  | [d1, d2] => { results := [.lit (.bool true)], args := [d1, d2] }
  | _ => none }
def inputRecordsRow : OpenClaim := { program := "ytdkihlkcnnlkcaa", sum := "05cdda85763caee1a0282c1ff20534110fde6708f20d88473c11c34fb22b2c08", func := "gristmill/gristmilllaw14.InputRecords", spec := "inputRecords", inPlace := ["internal/bytealg.IndexByte"], unfollowed := true, recurses := true, apart := false }
def InputRecordsSaid : Prop := inputRecordsRow.holds Try.pinned (OpenSpec.ofChange inputRecordsSpec)

/-- ITS FALSE NEIGHBOUR: 'it returns false'. Refute it at one input. -/
def inputRecordsWrong : ChangeSpec := { name := "inputRecords", fn := fun _ => fun
  | [d1, d2] => { results := [.lit (.bool false)], args := [d1, d2] }
  | _ => none }
def InputRecordsWrongFalsely : Prop := inputRecordsRow.holds Try.pinned (OpenSpec.ofChange inputRecordsWrong)

/-- 'gristmilllaw04.RecBounds': WHATEVER THE INPUT: true; the input reads as it did. -/
def recBoundsSpec : ChangeSpec := { name := "recBounds", fn := fun _ => fun
  | [d1, d2] => { results := [.lit (.bool true)], args := [d1, d2] }
  | _ => none }
def recBoundsRow : OpenClaim := { program := "ytdkihlkcnnlkcaa", sum := "05cdda85763caee1a0282c1ff20534110fde6708f20d88473c11c34fb22b2c08", func := "gristmill/gristmilllaw04.RecBounds", spec := "recBounds", unfollowed := true, recurses := true, apart := false }
def RecBoundsSaid : Prop := recBoundsRow.holds Try.pinned (OpenSpec.ofChange recBoundsSpec)

/-- ITS FALSE NEIGHBOUR: 'it returns false'. Refute it at one input. -/
def recBoundsWrong : ChangeSpec := { name := "recBounds", fn := fun _ => fun
  | [d1, d2] => { results := [.lit (.bool false)], args := [d1, d2] }
  | _ => none }
def RecBoundsWrongFalsely : Prop := recBoundsRow.holds Try.pinned (OpenSpec.ofChange recBoundsWrong)

/-- 'gristmilllaw14.InputSplits': WHATEVER THE INPUT: true; the input reads as it did. -/
def inputSplitsSpec : ChangeSpec := { name := "inputSplits", fn := fun _ => fun
  | [d1, d2, d3, d4] => { results := [.lit (.bool true)], args := [d1, d2, d3, d4] }
  | _ => none }
def inputSplitsRow : OpenClaim := { program := "ytdkihlkcnnlkcaa", sum := "05cdda85763caee1a0282c1ff20534110fde6708f20d88473c11c34fb22b2c08", func := "gristmill/gristmilllaw14.InputSplits", spec := "inputSplits", inPlace := ["internal/bytealg.IndexByte"], unfollowed := true, recurses := true, apart := false }
def InputSplitsSaid : Prop := inputSplitsRow.holds Try.pinned (OpenSpec.ofChange inputSplitsSpec)

/-- ITS FALSE NEIGHBOUR: 'it returns false'. Refute it at one input. -/
def inputSplitsWrong : ChangeSpec := { name := "inputSplits", fn := fun _ => fun
  | [d1, d2, d3, d4] => { results := [.lit (.bool false)], args := [d1, d2, d3, d4] }
  | _ => none }
def InputSplitsWrongFalsely : Prop := inputSplitsRow.holds Try.pinned (OpenSpec.ofChange inputSplitsWrong)

/-- 'gristmilllaw04.RecOrders': WHATEVER THE INPUT: true; the input reads as it did. -/
def recOrdersSpec : ChangeSpec := { name := "recOrders", fn := fun _ => fun
  | [d1, d2, d3] => { results := [.lit (.bool true)], args := [d1, d2, d3] }
  | _ => none }
def recOrdersRow : OpenClaim := { program := "ytdkihlkcnnlkcaa", sum := "05cdda85763caee1a0282c1ff20534110fde6708f20d88473c11c34fb22b2c08", func := "gristmill/gristmilllaw04.RecOrders", spec := "recOrders", inPlace := ["internal/bytealg.abigen_runtime_cmpstring"], unfollowed := true, recurses := true, apart := false }
def RecOrdersSaid : Prop := recOrdersRow.holds Try.pinned (OpenSpec.ofChange recOrdersSpec)

/-- ITS FALSE NEIGHBOUR: 'it returns false'. Refute it at one input. -/
def recOrdersWrong : ChangeSpec := { name := "recOrders", fn := fun _ => fun
  | [d1, d2, d3] => { results := [.lit (.bool false)], args := [d1, d2, d3] }
  | _ => none }
def RecOrdersWrongFalsely : Prop := recOrdersRow.holds Try.pinned (OpenSpec.ofChange recOrdersWrong)

/-- 'gristmilllaw04.RecGets': WHATEVER THE INPUT: true; the input reads as it did. -/
def recGetsSpec : ChangeSpec := { name := "recGets", fn := fun _ => fun
  | [d1, d2] => { results := [.lit (.bool true)], args := [d1, d2] }
  | _ => none }
def recGetsRow : OpenClaim := { program := "ytdkihlkcnnlkcaa", sum := "05cdda85763caee1a0282c1ff20534110fde6708f20d88473c11c34fb22b2c08", func := "gristmill/gristmilllaw04.RecGets", spec := "recGets", unfollowed := true, recurses := true, apart := false }
def RecGetsSaid : Prop := recGetsRow.holds Try.pinned (OpenSpec.ofChange recGetsSpec)

/-- ITS FALSE NEIGHBOUR: 'it returns false'. Refute it at one input. -/
def recGetsWrong : ChangeSpec := { name := "recGets", fn := fun _ => fun
  | [d1, d2] => { results := [.lit (.bool false)], args := [d1, d2] }
  | _ => none }
def RecGetsWrongFalsely : Prop := recGetsRow.holds Try.pinned (OpenSpec.ofChange recGetsWrong)

/-- 'gristmilllaw04.RecPuts': WHATEVER THE INPUT: true; the input reads as it did. -/
def recPutsSpec : ChangeSpec := { name := "recPuts", fn := fun _ => fun
  | [d1, d2, d3] => { results := [.lit (.bool true)], args := [d1, d2, d3] }
  | _ => none }
def recPutsRow : OpenClaim := { program := "ytdkihlkcnnlkcaa", sum := "05cdda85763caee1a0282c1ff20534110fde6708f20d88473c11c34fb22b2c08", func := "gristmill/gristmilllaw04.RecPuts", spec := "recPuts", unfollowed := true, recurses := true, apart := false }
def RecPutsSaid : Prop := recPutsRow.holds Try.pinned (OpenSpec.ofChange recPutsSpec)

/-- ITS FALSE NEIGHBOUR: 'it returns false'. Refute it at one input. -/
def recPutsWrong : ChangeSpec := { name := "recPuts", fn := fun _ => fun
  | [d1, d2, d3] => { results := [.lit (.bool false)], args := [d1, d2, d3] }
  | _ => none }
def RecPutsWrongFalsely : Prop := recPutsRow.holds Try.pinned (OpenSpec.ofChange recPutsWrong)

/- THE SECOND FORM. 'bulk': how many values and letters a reading holds, each counted each time it is reached (what is shared counts as often as it is met; a slice's spare places count too). A statement '..UptoSaid' is the law's where the arguments, and the package variables that the reading takes, are together of bulk at most 1048576: NARROWER than '..Said'. Prove '..Said' where nothing that the law and all that it calls make is longer than what came in: it says more and counts as full. Else prove '..UptoSaid'. A law counts once. -/
mutual
def uptoBulk {H : Type} : DataW H → Nat
  | .lit (.string bytes) => bytes.length + 1
  | .lit _ => 1
  | .nil => 1
  | .ptr d => uptoBulk d + 1
  | .slice elems spare => uptoBulkAll elems + uptoBulkAll spare + 1
  | .agg parts => uptoBulkAll parts + 1
  | .iface _ d => uptoBulk d + 1
  | .map entries => uptoBulkEntries entries + 1
  | .held _ => 1
def uptoBulkAll {H : Type} : List (DataW H) → Nat
  | [] => 0
  | d :: r => uptoBulk d + uptoBulkAll r
def uptoBulkEntries {H : Type} : List (Lit × DataW H) → Nat
  | [] => 0
  | x :: r => uptoBulkEntry x + uptoBulkEntries r
def uptoBulkEntry {H : Type} : Lit × DataW H → Nat
  | (.string bytes, d) => bytes.length + uptoBulk d + 1
  | (_, d) => uptoBulk d + 1
 end
def uptoSmall : (H : Type) → List (DataW H) → Bool := fun _ ds => decide (uptoBulkAll ds ≤ 1048576)
def OpenSpec.upto (s : _root_.Go.ChangeSpec) : _root_.Go.OpenSpec := { _root_.Go.OpenSpec.ofChange s with cond := some uptoSmall }

/-- 'gristmilllaw14.InputBounds', WHERE WHAT IT READS IS OF BULK AT MOST 1048576: true; the input reads as it did. -/
def inputBoundsUptoRow : OpenClaim := { program := "ytdkihlkcnnlkcaa", sum := "05cdda85763caee1a0282c1ff20534110fde6708f20d88473c11c34fb22b2c08", func := "gristmill/gristmilllaw14.InputBounds", spec := "inputBounds", inPlace := ["internal/bytealg.IndexByte"], unfollowed := true, recurses := true, apart := false, narrowed := true }
def InputBoundsUptoSaid : Prop := inputBoundsUptoRow.holds Try.pinned (OpenSpec.upto inputBoundsSpec)

/-- 'gristmilllaw14.InputJoins', WHERE WHAT IT READS IS OF BULK AT MOST 1048576: true; the input reads as it did. -/
def inputJoinsUptoRow : OpenClaim := { program := "ytdkihlkcnnlkcaa", sum := "05cdda85763caee1a0282c1ff20534110fde6708f20d88473c11c34fb22b2c08", func := "gristmill/gristmilllaw14.InputJoins", spec := "inputJoins", inPlace := ["internal/bytealg.IndexByte"], unfollowed := true, recurses := true, apart := false, narrowed := true }
def InputJoinsUptoSaid : Prop := inputJoinsUptoRow.holds Try.pinned (OpenSpec.upto inputJoinsSpec)

/-- 'gristmilllaw14.InputRecords', WHERE WHAT IT READS IS OF BULK AT MOST 1048576: true; the input reads as it did. -/
def inputRecordsUptoRow : OpenClaim := { program := "ytdkihlkcnnlkcaa", sum := "05cdda85763caee1a0282c1ff20534110fde6708f20d88473c11c34fb22b2c08", func := "gristmill/gristmilllaw14.InputRecords", spec := "inputRecords", inPlace := ["internal/bytealg.IndexByte"], unfollowed := true, recurses := true, apart := false, narrowed := true }
def InputRecordsUptoSaid : Prop := inputRecordsUptoRow.holds Try.pinned (OpenSpec.upto inputRecordsSpec)

/-- 'gristmilllaw04.RecBounds', WHERE WHAT IT READS IS OF BULK AT MOST 1048576: true; the input reads as it did. -/
def recBoundsUptoRow : OpenClaim := { program := "ytdkihlkcnnlkcaa", sum := "05cdda85763caee1a0282c1ff20534110fde6708f20d88473c11c34fb22b2c08", func := "gristmill/gristmilllaw04.RecBounds", spec := "recBounds", unfollowed := true, recurses := true, apart := false, narrowed := true }
def RecBoundsUptoSaid : Prop := recBoundsUptoRow.holds Try.pinned (OpenSpec.upto recBoundsSpec)

/-- 'gristmilllaw14.InputSplits', WHERE WHAT IT READS IS OF BULK AT MOST 1048576: true; the input reads as it did. -/
def inputSplitsUptoRow : OpenClaim := { program := "ytdkihlkcnnlkcaa", sum := "05cdda85763caee1a0282c1ff20534110fde6708f20d88473c11c34fb22b2c08", func := "gristmill/gristmilllaw14.InputSplits", spec := "inputSplits", inPlace := ["internal/bytealg.IndexByte"], unfollowed := true, recurses := true, apart := false, narrowed := true }
def InputSplitsUptoSaid : Prop := inputSplitsUptoRow.holds Try.pinned (OpenSpec.upto inputSplitsSpec)

/-- 'gristmilllaw04.RecOrders', WHERE WHAT IT READS IS OF BULK AT MOST 1048576: true; the input reads as it did. -/
def recOrdersUptoRow : OpenClaim := { program := "ytdkihlkcnnlkcaa", sum := "05cdda85763caee1a0282c1ff20534110fde6708f20d88473c11c34fb22b2c08", func := "gristmill/gristmilllaw04.RecOrders", spec := "recOrders", inPlace := ["internal/bytealg.abigen_runtime_cmpstring"], unfollowed := true, recurses := true, apart := false, narrowed := true }
def RecOrdersUptoSaid : Prop := recOrdersUptoRow.holds Try.pinned (OpenSpec.upto recOrdersSpec)

/-- 'gristmilllaw04.RecGets', WHERE WHAT IT READS IS OF BULK AT MOST 1048576: true; the input reads as it did. -/
def recGetsUptoRow : OpenClaim := { program := "ytdkihlkcnnlkcaa", sum := "05cdda85763caee1a0282c1ff20534110fde6708f20d88473c11c34fb22b2c08", func := "gristmill/gristmilllaw04.RecGets", spec := "recGets", unfollowed := true, recurses := true, apart := false, narrowed := true }
def RecGetsUptoSaid : Prop := recGetsUptoRow.holds Try.pinned (OpenSpec.upto recGetsSpec)

/-- 'gristmilllaw04.RecPuts', WHERE WHAT IT READS IS OF BULK AT MOST 1048576: true; the input reads as it did. -/
def recPutsUptoRow : OpenClaim := { program := "ytdkihlkcnnlkcaa", sum := "05cdda85763caee1a0282c1ff20534110fde6708f20d88473c11c34fb22b2c08", func := "gristmill/gristmilllaw04.RecPuts", spec := "recPuts", unfollowed := true, recurses := true, apart := false, narrowed := true }
def RecPutsUptoSaid : Prop := recPutsUptoRow.holds Try.pinned (OpenSpec.upto recPutsSpec)

end Rows
end Go.Proofs.Ytdkihlkcnnlkcaa
