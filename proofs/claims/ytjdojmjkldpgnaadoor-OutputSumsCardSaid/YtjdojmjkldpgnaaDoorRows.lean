/-
  NARROWER THAN 'FOR EVERY INPUT', by the rows' own cells (each row's printed sentence says how): SpillNames: laid · OutputSums: laid · SpillGets: laid · SpillPuts: laid · SpillTorn: laid · OutputFiles: laid · OutputReads: laid.
  DERIVED. THE GIVEN ROWS OF THIS SEAT. 7 by the template 'for every input the law returns true; each argument reads behind the call as it read before'; 0 by the template 'total and deterministic' (their statements: YtjdojmjkldpgnaaDoorTotals.lean).
  GIVEN WITH THE SEED: the statements are not yours to turn. If you find one false, say at which input.
  Laid BY PROGRAM, IN A SANDBOX (cutbox-rows.mjs): the forced cells as the released guide's own fill.sh prints them over the translation 3edcf4f2281ce7e3… (all of the seat's roots in one cut). By AI agents, Wed Nov 11 2026. No macro, syntax, notation, axiom, sorry.
-/
import Derived.Test.YtjdojmjkldpgnaaDoorChecked
import GoSem.Claim
import GoSem.ClaimJoined
import GoSem.ClaimMapViews
import Derived.JoinedTies
import Derived.KernelRfl
namespace Go.Proofs.YtjdojmjkldpgnaaDoor
/- THE CELL 'sum', in the pinned program and in every row, IS THE sha256 OF THE DUMP (.gsa) THAT YtjdojmjkldpgnaaDoorProg.lean LOADS. Nothing in Lean hashes anything: it is a label: what it is worth is what the hold of that sum in a sandbox is worth. -/
noncomputable def Tryd.pinned : Pinned := { name := "ytjdojmjkldpgnaadoor", sum := "3edcf4f2281ce7e31a93a4ba5b140dd597f6258b4194e7360c146fbbb946c2ff", checked := Tryd.checked }
namespace Rows
def none {H : Type} : Left H := { results := [], args := [] }

/- WHAT THE LISTED PACKAGE-LEVEL VARIABLES READ AS WHEN THE CALL BEGINS. Each datum BY PROGRAM (the guide's laid-datum.mjs) off the statement by which the dump's own 'gosem.cut.vars' lays the variable. In a bare row this is a premise. The card (YtjdojmjkldpgnaaDoorCards.lean) ties it to the program's text. -/
def laid_math_bits_deBruijn32tab {H : Type} : DataW H := .agg [.lit (.int .u8 0), .lit (.int .u8 1), .lit (.int .u8 28), .lit (.int .u8 2), .lit (.int .u8 29), .lit (.int .u8 14), .lit (.int .u8 24), .lit (.int .u8 3), .lit (.int .u8 30), .lit (.int .u8 22), .lit (.int .u8 20), .lit (.int .u8 15), .lit (.int .u8 25), .lit (.int .u8 17), .lit (.int .u8 4), .lit (.int .u8 8), .lit (.int .u8 31), .lit (.int .u8 27), .lit (.int .u8 13), .lit (.int .u8 23), .lit (.int .u8 21), .lit (.int .u8 19), .lit (.int .u8 16), .lit (.int .u8 7), .lit (.int .u8 26), .lit (.int .u8 12), .lit (.int .u8 18), .lit (.int .u8 6), .lit (.int .u8 11), .lit (.int .u8 5), .lit (.int .u8 10), .lit (.int .u8 9)]
def laid_math_bits_deBruijn64tab {H : Type} : DataW H := .agg [.lit (.int .u8 0), .lit (.int .u8 1), .lit (.int .u8 56), .lit (.int .u8 2), .lit (.int .u8 57), .lit (.int .u8 49), .lit (.int .u8 28), .lit (.int .u8 3), .lit (.int .u8 61), .lit (.int .u8 58), .lit (.int .u8 42), .lit (.int .u8 50), .lit (.int .u8 38), .lit (.int .u8 29), .lit (.int .u8 17), .lit (.int .u8 4), .lit (.int .u8 62), .lit (.int .u8 47), .lit (.int .u8 59), .lit (.int .u8 36), .lit (.int .u8 45), .lit (.int .u8 43), .lit (.int .u8 51), .lit (.int .u8 22), .lit (.int .u8 53), .lit (.int .u8 39), .lit (.int .u8 33), .lit (.int .u8 30), .lit (.int .u8 24), .lit (.int .u8 18), .lit (.int .u8 12), .lit (.int .u8 5), .lit (.int .u8 63), .lit (.int .u8 55), .lit (.int .u8 48), .lit (.int .u8 27), .lit (.int .u8 60), .lit (.int .u8 41), .lit (.int .u8 37), .lit (.int .u8 16), .lit (.int .u8 46), .lit (.int .u8 35), .lit (.int .u8 44), .lit (.int .u8 21), .lit (.int .u8 52), .lit (.int .u8 32), .lit (.int .u8 23), .lit (.int .u8 11), .lit (.int .u8 54), .lit (.int .u8 26), .lit (.int .u8 40), .lit (.int .u8 15), .lit (.int .u8 34), .lit (.int .u8 20), .lit (.int .u8 31), .lit (.int .u8 10), .lit (.int .u8 25), .lit (.int .u8 14), .lit (.int .u8 19), .lit (.int .u8 9), .lit (.int .u8 13), .lit (.int .u8 8), .lit (.int .u8 7), .lit (.int .u8 6)]
def laid_internal_strconv_uint64pow10 {H : Type} : DataW H := .agg [.lit (.int .u64 1), .lit (.int .u64 10), .lit (.int .u64 100), .lit (.int .u64 1000), .lit (.int .u64 10000), .lit (.int .u64 100000), .lit (.int .u64 1000000), .lit (.int .u64 10000000), .lit (.int .u64 100000000), .lit (.int .u64 1000000000), .lit (.int .u64 10000000000), .lit (.int .u64 100000000000), .lit (.int .u64 1000000000000), .lit (.int .u64 10000000000000), .lit (.int .u64 100000000000000), .lit (.int .u64 1000000000000000), .lit (.int .u64 10000000000000000), .lit (.int .u64 100000000000000000), .lit (.int .u64 1000000000000000000), .lit (.int .u64 10000000000000000000)]

/-- 'gristmilllaw23.SpillNames': WHATEVER THE INPUT: true; the input reads as it did. -/
def spillNamesSpec : ChangeSpec := { name := "spillNames", fn := fun _ => fun
  | [d1, d2, d3, d4] => { results := [.lit (.bool true)], args := [d1, d2, d3, d4] }
  | _ => none }
def spillNamesRow : OpenClaim := { program := "ytjdojmjkldpgnaadoor", sum := "3edcf4f2281ce7e31a93a4ba5b140dd597f6258b4194e7360c146fbbb946c2ff", func := "gristmill/gristmilllaw23.SpillNames", spec := "spillNames", named := ["internal/strconv.uint64pow10", "math/bits.deBruijn32tab", "math/bits.deBruijn64tab"], apart := false, laid := [("math/bits.deBruijn32tab", laid_math_bits_deBruijn32tab), ("math/bits.deBruijn64tab", laid_math_bits_deBruijn64tab), ("internal/strconv.uint64pow10", laid_internal_strconv_uint64pow10)] }
def SpillNamesSaid : Prop := spillNamesRow.holds Tryd.pinned (OpenSpec.ofChange spillNamesSpec)

/-- ITS FALSE NEIGHBOUR: 'it returns false'. Refute it at one input. -/
def spillNamesWrong : ChangeSpec := { name := "spillNames", fn := fun _ => fun
  | [d1, d2, d3, d4] => { results := [.lit (.bool false)], args := [d1, d2, d3, d4] }
  | _ => none }
def SpillNamesWrongFalsely : Prop := spillNamesRow.holds Tryd.pinned (OpenSpec.ofChange spillNamesWrong)

/-- 'gristmilllaw25.OutputSums': WHATEVER THE INPUT: true; the input reads as it did. -/
def outputSumsSpec : ChangeSpec := { name := "outputSums", fn := fun _ => fun
  | [d1, d2, d3] => { results := [.lit (.bool true)], args := [d1, d2, d3] }
  | _ => none }
def outputSumsRow : OpenClaim := { program := "ytjdojmjkldpgnaadoor", sum := "3edcf4f2281ce7e31a93a4ba5b140dd597f6258b4194e7360c146fbbb946c2ff", func := "gristmill/gristmilllaw25.OutputSums", spec := "outputSums", recurses := true, named := ["internal/strconv.uint64pow10", "math/bits.deBruijn32tab", "math/bits.deBruijn64tab"], apart := false, laid := [("math/bits.deBruijn32tab", laid_math_bits_deBruijn32tab), ("math/bits.deBruijn64tab", laid_math_bits_deBruijn64tab), ("internal/strconv.uint64pow10", laid_internal_strconv_uint64pow10)] }
def OutputSumsSaid : Prop := outputSumsRow.holds Tryd.pinned (OpenSpec.ofChange outputSumsSpec)

/-- ITS FALSE NEIGHBOUR: 'it returns false'. Refute it at one input. -/
def outputSumsWrong : ChangeSpec := { name := "outputSums", fn := fun _ => fun
  | [d1, d2, d3] => { results := [.lit (.bool false)], args := [d1, d2, d3] }
  | _ => none }
def OutputSumsWrongFalsely : Prop := outputSumsRow.holds Tryd.pinned (OpenSpec.ofChange outputSumsWrong)

/-- 'gristmilllaw23.SpillGets': WHATEVER THE INPUT: true; the input reads as it did. -/
def spillGetsSpec : ChangeSpec := { name := "spillGets", fn := fun _ => fun
  | [d] => { results := [.lit (.bool true)], args := [d] }
  | _ => none }
def spillGetsRow : OpenClaim := { program := "ytjdojmjkldpgnaadoor", sum := "3edcf4f2281ce7e31a93a4ba5b140dd597f6258b4194e7360c146fbbb946c2ff", func := "gristmill/gristmilllaw23.SpillGets", spec := "spillGets", unfollowed := true, recurses := true, named := ["internal/strconv.uint64pow10", "math/bits.deBruijn32tab", "math/bits.deBruijn64tab"], apart := false, laid := [("math/bits.deBruijn32tab", laid_math_bits_deBruijn32tab), ("math/bits.deBruijn64tab", laid_math_bits_deBruijn64tab), ("internal/strconv.uint64pow10", laid_internal_strconv_uint64pow10)] }
def SpillGetsSaid : Prop := spillGetsRow.holds Tryd.pinned (OpenSpec.ofChange spillGetsSpec)

/-- ITS FALSE NEIGHBOUR: 'it returns false'. Refute it at one input. -/
def spillGetsWrong : ChangeSpec := { name := "spillGets", fn := fun _ => fun
  | [d] => { results := [.lit (.bool false)], args := [d] }
  | _ => none }
def SpillGetsWrongFalsely : Prop := spillGetsRow.holds Tryd.pinned (OpenSpec.ofChange spillGetsWrong)

/-- 'gristmilllaw23.SpillPuts': WHATEVER THE INPUT: true; the input reads as it did. -/
def spillPutsSpec : ChangeSpec := { name := "spillPuts", fn := fun _ => fun
  | [d] => { results := [.lit (.bool true)], args := [d] }
  | _ => none }
def spillPutsRow : OpenClaim := { program := "ytjdojmjkldpgnaadoor", sum := "3edcf4f2281ce7e31a93a4ba5b140dd597f6258b4194e7360c146fbbb946c2ff", func := "gristmill/gristmilllaw23.SpillPuts", spec := "spillPuts", unfollowed := true, recurses := true, named := ["internal/strconv.uint64pow10", "math/bits.deBruijn32tab", "math/bits.deBruijn64tab"], apart := false, laid := [("math/bits.deBruijn32tab", laid_math_bits_deBruijn32tab), ("math/bits.deBruijn64tab", laid_math_bits_deBruijn64tab), ("internal/strconv.uint64pow10", laid_internal_strconv_uint64pow10)] }
def SpillPutsSaid : Prop := spillPutsRow.holds Tryd.pinned (OpenSpec.ofChange spillPutsSpec)

/-- ITS FALSE NEIGHBOUR: 'it returns false'. Refute it at one input. -/
def spillPutsWrong : ChangeSpec := { name := "spillPuts", fn := fun _ => fun
  | [d] => { results := [.lit (.bool false)], args := [d] }
  | _ => none }
def SpillPutsWrongFalsely : Prop := spillPutsRow.holds Tryd.pinned (OpenSpec.ofChange spillPutsWrong)

/-- 'gristmilllaw23.SpillTorn': WHATEVER THE INPUT: true; the input reads as it did. -/
def spillTornSpec : ChangeSpec := { name := "spillTorn", fn := fun _ => fun
  | [d1, d2, d3] => { results := [.lit (.bool true)], args := [d1, d2, d3] }
  | _ => none }
def spillTornRow : OpenClaim := { program := "ytjdojmjkldpgnaadoor", sum := "3edcf4f2281ce7e31a93a4ba5b140dd597f6258b4194e7360c146fbbb946c2ff", func := "gristmill/gristmilllaw23.SpillTorn", spec := "spillTorn", unfollowed := true, recurses := true, named := ["internal/strconv.uint64pow10", "math/bits.deBruijn32tab", "math/bits.deBruijn64tab"], apart := false, laid := [("math/bits.deBruijn32tab", laid_math_bits_deBruijn32tab), ("math/bits.deBruijn64tab", laid_math_bits_deBruijn64tab), ("internal/strconv.uint64pow10", laid_internal_strconv_uint64pow10)] }
def SpillTornSaid : Prop := spillTornRow.holds Tryd.pinned (OpenSpec.ofChange spillTornSpec)

/-- ITS FALSE NEIGHBOUR: 'it returns false'. Refute it at one input. -/
def spillTornWrong : ChangeSpec := { name := "spillTorn", fn := fun _ => fun
  | [d1, d2, d3] => { results := [.lit (.bool false)], args := [d1, d2, d3] }
  | _ => none }
def SpillTornWrongFalsely : Prop := spillTornRow.holds Tryd.pinned (OpenSpec.ofChange spillTornWrong)

/-- 'gristmilllaw25.OutputFiles': WHATEVER THE INPUT: true; the input reads as it did. -/
def outputFilesSpec : ChangeSpec := { name := "outputFiles", fn := fun _ => fun
  | [d] => { results := [.lit (.bool true)], args := [d] }
  | _ => none }
def outputFilesRow : OpenClaim := { program := "ytjdojmjkldpgnaadoor", sum := "3edcf4f2281ce7e31a93a4ba5b140dd597f6258b4194e7360c146fbbb946c2ff", func := "gristmill/gristmilllaw25.OutputFiles", spec := "outputFiles", inPlace := ["internal/bytealg.abigen_runtime_cmpstring"], unfollowed := true, recurses := true, named := ["internal/strconv.uint64pow10", "math/bits.deBruijn32tab", "math/bits.deBruijn64tab"], apart := false, laid := [("math/bits.deBruijn32tab", laid_math_bits_deBruijn32tab), ("math/bits.deBruijn64tab", laid_math_bits_deBruijn64tab), ("internal/strconv.uint64pow10", laid_internal_strconv_uint64pow10)] }
def OutputFilesSaid : Prop := outputFilesRow.holds Tryd.pinned (OpenSpec.ofChange outputFilesSpec)

/-- ITS FALSE NEIGHBOUR: 'it returns false'. Refute it at one input. -/
def outputFilesWrong : ChangeSpec := { name := "outputFiles", fn := fun _ => fun
  | [d] => { results := [.lit (.bool false)], args := [d] }
  | _ => none }
def OutputFilesWrongFalsely : Prop := outputFilesRow.holds Tryd.pinned (OpenSpec.ofChange outputFilesWrong)

/-- 'gristmilllaw25.OutputReads': WHATEVER THE INPUT: true; the input reads as it did. -/
def outputReadsSpec : ChangeSpec := { name := "outputReads", fn := fun _ => fun
  | [d1, d2] => { results := [.lit (.bool true)], args := [d1, d2] }
  | _ => none }
def outputReadsRow : OpenClaim := { program := "ytjdojmjkldpgnaadoor", sum := "3edcf4f2281ce7e31a93a4ba5b140dd597f6258b4194e7360c146fbbb946c2ff", func := "gristmill/gristmilllaw25.OutputReads", spec := "outputReads", inPlace := ["internal/bytealg.abigen_runtime_cmpstring"], unfollowed := true, recurses := true, named := ["internal/strconv.uint64pow10", "math/bits.deBruijn32tab", "math/bits.deBruijn64tab"], apart := false, laid := [("math/bits.deBruijn32tab", laid_math_bits_deBruijn32tab), ("math/bits.deBruijn64tab", laid_math_bits_deBruijn64tab), ("internal/strconv.uint64pow10", laid_internal_strconv_uint64pow10)] }
def OutputReadsSaid : Prop := outputReadsRow.holds Tryd.pinned (OpenSpec.ofChange outputReadsSpec)

/-- ITS FALSE NEIGHBOUR: 'it returns false'. Refute it at one input. -/
def outputReadsWrong : ChangeSpec := { name := "outputReads", fn := fun _ => fun
  | [d1, d2] => { results := [.lit (.bool false)], args := [d1, d2] }
  | _ => none }
def OutputReadsWrongFalsely : Prop := outputReadsRow.holds Tryd.pinned (OpenSpec.ofChange outputReadsWrong)

/- THE SECOND FORM. 'bulk': how many values and letters a reading holds, each counted each time it is reached (what is shared counts as often as it is met; a slice's spare places count too). A statement '..UptoSaid' is the law's where the arguments, and the package variables that the reading takes, are together of bulk at most 1048576: NARROWER than '..Said'. Prove '..Said' where nothing that the law and all that it calls make is longer than what came in: it says more and counts as full. Else prove '..UptoSaid'. A law counts once. -/
mutual
def uptoBulk {H : Type} : DataW H → Nat
  | .lit (.string bytes) => bytes.length + 1
  | .lit _ => 1
  | .nil => 1
  | .ptr d => uptoBulk d + 1
  | .slice elems spare => uptoBulkAll elems + uptoBulkAll spare + 1
  | .agg parts => uptoBulkAll parts + 1
  | .iface _ d => uptoBulk d + 1
  | .map entries => uptoBulkEntries entries + 1
  | .held _ => 1
def uptoBulkAll {H : Type} : List (DataW H) → Nat
  | [] => 0
  | d :: r => uptoBulk d + uptoBulkAll r
def uptoBulkEntries {H : Type} : List (Lit × DataW H) → Nat
  | [] => 0
  | x :: r => uptoBulkEntry x + uptoBulkEntries r
def uptoBulkEntry {H : Type} : Lit × DataW H → Nat
  | (.string bytes, d) => bytes.length + uptoBulk d + 1
  | (_, d) => uptoBulk d + 1
 end
def uptoSmall : (H : Type) → List (DataW H) → Bool := fun _ ds => decide (uptoBulkAll ds ≤ 1048576)
def OpenSpec.upto (s : _root_.Go.ChangeSpec) : _root_.Go.OpenSpec := { _root_.Go.OpenSpec.ofChange s with cond := some uptoSmall }

/-- 'gristmilllaw23.SpillNames', WHERE WHAT IT READS IS OF BULK AT MOST 1048576: true; the input reads as it did. -/
def spillNamesUptoRow : OpenClaim := { program := "ytjdojmjkldpgnaadoor", sum := "3edcf4f2281ce7e31a93a4ba5b140dd597f6258b4194e7360c146fbbb946c2ff", func := "gristmill/gristmilllaw23.SpillNames", spec := "spillNames", named := ["internal/strconv.uint64pow10", "math/bits.deBruijn32tab", "math/bits.deBruijn64tab"], apart := false, laid := [("math/bits.deBruijn32tab", laid_math_bits_deBruijn32tab), ("math/bits.deBruijn64tab", laid_math_bits_deBruijn64tab), ("internal/strconv.uint64pow10", laid_internal_strconv_uint64pow10)], narrowed := true }
def SpillNamesUptoSaid : Prop := spillNamesUptoRow.holds Tryd.pinned (OpenSpec.upto spillNamesSpec)

/-- 'gristmilllaw25.OutputSums', WHERE WHAT IT READS IS OF BULK AT MOST 1048576: true; the input reads as it did. -/
def outputSumsUptoRow : OpenClaim := { program := "ytjdojmjkldpgnaadoor", sum := "3edcf4f2281ce7e31a93a4ba5b140dd597f6258b4194e7360c146fbbb946c2ff", func := "gristmill/gristmilllaw25.OutputSums", spec := "outputSums", recurses := true, named := ["internal/strconv.uint64pow10", "math/bits.deBruijn32tab", "math/bits.deBruijn64tab"], apart := false, laid := [("math/bits.deBruijn32tab", laid_math_bits_deBruijn32tab), ("math/bits.deBruijn64tab", laid_math_bits_deBruijn64tab), ("internal/strconv.uint64pow10", laid_internal_strconv_uint64pow10)], narrowed := true }
def OutputSumsUptoSaid : Prop := outputSumsUptoRow.holds Tryd.pinned (OpenSpec.upto outputSumsSpec)

/-- 'gristmilllaw23.SpillGets', WHERE WHAT IT READS IS OF BULK AT MOST 1048576: true; the input reads as it did. -/
def spillGetsUptoRow : OpenClaim := { program := "ytjdojmjkldpgnaadoor", sum := "3edcf4f2281ce7e31a93a4ba5b140dd597f6258b4194e7360c146fbbb946c2ff", func := "gristmill/gristmilllaw23.SpillGets", spec := "spillGets", unfollowed := true, recurses := true, named := ["internal/strconv.uint64pow10", "math/bits.deBruijn32tab", "math/bits.deBruijn64tab"], apart := false, laid := [("math/bits.deBruijn32tab", laid_math_bits_deBruijn32tab), ("math/bits.deBruijn64tab", laid_math_bits_deBruijn64tab), ("internal/strconv.uint64pow10", laid_internal_strconv_uint64pow10)], narrowed := true }
def SpillGetsUptoSaid : Prop := spillGetsUptoRow.holds Tryd.pinned (OpenSpec.upto spillGetsSpec)

/-- 'gristmilllaw23.SpillPuts', WHERE WHAT IT READS IS OF BULK AT MOST 1048576: true; the input reads as it did. -/
def spillPutsUptoRow : OpenClaim := { program := "ytjdojmjkldpgnaadoor", sum := "3edcf4f2281ce7e31a93a4ba5b140dd597f6258b4194e7360c146fbbb946c2ff", func := "gristmill/gristmilllaw23.SpillPuts", spec := "spillPuts", unfollowed := true, recurses := true, named := ["internal/strconv.uint64pow10", "math/bits.deBruijn32tab", "math/bits.deBruijn64tab"], apart := false, laid := [("math/bits.deBruijn32tab", laid_math_bits_deBruijn32tab), ("math/bits.deBruijn64tab", laid_math_bits_deBruijn64tab), ("internal/strconv.uint64pow10", laid_internal_strconv_uint64pow10)], narrowed := true }
def SpillPutsUptoSaid : Prop := spillPutsUptoRow.holds Tryd.pinned (OpenSpec.upto spillPutsSpec)

/-- 'gristmilllaw23.SpillTorn', WHERE WHAT IT READS IS OF BULK AT MOST 1048576: true; the input reads as it did. -/
def spillTornUptoRow : OpenClaim := { program := "ytjdojmjkldpgnaadoor", sum := "3edcf4f2281ce7e31a93a4ba5b140dd597f6258b4194e7360c146fbbb946c2ff", func := "gristmill/gristmilllaw23.SpillTorn", spec := "spillTorn", unfollowed := true, recurses := true, named := ["internal/strconv.uint64pow10", "math/bits.deBruijn32tab", "math/bits.deBruijn64tab"], apart := false, laid := [("math/bits.deBruijn32tab", laid_math_bits_deBruijn32tab), ("math/bits.deBruijn64tab", laid_math_bits_deBruijn64tab), ("internal/strconv.uint64pow10", laid_internal_strconv_uint64pow10)], narrowed := true }
def SpillTornUptoSaid : Prop := spillTornUptoRow.holds Tryd.pinned (OpenSpec.upto spillTornSpec)

/-- 'gristmilllaw25.OutputFiles', WHERE WHAT IT READS IS OF BULK AT MOST 1048576: true; the input reads as it did. -/
def outputFilesUptoRow : OpenClaim := { program := "ytjdojmjkldpgnaadoor", sum := "3edcf4f2281ce7e31a93a4ba5b140dd597f6258b4194e7360c146fbbb946c2ff", func := "gristmill/gristmilllaw25.OutputFiles", spec := "outputFiles", inPlace := ["internal/bytealg.abigen_runtime_cmpstring"], unfollowed := true, recurses := true, named := ["internal/strconv.uint64pow10", "math/bits.deBruijn32tab", "math/bits.deBruijn64tab"], apart := false, laid := [("math/bits.deBruijn32tab", laid_math_bits_deBruijn32tab), ("math/bits.deBruijn64tab", laid_math_bits_deBruijn64tab), ("internal/strconv.uint64pow10", laid_internal_strconv_uint64pow10)], narrowed := true }
def OutputFilesUptoSaid : Prop := outputFilesUptoRow.holds Tryd.pinned (OpenSpec.upto outputFilesSpec)

/-- 'gristmilllaw25.OutputReads', WHERE WHAT IT READS IS OF BULK AT MOST 1048576: true; the input reads as it did. -/
def outputReadsUptoRow : OpenClaim := { program := "ytjdojmjkldpgnaadoor", sum := "3edcf4f2281ce7e31a93a4ba5b140dd597f6258b4194e7360c146fbbb946c2ff", func := "gristmill/gristmilllaw25.OutputReads", spec := "outputReads", inPlace := ["internal/bytealg.abigen_runtime_cmpstring"], unfollowed := true, recurses := true, named := ["internal/strconv.uint64pow10", "math/bits.deBruijn32tab", "math/bits.deBruijn64tab"], apart := false, laid := [("math/bits.deBruijn32tab", laid_math_bits_deBruijn32tab), ("math/bits.deBruijn64tab", laid_math_bits_deBruijn64tab), ("internal/strconv.uint64pow10", laid_internal_strconv_uint64pow10)], narrowed := true }
def OutputReadsUptoSaid : Prop := outputReadsUptoRow.holds Tryd.pinned (OpenSpec.upto outputReadsSpec)

end Rows
end Go.Proofs.YtjdojmjkldpgnaaDoor
