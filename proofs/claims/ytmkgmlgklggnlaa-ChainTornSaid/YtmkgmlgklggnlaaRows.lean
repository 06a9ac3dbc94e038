/-
  No cell of these rows narrows 'for every input' (looked for: loops, veiled, ifaces, maps, wideKeys, modest, calm, conditions, laid).
  DERIVED. THE GIVEN ROWS OF THIS SEAT. 12 by the template 'for every input the law returns true; each argument reads behind the call as it read before'; 0 by the template 'total and deterministic' (their statements: YtmkgmlgklggnlaaTotals.lean).
  GIVEN WITH THE SEED: the statements are not yours to turn. If you find one false, say at which input.
  Laid BY PROGRAM, IN A SANDBOX (cutbox-rows.mjs): the forced cells as the released guide's own fill.sh prints them over the translation aa480d6470a2ab5e… (all of the seat's roots in one cut). By AI agents, Wed Nov 11 2026. No macro, syntax, notation, axiom, sorry.
-/
import Derived.Test.YtmkgmlgklggnlaaChecked
import GoSem.Claim
import GoSem.ClaimJoined
import GoSem.ClaimMapViews
import Derived.JoinedTies
import Derived.KernelRfl
namespace Go.Proofs.Ytmkgmlgklggnlaa
/- THE CELL 'sum', in the pinned program and in every row, IS THE sha256 OF THE DUMP (.gsa) THAT YtmkgmlgklggnlaaProg.lean LOADS. Nothing in Lean hashes anything: it is a label: what it is worth is what the hold of that sum in a sandbox is worth. -/
noncomputable def Try.pinned : Pinned := { name := "ytmkgmlgklggnlaa", sum := "aa480d6470a2ab5e823ecba5806fc70dd908c051329650ad7d61f4acd07462d7", checked := Try.checked }
namespace Rows
def none {H : Type} : Left H := { results := [], args := [] }

/-- 'gristmilllaw20.ChainGets': WHATEVER THE INPUT: true; the input reads as it did. -/
def chainGetsSpec : ChangeSpec := { name := "chainGets", fn := fun _ => fun
  | [d] => { results := [.lit (.bool true)], args := [d] }
  | _ => none }
def chainGetsRow : OpenClaim := { program := "ytmkgmlgklggnlaa", sum := "aa480d6470a2ab5e823ecba5806fc70dd908c051329650ad7d61f4acd07462d7", func := "gristmill/gristmilllaw20.ChainGets", spec := "chainGets", apart := false }
def ChainGetsSaid : Prop := chainGetsRow.holds Try.pinned (OpenSpec.ofChange chainGetsSpec)

/-- ITS FALSE NEIGHBOUR: 'it returns false'. Refute it at one input. -/
def chainGetsWrong : ChangeSpec := { name := "chainGets", fn := fun _ => fun
  | [d] => { results := [.lit (.bool false)], args := [d] }
  | _ => none }
def ChainGetsWrongFalsely : Prop := chainGetsRow.holds Try.pinned (OpenSpec.ofChange chainGetsWrong)

/-- 'gristmilllaw20.ChainPuts': WHATEVER THE INPUT: true; the input reads as it did. -/
def chainPutsSpec : ChangeSpec := { name := "chainPuts", fn := fun _ => fun
  | [d1, d2] => { results := [.lit (.bool true)], args := [d1, d2] }
  | _ => none }
def chainPutsRow : OpenClaim := { program := "ytmkgmlgklggnlaa", sum := "aa480d6470a2ab5e823ecba5806fc70dd908c051329650ad7d61f4acd07462d7", func := "gristmill/gristmilllaw20.ChainPuts", spec := "chainPuts", apart := false }
def ChainPutsSaid : Prop := chainPutsRow.holds Try.pinned (OpenSpec.ofChange chainPutsSpec)

/-- ITS FALSE NEIGHBOUR: 'it returns false'. Refute it at one input. -/
def chainPutsWrong : ChangeSpec := { name := "chainPuts", fn := fun _ => fun
  | [d1, d2] => { results := [.lit (.bool false)], args := [d1, d2] }
  | _ => none }
def ChainPutsWrongFalsely : Prop := chainPutsRow.holds Try.pinned (OpenSpec.ofChange chainPutsWrong)

/-- 'gristmilllaw19.ShaRounds': WHATEVER THE INPUT: true; the input reads as it did. -/
def shaRoundsSpec : ChangeSpec := { name := "shaRounds", fn := fun _ => fun
  | [d1, d2] => { results := [.lit (.bool true)], args := [d1, d2] }
  | _ => none }
def shaRoundsRow : OpenClaim := { program := "ytmkgmlgklggnlaa", sum := "aa480d6470a2ab5e823ecba5806fc70dd908c051329650ad7d61f4acd07462d7", func := "gristmill/gristmilllaw19.ShaRounds", spec := "shaRounds", recurses := true, apart := false }
def ShaRoundsSaid : Prop := shaRoundsRow.holds Try.pinned (OpenSpec.ofChange shaRoundsSpec)

/-- ITS FALSE NEIGHBOUR: 'it returns false'. Refute it at one input. -/
def shaRoundsWrong : ChangeSpec := { name := "shaRounds", fn := fun _ => fun
  | [d1, d2] => { results := [.lit (.bool false)], args := [d1, d2] }
  | _ => none }
def ShaRoundsWrongFalsely : Prop := shaRoundsRow.holds Try.pinned (OpenSpec.ofChange shaRoundsWrong)

/-- 'gristmilllaw19.ShaSums': WHATEVER THE INPUT: true; the input reads as it did. -/
def shaSumsSpec : ChangeSpec := { name := "shaSums", fn := fun _ => fun
  | [d1, d2] => { results := [.lit (.bool true)], args := [d1, d2] }
  | _ => none }
def shaSumsRow : OpenClaim := { program := "ytmkgmlgklggnlaa", sum := "aa480d6470a2ab5e823ecba5806fc70dd908c051329650ad7d61f4acd07462d7", func := "gristmill/gristmilllaw19.ShaSums", spec := "shaSums", recurses := true, apart := false }
def ShaSumsSaid : Prop := shaSumsRow.holds Try.pinned (OpenSpec.ofChange shaSumsSpec)

/-- ITS FALSE NEIGHBOUR: 'it returns false'. Refute it at one input. -/
def shaSumsWrong : ChangeSpec := { name := "shaSums", fn := fun _ => fun
  | [d1, d2] => { results := [.lit (.bool false)], args := [d1, d2] }
  | _ => none }
def ShaSumsWrongFalsely : Prop := shaSumsRow.holds Try.pinned (OpenSpec.ofChange shaSumsWrong)

/-- 'gristmilllaw19.ShaTexts': WHATEVER THE INPUT: true; the input reads as it did. -/
def shaTextsSpec : ChangeSpec := { name := "shaTexts", fn := fun _ => fun
  | [d1, d2] => { results := [.lit (.bool true)], args := [d1, d2] }
  | _ => none }
def shaTextsRow : OpenClaim := { program := "ytmkgmlgklggnlaa", sum := "aa480d6470a2ab5e823ecba5806fc70dd908c051329650ad7d61f4acd07462d7", func := "gristmill/gristmilllaw19.ShaTexts", spec := "shaTexts", recurses := true, apart := false }
def ShaTextsSaid : Prop := shaTextsRow.holds Try.pinned (OpenSpec.ofChange shaTextsSpec)

/-- ITS FALSE NEIGHBOUR: 'it returns false'. Refute it at one input. -/
def shaTextsWrong : ChangeSpec := { name := "shaTexts", fn := fun _ => fun
  | [d1, d2] => { results := [.lit (.bool false)], args := [d1, d2] }
  | _ => none }
def ShaTextsWrongFalsely : Prop := shaTextsRow.holds Try.pinned (OpenSpec.ofChange shaTextsWrong)

/-- 'gristmilllaw03.FrameGets': WHATEVER THE INPUT: true; the input reads as it did. -/
def frameGetsSpec : ChangeSpec := { name := "frameGets", fn := fun _ => fun
  | [d1, d2] => { results := [.lit (.bool true)], args := [d1, d2] }
  | _ => none }
def frameGetsRow : OpenClaim := { program := "ytmkgmlgklggnlaa", sum := "aa480d6470a2ab5e823ecba5806fc70dd908c051329650ad7d61f4acd07462d7", func := "gristmill/gristmilllaw03.FrameGets", spec := "frameGets", unfollowed := true, recurses := true, apart := false }
def FrameGetsSaid : Prop := frameGetsRow.holds Try.pinned (OpenSpec.ofChange frameGetsSpec)

/-- ITS FALSE NEIGHBOUR: 'it returns false'. Refute it at one input. -/
def frameGetsWrong : ChangeSpec := { name := "frameGets", fn := fun _ => fun
  | [d1, d2] => { results := [.lit (.bool false)], args := [d1, d2] }
  | _ => none }
def FrameGetsWrongFalsely : Prop := frameGetsRow.holds Try.pinned (OpenSpec.ofChange frameGetsWrong)

/-- 'gristmilllaw03.FrameTorn': WHATEVER THE INPUT: true; the input reads as it did. -/
def frameTornSpec : ChangeSpec := { name := "frameTorn", fn := fun _ => fun
  | [d1, d2] => { results := [.lit (.bool true)], args := [d1, d2] }
  | _ => none }
def frameTornRow : OpenClaim := { program := "ytmkgmlgklggnlaa", sum := "aa480d6470a2ab5e823ecba5806fc70dd908c051329650ad7d61f4acd07462d7", func := "gristmill/gristmilllaw03.FrameTorn", spec := "frameTorn", unfollowed := true, recurses := true, apart := false }
def FrameTornSaid : Prop := frameTornRow.holds Try.pinned (OpenSpec.ofChange frameTornSpec)

/-- ITS FALSE NEIGHBOUR: 'it returns false'. Refute it at one input. -/
def frameTornWrong : ChangeSpec := { name := "frameTorn", fn := fun _ => fun
  | [d1, d2] => { results := [.lit (.bool false)], args := [d1, d2] }
  | _ => none }
def FrameTornWrongFalsely : Prop := frameTornRow.holds Try.pinned (OpenSpec.ofChange frameTornWrong)

/-- 'gristmilllaw03.FramePuts': WHATEVER THE INPUT: true; the input reads as it did. -/
def framePutsSpec : ChangeSpec := { name := "framePuts", fn := fun _ => fun
  | [d1, d2, d3] => { results := [.lit (.bool true)], args := [d1, d2, d3] }
  | _ => none }
def framePutsRow : OpenClaim := { program := "ytmkgmlgklggnlaa", sum := "aa480d6470a2ab5e823ecba5806fc70dd908c051329650ad7d61f4acd07462d7", func := "gristmill/gristmilllaw03.FramePuts", spec := "framePuts", unfollowed := true, recurses := true, apart := false }
def FramePutsSaid : Prop := framePutsRow.holds Try.pinned (OpenSpec.ofChange framePutsSpec)

/-- ITS FALSE NEIGHBOUR: 'it returns false'. Refute it at one input. -/
def framePutsWrong : ChangeSpec := { name := "framePuts", fn := fun _ => fun
  | [d1, d2, d3] => { results := [.lit (.bool false)], args := [d1, d2, d3] }
  | _ => none }
def FramePutsWrongFalsely : Prop := framePutsRow.holds Try.pinned (OpenSpec.ofChange framePutsWrong)

/-- 'gristmilllaw03.FrameSizes': WHATEVER THE INPUT: true; the input reads as it did. -/
def frameSizesSpec : ChangeSpec := { name := "frameSizes", fn := fun _ => fun
  | [d1, d2] => { results := [.lit (.bool true)], args := [d1, d2] }
  | _ => none }
def frameSizesRow : OpenClaim := { program := "ytmkgmlgklggnlaa", sum := "aa480d6470a2ab5e823ecba5806fc70dd908c051329650ad7d61f4acd07462d7", func := "gristmill/gristmilllaw03.FrameSizes", spec := "frameSizes", unfollowed := true, recurses := true, apart := false }
def FrameSizesSaid : Prop := frameSizesRow.holds Try.pinned (OpenSpec.ofChange frameSizesSpec)

/-- ITS FALSE NEIGHBOUR: 'it returns false'. Refute it at one input. -/
def frameSizesWrong : ChangeSpec := { name := "frameSizes", fn := fun _ => fun
  | [d1, d2] => { results := [.lit (.bool false)], args := [d1, d2] }
  | _ => none }
def FrameSizesWrongFalsely : Prop := frameSizesRow.holds Try.pinned (OpenSpec.ofChange frameSizesWrong)

/-- 'gristmilllaw20.ChainHeads': WHATEVER THE INPUT: true; the input reads as it did. -/
def chainHeadsSpec : ChangeSpec := { name := "chainHeads", fn := fun _ => fun
  | [d1, d2, d3, d4] => { results := [.lit (.bool true)], args := [d1, d2, d3, d4] }
  | _ => none }
def chainHeadsRow : OpenClaim := { program := "ytmkgmlgklggnlaa", sum := "aa480d6470a2ab5e823ecba5806fc70dd908c051329650ad7d61f4acd07462d7", func := "gristmill/gristmilllaw20.ChainHeads", spec := "chainHeads", recurses := true, apart := false }
def ChainHeadsSaid : Prop := chainHeadsRow.holds Try.pinned (OpenSpec.ofChange chainHeadsSpec)

/-- ITS FALSE NEIGHBOUR: 'it returns false'. Refute it at one input. -/
def chainHeadsWrong : ChangeSpec := { name := "chainHeads", fn := fun _ => fun
  | [d1, d2, d3, d4] => { results := [.lit (.bool false)], args := [d1, d2, d3, d4] }
  | _ => none }
def ChainHeadsWrongFalsely : Prop := chainHeadsRow.holds Try.pinned (OpenSpec.ofChange chainHeadsWrong)

/-- 'gristmilllaw20.ChainReads': WHATEVER THE INPUT: true; the input reads as it did. -/
def chainReadsSpec : ChangeSpec := { name := "chainReads", fn := fun _ => fun
  | [d1, d2] => { results := [.lit (.bool true)], args := [d1, d2] }
  | _ => none }
def chainReadsRow : OpenClaim := { program := "ytmkgmlgklggnlaa", sum := "aa480d6470a2ab5e823ecba5806fc70dd908c051329650ad7d61f4acd07462d7", func := "gristmill/gristmilllaw20.ChainReads", spec := "chainReads", unfollowed := true, recurses := true, apart := false }
def ChainReadsSaid : Prop := chainReadsRow.holds Try.pinned (OpenSpec.ofChange chainReadsSpec)

/-- ITS FALSE NEIGHBOUR: 'it returns false'. Refute it at one input. -/
def chainReadsWrong : ChangeSpec := { name := "chainReads", fn := fun _ => fun
  | [d1, d2] => { results := [.lit (.bool false)], args := [d1, d2] }
  | _ => none }
def ChainReadsWrongFalsely : Prop := chainReadsRow.holds Try.pinned (OpenSpec.ofChange chainReadsWrong)

/-- 'gristmilllaw20.ChainTorn': WHATEVER THE INPUT: true; the input reads as it did. -/
def chainTornSpec : ChangeSpec := { name := "chainTorn", fn := fun _ => fun
  | [d1, d2, d3] => { results := [.lit (.bool true)], args := [d1, d2, d3] }
  | _ => none }
def chainTornRow : OpenClaim := { program := "ytmkgmlgklggnlaa", sum := "aa480d6470a2ab5e823ecba5806fc70dd908c051329650ad7d61f4acd07462d7", func := "gristmill/gristmilllaw20.ChainTorn", spec := "chainTorn", unfollowed := true, recurses := true, apart := false }
def ChainTornSaid : Prop := chainTornRow.holds Try.pinned (OpenSpec.ofChange chainTornSpec)

/-- ITS FALSE NEIGHBOUR: 'it returns false'. Refute it at one input. -/
def chainTornWrong : ChangeSpec := { name := "chainTorn", fn := fun _ => fun
  | [d1, d2, d3] => { results := [.lit (.bool false)], args := [d1, d2, d3] }
  | _ => none }
def ChainTornWrongFalsely : Prop := chainTornRow.holds Try.pinned (OpenSpec.ofChange chainTornWrong)

/- THE SECOND FORM. 'bulk': how many values and letters a reading holds, each counted each time it is reached (what is shared counts as often as it is met; a slice's spare places count too). A statement '..UptoSaid' is the law's where the arguments, and the package variables that the reading takes, are together of bulk at most 1048576: NARROWER than '..Said'. Prove '..Said' where nothing that the law and all that it calls make is longer than what came in: it says more and counts as full. Else prove '..UptoSaid'. A law counts once. -/
mutual
def uptoBulk {H : Type} : DataW H → Nat
  | .lit (.string bytes) => bytes.length + 1
  | .lit _ => 1
  | .nil => 1
  | .ptr d => uptoBulk d + 1
  | .slice elems spare => uptoBulkAll elems + uptoBulkAll spare + 1
  | .agg parts => uptoBulkAll parts + 1
  | .iface _ d => uptoBulk d + 1
  | .map entries => uptoBulkEntries entries + 1
  | .held _ => 1
def uptoBulkAll {H : Type} : List (DataW H) → Nat
  | [] => 0
  | d :: r => uptoBulk d + uptoBulkAll r
def uptoBulkEntries {H : Type} : List (Lit × DataW H) → Nat
  | [] => 0
  | x :: r => uptoBulkEntry x + uptoBulkEntries r
def uptoBulkEntry {H : Type} : Lit × DataW H → Nat
  | (.string bytes, d) => bytes.length + uptoBulk d + 1
  | (_, d) => uptoBulk d + 1
 end
def uptoSmall : (H : Type) → List (DataW H) → Bool := fun _ ds => decide (uptoBulkAll ds ≤ 1048576)
def OpenSpec.upto (s : _root_.Go.ChangeSpec) : _root_.Go.OpenSpec := { _root_.Go.OpenSpec.ofChange s with cond := some uptoSmall }

/-- 'gristmilllaw20.ChainGets', WHERE WHAT IT READS IS OF BULK AT MOST 1048576: true; the input reads as it did. -/
def chainGetsUptoRow : OpenClaim := { program := "ytmkgmlgklggnlaa", sum := "aa480d6470a2ab5e823ecba5806fc70dd908c051329650ad7d61f4acd07462d7", func := "gristmill/gristmilllaw20.ChainGets", spec := "chainGets", apart := false, narrowed := true }
def ChainGetsUptoSaid : Prop := chainGetsUptoRow.holds Try.pinned (OpenSpec.upto chainGetsSpec)

/-- 'gristmilllaw20.ChainPuts', WHERE WHAT IT READS IS OF BULK AT MOST 1048576: true; the input reads as it did. -/
def chainPutsUptoRow : OpenClaim := { program := "ytmkgmlgklggnlaa", sum := "aa480d6470a2ab5e823ecba5806fc70dd908c051329650ad7d61f4acd07462d7", func := "gristmill/gristmilllaw20.ChainPuts", spec := "chainPuts", apart := false, narrowed := true }
def ChainPutsUptoSaid : Prop := chainPutsUptoRow.holds Try.pinned (OpenSpec.upto chainPutsSpec)

/-- 'gristmilllaw19.ShaRounds', WHERE WHAT IT READS IS OF BULK AT MOST 1048576: true; the input reads as it did. -/
def shaRoundsUptoRow : OpenClaim := { program := "ytmkgmlgklggnlaa", sum := "aa480d6470a2ab5e823ecba5806fc70dd908c051329650ad7d61f4acd07462d7", func := "gristmill/gristmilllaw19.ShaRounds", spec := "shaRounds", recurses := true, apart := false, narrowed := true }
def ShaRoundsUptoSaid : Prop := shaRoundsUptoRow.holds Try.pinned (OpenSpec.upto shaRoundsSpec)

/-- 'gristmilllaw19.ShaSums', WHERE WHAT IT READS IS OF BULK AT MOST 1048576: true; the input reads as it did. -/
def shaSumsUptoRow : OpenClaim := { program := "ytmkgmlgklggnlaa", sum := "aa480d6470a2ab5e823ecba5806fc70dd908c051329650ad7d61f4acd07462d7", func := "gristmill/gristmilllaw19.ShaSums", spec := "shaSums", recurses := true, apart := false, narrowed := true }
def ShaSumsUptoSaid : Prop := shaSumsUptoRow.holds Try.pinned (OpenSpec.upto shaSumsSpec)

/-- 'gristmilllaw19.ShaTexts', WHERE WHAT IT READS IS OF BULK AT MOST 1048576: true; the input reads as it did. -/
def shaTextsUptoRow : OpenClaim := { program := "ytmkgmlgklggnlaa", sum := "aa480d6470a2ab5e823ecba5806fc70dd908c051329650ad7d61f4acd07462d7", func := "gristmill/gristmilllaw19.ShaTexts", spec := "shaTexts", recurses := true, apart := false, narrowed := true }
def ShaTextsUptoSaid : Prop := shaTextsUptoRow.holds Try.pinned (OpenSpec.upto shaTextsSpec)

/-- 'gristmilllaw03.FrameGets', WHERE WHAT IT READS IS OF BULK AT MOST 1048576: true; the input reads as it did. -/
def frameGetsUptoRow : OpenClaim := { program := "ytmkgmlgklggnlaa", sum := "aa480d6470a2ab5e823ecba5806fc70dd908c051329650ad7d61f4acd07462d7", func := "gristmill/gristmilllaw03.FrameGets", spec := "frameGets", unfollowed := true, recurses := true, apart := false, narrowed := true }
def FrameGetsUptoSaid : Prop := frameGetsUptoRow.holds Try.pinned (OpenSpec.upto frameGetsSpec)

/-- 'gristmilllaw03.FrameTorn', WHERE WHAT IT READS IS OF BULK AT MOST 1048576: true; the input reads as it did. -/
def frameTornUptoRow : OpenClaim := { program := "ytmkgmlgklggnlaa", sum := "aa480d6470a2ab5e823ecba5806fc70dd908c051329650ad7d61f4acd07462d7", func := "gristmill/gristmilllaw03.FrameTorn", spec := "frameTorn", unfollowed := true, recurses := true, apart := false, narrowed := true }
def FrameTornUptoSaid : Prop := frameTornUptoRow.holds Try.pinned (OpenSpec.upto frameTornSpec)

/-- 'gristmilllaw03.FramePuts', WHERE WHAT IT READS IS OF BULK AT MOST 1048576: true; the input reads as it did. -/
def framePutsUptoRow : OpenClaim := { program := "ytmkgmlgklggnlaa", sum := "aa480d6470a2ab5e823ecba5806fc70dd908c051329650ad7d61f4acd07462d7", func := "gristmill/gristmilllaw03.FramePuts", spec := "framePuts", unfollowed := true, recurses := true, apart := false, narrowed := true }
def FramePutsUptoSaid : Prop := framePutsUptoRow.holds Try.pinned (OpenSpec.upto framePutsSpec)

/-- 'gristmilllaw03.FrameSizes', WHERE WHAT IT READS IS OF BULK AT MOST 1048576: true; the input reads as it did. -/
def frameSizesUptoRow : OpenClaim := { program := "ytmkgmlgklggnlaa", sum := "aa480d6470a2ab5e823ecba5806fc70dd908c051329650ad7d61f4acd07462d7", func := "gristmill/gristmilllaw03.FrameSizes", spec := "frameSizes", unfollowed := true, recurses := true, apart := false, narrowed := true }
def FrameSizesUptoSaid : Prop := frameSizesUptoRow.holds Try.pinned (OpenSpec.upto frameSizesSpec)

/-- 'gristmilllaw20.ChainHeads', WHERE WHAT IT READS IS OF BULK AT MOST 1048576: true; the input reads as it did. -/
def chainHeadsUptoRow : OpenClaim := { program := "ytmkgmlgklggnlaa", sum := "aa480d6470a2ab5e823ecba5806fc70dd908c051329650ad7d61f4acd07462d7", func := "gristmill/gristmilllaw20.ChainHeads", spec := "chainHeads", recurses := true, apart := false, narrowed := true }
def ChainHeadsUptoSaid : Prop := chainHeadsUptoRow.holds Try.pinned (OpenSpec.upto chainHeadsSpec)

/-- 'gristmilllaw20.ChainReads', WHERE WHAT IT READS IS OF BULK AT MOST 1048576: true; the input reads as it did. -/
def chainReadsUptoRow : OpenClaim := { program := "ytmkgmlgklggnlaa", sum := "aa480d6470a2ab5e823ecba5806fc70dd908c051329650ad7d61f4acd07462d7", func := "gristmill/gristmilllaw20.ChainReads", spec := "chainReads", unfollowed := true, recurses := true, apart := false, narrowed := true }
def ChainReadsUptoSaid : Prop := chainReadsUptoRow.holds Try.pinned (OpenSpec.upto chainReadsSpec)

/-- 'gristmilllaw20.ChainTorn', WHERE WHAT IT READS IS OF BULK AT MOST 1048576: true; the input reads as it did. -/
def chainTornUptoRow : OpenClaim := { program := "ytmkgmlgklggnlaa", sum := "aa480d6470a2ab5e823ecba5806fc70dd908c051329650ad7d61f4acd07462d7", func := "gristmill/gristmilllaw20.ChainTorn", spec := "chainTorn", unfollowed := true, recurses := true, apart := false, narrowed := true }
def ChainTornUptoSaid : Prop := chainTornUptoRow.holds Try.pinned (OpenSpec.upto chainTornSpec)

end Rows
end Go.Proofs.Ytmkgmlgklggnlaa
