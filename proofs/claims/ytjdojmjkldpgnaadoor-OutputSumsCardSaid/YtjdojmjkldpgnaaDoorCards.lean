/-
  DERIVED. GIVEN WITH THE SEED: THE CARDS: each row of YtjdojmjkldpgnaaDoorRows.lean that lists a variable, with what it lists TIED to the program's text (the seventh form; the later family's looks); each row that meets fmt, with fmt's text TOLD by the authors' own Lean function (tested against real Go, not proved from fmt's source: count such statements apart). THE CARD IS WHAT COUNTS. Prove the row's statement (the work); the ties are given (YtjdojmjkldpgnaaDoorTie.lean); close each card by the builder's one call (the guide's Derived/Test/ToyasCard.lean, 'card_holds'). Laid BY PROGRAM, IN A SANDBOX (cutbox-door.mjs). By AI agents, Wed Nov 11 2026. No macro, syntax, notation, axiom, sorry.
-/
import Derived.Test.YtjdojmjkldpgnaaDoorRows
import GoSem.ClaimSeven
namespace Go.Proofs.YtjdojmjkldpgnaaDoor
namespace Rows

/-- THE TIED CARD OF 'gristmilllaw23.SpillNames'. -/
def spillNamesCard : Claim7 := { stood := { row := spillNamesRow, standIns := [], harness := (true, "a2aa33d8e462a58444d33b1d42a8a38fe262aaf30f35343cfea9eb4abd440ffe"), looks := true }, kinds := [], alts := [], laidByText := true, laidKinds := [.data, .data, .data], laidTests := true, laidLooks := .later }
def SpillNamesCardSaid : Prop := Claim7.holds Tryd.pinned (.plain (OpenSpec.ofChange spillNamesSpec)) spillNamesCard

/-- THE TIED CARD OF 'gristmilllaw25.OutputSums'. -/
def outputSumsCard : Claim7 := { stood := { row := outputSumsRow, standIns := [], harness := (true, "a2aa33d8e462a58444d33b1d42a8a38fe262aaf30f35343cfea9eb4abd440ffe"), looks := true }, kinds := [], alts := [], laidByText := true, laidKinds := [.data, .data, .data], laidTests := true, laidLooks := .later }
def OutputSumsCardSaid : Prop := Claim7.holds Tryd.pinned (.plain (OpenSpec.ofChange outputSumsSpec)) outputSumsCard

/-- THE TIED CARD OF 'gristmilllaw23.SpillGets'. -/
def spillGetsCard : Claim7 := { stood := { row := spillGetsRow, standIns := [], harness := (true, "a2aa33d8e462a58444d33b1d42a8a38fe262aaf30f35343cfea9eb4abd440ffe"), looks := true }, kinds := [], alts := [], laidByText := true, laidKinds := [.data, .data, .data], laidTests := true, laidLooks := .later }
def SpillGetsCardSaid : Prop := Claim7.holds Tryd.pinned (.plain (OpenSpec.ofChange spillGetsSpec)) spillGetsCard

/-- THE TIED CARD OF 'gristmilllaw23.SpillPuts'. -/
def spillPutsCard : Claim7 := { stood := { row := spillPutsRow, standIns := [], harness := (true, "a2aa33d8e462a58444d33b1d42a8a38fe262aaf30f35343cfea9eb4abd440ffe"), looks := true }, kinds := [], alts := [], laidByText := true, laidKinds := [.data, .data, .data], laidTests := true, laidLooks := .later }
def SpillPutsCardSaid : Prop := Claim7.holds Tryd.pinned (.plain (OpenSpec.ofChange spillPutsSpec)) spillPutsCard

/-- THE TIED CARD OF 'gristmilllaw23.SpillTorn'. -/
def spillTornCard : Claim7 := { stood := { row := spillTornRow, standIns := [], harness := (true, "a2aa33d8e462a58444d33b1d42a8a38fe262aaf30f35343cfea9eb4abd440ffe"), looks := true }, kinds := [], alts := [], laidByText := true, laidKinds := [.data, .data, .data], laidTests := true, laidLooks := .later }
def SpillTornCardSaid : Prop := Claim7.holds Tryd.pinned (.plain (OpenSpec.ofChange spillTornSpec)) spillTornCard

/-- THE TIED CARD OF 'gristmilllaw25.OutputFiles'. -/
def outputFilesCard : Claim7 := { stood := { row := outputFilesRow, standIns := [], harness := (true, "a2aa33d8e462a58444d33b1d42a8a38fe262aaf30f35343cfea9eb4abd440ffe"), looks := true }, kinds := [], alts := [], laidByText := true, laidKinds := [.data, .data, .data], laidTests := true, laidLooks := .later }
def OutputFilesCardSaid : Prop := Claim7.holds Tryd.pinned (.plain (OpenSpec.ofChange outputFilesSpec)) outputFilesCard

/-- THE TIED CARD OF 'gristmilllaw25.OutputReads'. -/
def outputReadsCard : Claim7 := { stood := { row := outputReadsRow, standIns := [], harness := (true, "a2aa33d8e462a58444d33b1d42a8a38fe262aaf30f35343cfea9eb4abd440ffe"), looks := true }, kinds := [], alts := [], laidByText := true, laidKinds := [.data, .data, .data], laidTests := true, laidLooks := .later }
def OutputReadsCardSaid : Prop := Claim7.holds Tryd.pinned (.plain (OpenSpec.ofChange outputReadsSpec)) outputReadsCard

/-- THE SECOND FORM's CARD OF 'gristmilllaw23.SpillNames'. -/
def spillNamesUptoCard : Claim7 := { stood := { row := spillNamesUptoRow, standIns := [], harness := (true, "a2aa33d8e462a58444d33b1d42a8a38fe262aaf30f35343cfea9eb4abd440ffe"), looks := true }, kinds := [], alts := [], laidByText := true, laidKinds := [.data, .data, .data], laidTests := true, laidLooks := .later }
def SpillNamesUptoCardSaid : Prop := Claim7.holds Tryd.pinned (.plain (OpenSpec.upto spillNamesSpec)) spillNamesUptoCard

/-- THE SECOND FORM's CARD OF 'gristmilllaw25.OutputSums'. -/
def outputSumsUptoCard : Claim7 := { stood := { row := outputSumsUptoRow, standIns := [], harness := (true, "a2aa33d8e462a58444d33b1d42a8a38fe262aaf30f35343cfea9eb4abd440ffe"), looks := true }, kinds := [], alts := [], laidByText := true, laidKinds := [.data, .data, .data], laidTests := true, laidLooks := .later }
def OutputSumsUptoCardSaid : Prop := Claim7.holds Tryd.pinned (.plain (OpenSpec.upto outputSumsSpec)) outputSumsUptoCard

/-- THE SECOND FORM's CARD OF 'gristmilllaw23.SpillGets'. -/
def spillGetsUptoCard : Claim7 := { stood := { row := spillGetsUptoRow, standIns := [], harness := (true, "a2aa33d8e462a58444d33b1d42a8a38fe262aaf30f35343cfea9eb4abd440ffe"), looks := true }, kinds := [], alts := [], laidByText := true, laidKinds := [.data, .data, .data], laidTests := true, laidLooks := .later }
def SpillGetsUptoCardSaid : Prop := Claim7.holds Tryd.pinned (.plain (OpenSpec.upto spillGetsSpec)) spillGetsUptoCard

/-- THE SECOND FORM's CARD OF 'gristmilllaw23.SpillPuts'. -/
def spillPutsUptoCard : Claim7 := { stood := { row := spillPutsUptoRow, standIns := [], harness := (true, "a2aa33d8e462a58444d33b1d42a8a38fe262aaf30f35343cfea9eb4abd440ffe"), looks := true }, kinds := [], alts := [], laidByText := true, laidKinds := [.data, .data, .data], laidTests := true, laidLooks := .later }
def SpillPutsUptoCardSaid : Prop := Claim7.holds Tryd.pinned (.plain (OpenSpec.upto spillPutsSpec)) spillPutsUptoCard

/-- THE SECOND FORM's CARD OF 'gristmilllaw23.SpillTorn'. -/
def spillTornUptoCard : Claim7 := { stood := { row := spillTornUptoRow, standIns := [], harness := (true, "a2aa33d8e462a58444d33b1d42a8a38fe262aaf30f35343cfea9eb4abd440ffe"), looks := true }, kinds := [], alts := [], laidByText := true, laidKinds := [.data, .data, .data], laidTests := true, laidLooks := .later }
def SpillTornUptoCardSaid : Prop := Claim7.holds Tryd.pinned (.plain (OpenSpec.upto spillTornSpec)) spillTornUptoCard

/-- THE SECOND FORM's CARD OF 'gristmilllaw25.OutputFiles'. -/
def outputFilesUptoCard : Claim7 := { stood := { row := outputFilesUptoRow, standIns := [], harness := (true, "a2aa33d8e462a58444d33b1d42a8a38fe262aaf30f35343cfea9eb4abd440ffe"), looks := true }, kinds := [], alts := [], laidByText := true, laidKinds := [.data, .data, .data], laidTests := true, laidLooks := .later }
def OutputFilesUptoCardSaid : Prop := Claim7.holds Tryd.pinned (.plain (OpenSpec.upto outputFilesSpec)) outputFilesUptoCard

/-- THE SECOND FORM's CARD OF 'gristmilllaw25.OutputReads'. -/
def outputReadsUptoCard : Claim7 := { stood := { row := outputReadsUptoRow, standIns := [], harness := (true, "a2aa33d8e462a58444d33b1d42a8a38fe262aaf30f35343cfea9eb4abd440ffe"), looks := true }, kinds := [], alts := [], laidByText := true, laidKinds := [.data, .data, .data], laidTests := true, laidLooks := .later }
def OutputReadsUptoCardSaid : Prop := Claim7.holds Tryd.pinned (.plain (OpenSpec.upto outputReadsSpec)) outputReadsUptoCard
end Rows
end Go.Proofs.YtjdojmjkldpgnaaDoor
