/-
  DERIVED. GIVEN WITH THE SEED: THE CARDS: each row of YtlhinklnnjbmpaaDoorRows.lean that lists a variable, with what it lists TIED to the program's text (the seventh form; the later family's looks); each row that meets fmt, with fmt's text TOLD by the authors' own Lean function (tested against real Go, not proved from fmt's source: count such statements apart). THE CARD IS WHAT COUNTS. Prove the row's statement (the work); the ties are given (YtlhinklnnjbmpaaDoorTie.lean); close each card by the builder's one call (the guide's Derived/Test/ToyasCard.lean, 'card_holds'). Laid BY PROGRAM, IN A SANDBOX (cutbox-door.mjs). By AI agents, Wed Nov 11 2026. No macro, syntax, notation, axiom, sorry.
-/
import Derived.Test.YtlhinklnnjbmpaaDoorRows
import GoSem.ClaimSeven
namespace Go.Proofs.YtlhinklnnjbmpaaDoor
namespace Rows

/-- THE TIED CARD OF 'cisternlaw02.VarintWrites'. -/
def varintWritesCard : Claim7 := { stood := { row := varintWritesRow, standIns := [], harness := (true, "bc1215c55e732bf11fb063fc1d7665aab31772997f12b9adf9f5bbcfa40cfefa"), looks := true }, kinds := [], alts := [], laidByText := true, laidKinds := [.data, .data, .data, .sentinel, .sentinel], laidTests := true, laidLooks := .later }
def VarintWritesCardSaid : Prop := Claim7.holds Tryd.pinned (.plain (OpenSpec.ofChange varintWritesSpec)) varintWritesCard

/-- THE TIED CARD OF 'cisternlaw02.VarintWriter'. -/
def varintWriterCard : Claim7 := { stood := { row := varintWriterRow, standIns := [], harness := (true, "bc1215c55e732bf11fb063fc1d7665aab31772997f12b9adf9f5bbcfa40cfefa"), looks := true }, kinds := [], alts := [], laidByText := true, laidKinds := [.data, .data, .data, .sentinel, .sentinel], laidTests := true, laidLooks := .later }
def VarintWriterCardSaid : Prop := Claim7.holds Tryd.pinned (.plain (OpenSpec.ofChange varintWriterSpec)) varintWriterCard

/-- THE TIED CARD OF 'cisternlaw02.VarintReads'. -/
def varintReadsCard : Claim7 := { stood := { row := varintReadsRow, standIns := [], harness := (true, "bc1215c55e732bf11fb063fc1d7665aab31772997f12b9adf9f5bbcfa40cfefa"), looks := true }, kinds := [], alts := [], laidByText := true, laidKinds := [.data, .data, .data, .sentinel, .sentinel], laidTests := true, laidLooks := .later }
def VarintReadsCardSaid : Prop := Claim7.holds Tryd.pinned (.plain (OpenSpec.ofChange varintReadsSpec)) varintReadsCard

/-- THE TIED CARD OF 'cisternlaw02.VarintBack'. -/
def varintBackCard : Claim7 := { stood := { row := varintBackRow, standIns := [], harness := (true, "bc1215c55e732bf11fb063fc1d7665aab31772997f12b9adf9f5bbcfa40cfefa"), looks := true }, kinds := [], alts := [], laidByText := true, laidKinds := [.data, .data, .data, .sentinel, .sentinel], laidTests := true, laidLooks := .later }
def VarintBackCardSaid : Prop := Claim7.holds Tryd.pinned (.plain (OpenSpec.ofChange varintBackSpec)) varintBackCard

/-- THE TIED CARD OF 'cisternlaw02.VarintForth'. -/
def varintForthCard : Claim7 := { stood := { row := varintForthRow, standIns := [], harness := (true, "bc1215c55e732bf11fb063fc1d7665aab31772997f12b9adf9f5bbcfa40cfefa"), looks := true }, kinds := [], alts := [], laidByText := true, laidKinds := [.data, .data, .data, .sentinel, .sentinel], laidTests := true, laidLooks := .later }
def VarintForthCardSaid : Prop := Claim7.holds Tryd.pinned (.plain (OpenSpec.ofChange varintForthSpec)) varintForthCard

/-- THE TIED CARD OF 'cisternlaw02.VarintThrough'. -/
def varintThroughCard : Claim7 := { stood := { row := varintThroughRow, standIns := [], harness := (true, "bc1215c55e732bf11fb063fc1d7665aab31772997f12b9adf9f5bbcfa40cfefa"), looks := true }, kinds := [], alts := [], laidByText := true, laidKinds := [.data, .data, .data, .sentinel, .sentinel], laidTests := true, laidLooks := .later }
def VarintThroughCardSaid : Prop := Claim7.holds Tryd.pinned (.plain (OpenSpec.ofChange varintThroughSpec)) varintThroughCard

/-- THE TIED CARD OF 'cisternlaw02.VarintReader'. -/
def varintReaderCard : Claim7 := { stood := { row := varintReaderRow, standIns := [], harness := (true, "bc1215c55e732bf11fb063fc1d7665aab31772997f12b9adf9f5bbcfa40cfefa"), looks := true }, kinds := [], alts := [], laidByText := true, laidKinds := [.data, .data, .data, .sentinel, .sentinel], laidTests := true, laidLooks := .later }
def VarintReaderCardSaid : Prop := Claim7.holds Tryd.pinned (.plain (OpenSpec.ofChange varintReaderSpec)) varintReaderCard

/-- THE SECOND FORM's CARD OF 'cisternlaw02.VarintWrites'. -/
def varintWritesUptoCard : Claim7 := { stood := { row := varintWritesUptoRow, standIns := [], harness := (true, "bc1215c55e732bf11fb063fc1d7665aab31772997f12b9adf9f5bbcfa40cfefa"), looks := true }, kinds := [], alts := [], laidByText := true, laidKinds := [.data, .data, .data, .sentinel, .sentinel], laidTests := true, laidLooks := .later }
def VarintWritesUptoCardSaid : Prop := Claim7.holds Tryd.pinned (.plain (OpenSpec.upto varintWritesSpec)) varintWritesUptoCard

/-- THE SECOND FORM's CARD OF 'cisternlaw02.VarintWriter'. -/
def varintWriterUptoCard : Claim7 := { stood := { row := varintWriterUptoRow, standIns := [], harness := (true, "bc1215c55e732bf11fb063fc1d7665aab31772997f12b9adf9f5bbcfa40cfefa"), looks := true }, kinds := [], alts := [], laidByText := true, laidKinds := [.data, .data, .data, .sentinel, .sentinel], laidTests := true, laidLooks := .later }
def VarintWriterUptoCardSaid : Prop := Claim7.holds Tryd.pinned (.plain (OpenSpec.upto varintWriterSpec)) varintWriterUptoCard

/-- THE SECOND FORM's CARD OF 'cisternlaw02.VarintReads'. -/
def varintReadsUptoCard : Claim7 := { stood := { row := varintReadsUptoRow, standIns := [], harness := (true, "bc1215c55e732bf11fb063fc1d7665aab31772997f12b9adf9f5bbcfa40cfefa"), looks := true }, kinds := [], alts := [], laidByText := true, laidKinds := [.data, .data, .data, .sentinel, .sentinel], laidTests := true, laidLooks := .later }
def VarintReadsUptoCardSaid : Prop := Claim7.holds Tryd.pinned (.plain (OpenSpec.upto varintReadsSpec)) varintReadsUptoCard

/-- THE SECOND FORM's CARD OF 'cisternlaw02.VarintBack'. -/
def varintBackUptoCard : Claim7 := { stood := { row := varintBackUptoRow, standIns := [], harness := (true, "bc1215c55e732bf11fb063fc1d7665aab31772997f12b9adf9f5bbcfa40cfefa"), looks := true }, kinds := [], alts := [], laidByText := true, laidKinds := [.data, .data, .data, .sentinel, .sentinel], laidTests := true, laidLooks := .later }
def VarintBackUptoCardSaid : Prop := Claim7.holds Tryd.pinned (.plain (OpenSpec.upto varintBackSpec)) varintBackUptoCard

/-- THE SECOND FORM's CARD OF 'cisternlaw02.VarintForth'. -/
def varintForthUptoCard : Claim7 := { stood := { row := varintForthUptoRow, standIns := [], harness := (true, "bc1215c55e732bf11fb063fc1d7665aab31772997f12b9adf9f5bbcfa40cfefa"), looks := true }, kinds := [], alts := [], laidByText := true, laidKinds := [.data, .data, .data, .sentinel, .sentinel], laidTests := true, laidLooks := .later }
def VarintForthUptoCardSaid : Prop := Claim7.holds Tryd.pinned (.plain (OpenSpec.upto varintForthSpec)) varintForthUptoCard

/-- THE SECOND FORM's CARD OF 'cisternlaw02.VarintThrough'. -/
def varintThroughUptoCard : Claim7 := { stood := { row := varintThroughUptoRow, standIns := [], harness := (true, "bc1215c55e732bf11fb063fc1d7665aab31772997f12b9adf9f5bbcfa40cfefa"), looks := true }, kinds := [], alts := [], laidByText := true, laidKinds := [.data, .data, .data, .sentinel, .sentinel], laidTests := true, laidLooks := .later }
def VarintThroughUptoCardSaid : Prop := Claim7.holds Tryd.pinned (.plain (OpenSpec.upto varintThroughSpec)) varintThroughUptoCard

/-- THE SECOND FORM's CARD OF 'cisternlaw02.VarintReader'. -/
def varintReaderUptoCard : Claim7 := { stood := { row := varintReaderUptoRow, standIns := [], harness := (true, "bc1215c55e732bf11fb063fc1d7665aab31772997f12b9adf9f5bbcfa40cfefa"), looks := true }, kinds := [], alts := [], laidByText := true, laidKinds := [.data, .data, .data, .sentinel, .sentinel], laidTests := true, laidLooks := .later }
def VarintReaderUptoCardSaid : Prop := Claim7.holds Tryd.pinned (.plain (OpenSpec.upto varintReaderSpec)) varintReaderUptoCard
end Rows
end Go.Proofs.YtlhinklnnjbmpaaDoor
