/-
  DERIVED. GIVEN WITH THE SEED: THE CARDS: each row of YtjgmkimekipgmaaGreatDoorRows.lean that lists a variable, with what it lists TIED to the program's text (the seventh form; the later family's looks); each row that meets fmt, with fmt's text TOLD by the authors' own Lean function (tested against real Go, not proved from fmt's source: count such statements apart). THE CARD IS WHAT COUNTS. Prove the row's statement (the work); the ties are given (YtjgmkimekipgmaaGreatDoorTie.lean); close each card by the builder's one call (the guide's Derived/Test/ToyasCard.lean, 'card_holds'). Laid BY PROGRAM, IN A SANDBOX (cutbox-door.mjs). By AI agents, Wed Nov 11 2026. No macro, syntax, notation, axiom, sorry.
-/
import Derived.Test.YtjgmkimekipgmaaGreatDoorRows
import GoSem.ClaimSeven
namespace Go.Proofs.YtjgmkimekipgmaaGreatDoor
namespace Rows

/-- THE TIED CARD OF 'threshinglaw20.MergeNext'. -/
def mergeNextCard : Claim7 := { stood := { row := mergeNextRow, standIns := [], harness := (true, "32fa222c5bf1065ce04a07caf10a32eff794ec37a795c83609c5ebd028f64f35"), looks := true }, kinds := [], alts := [], laidByText := true, laidKinds := [.data, .data, .data, .data, .sentinel, .sentinel, .pinned], laidTests := true, laidLooks := .later }
def MergeNextCardSaid : Prop := Claim7.holds Tryz.pinned (.plain (OpenSpec.ofChange mergeNextSpec)) mergeNextCard

/-- THE TIED CARD OF 'threshinglaw20.MergeNil'. -/
def mergeNilCard : Claim7 := { stood := { row := mergeNilRow, standIns := [], harness := (true, "32fa222c5bf1065ce04a07caf10a32eff794ec37a795c83609c5ebd028f64f35"), looks := true }, kinds := [], alts := [], laidByText := true, laidKinds := [.data, .data, .data, .data, .sentinel, .sentinel, .pinned], laidTests := true, laidLooks := .later }
def MergeNilCardSaid : Prop := Claim7.holds Tryz.pinned (.plain (OpenSpec.ofChange mergeNilSpec)) mergeNilCard

/-- THE TIED CARD OF 'threshinglaw20.MergeMerges'. -/
def mergeMergesCard : Claim7 := { stood := { row := mergeMergesRow, standIns := [], harness := (true, "32fa222c5bf1065ce04a07caf10a32eff794ec37a795c83609c5ebd028f64f35"), looks := true }, kinds := [], alts := [], laidByText := true, laidKinds := [.data, .data, .data, .data, .sentinel, .sentinel, .pinned], laidTests := true, laidLooks := .later }
def MergeMergesCardSaid : Prop := Claim7.holds Tryz.pinned (.plain (OpenSpec.ofChange mergeMergesSpec)) mergeMergesCard

/-- THE TIED CARD OF 'threshinglaw19.SorterOrder'. -/
def sorterOrderCard : Claim7 := { stood := { row := sorterOrderRow, standIns := [], harness := (true, "32fa222c5bf1065ce04a07caf10a32eff794ec37a795c83609c5ebd028f64f35"), looks := true }, kinds := [], alts := [], laidByText := true, laidKinds := [.data, .data, .data, .data, .sentinel, .sentinel, .pinned], laidTests := true, laidLooks := .later }
def SorterOrderCardSaid : Prop := Claim7.holds Tryz.pinned (.plain (OpenSpec.ofChange sorterOrderSpec)) sorterOrderCard

/-- THE TIED CARD OF 'threshinglaw19.SorterSorts'. -/
def sorterSortsCard : Claim7 := { stood := { row := sorterSortsRow, standIns := [], harness := (true, "32fa222c5bf1065ce04a07caf10a32eff794ec37a795c83609c5ebd028f64f35"), looks := true }, kinds := [], alts := [], laidByText := true, laidKinds := [.data, .data, .data, .data, .sentinel, .sentinel, .pinned], laidTests := true, laidLooks := .later }
def SorterSortsCardSaid : Prop := Claim7.holds Tryz.pinned (.plain (OpenSpec.ofChange sorterSortsSpec)) sorterSortsCard

/-- THE TIED CARD OF 'threshinglaw19.SorterNil'. -/
def sorterNilCard : Claim7 := { stood := { row := sorterNilRow, standIns := [], harness := (true, "32fa222c5bf1065ce04a07caf10a32eff794ec37a795c83609c5ebd028f64f35"), looks := true }, kinds := [], alts := [], laidByText := true, laidKinds := [.data, .data, .data, .data, .sentinel, .sentinel, .pinned], laidTests := true, laidLooks := .later }
def SorterNilCardSaid : Prop := Claim7.holds Tryz.pinned (.plain (OpenSpec.ofChange sorterNilSpec)) sorterNilCard

/-- THE TIED CARD OF 'threshinglaw19.SorterRuns'. -/
def sorterRunsCard : Claim7 := { stood := { row := sorterRunsRow, standIns := [], harness := (true, "32fa222c5bf1065ce04a07caf10a32eff794ec37a795c83609c5ebd028f64f35"), looks := true }, kinds := [], alts := [], laidByText := true, laidKinds := [.data, .data, .data, .data, .sentinel, .sentinel, .pinned], laidTests := true, laidLooks := .later }
def SorterRunsCardSaid : Prop := Claim7.holds Tryz.pinned (.plain (OpenSpec.ofChange sorterRunsSpec)) sorterRunsCard

/-- THE TIED CARD OF 'threshinglaw20.MergeSorts'. -/
def mergeSortsCard : Claim7 := { stood := { row := mergeSortsRow, standIns := [], harness := (true, "32fa222c5bf1065ce04a07caf10a32eff794ec37a795c83609c5ebd028f64f35"), looks := true }, kinds := [], alts := [], laidByText := true, laidKinds := [.data, .data, .data, .data, .sentinel, .sentinel, .pinned], laidTests := true, laidLooks := .later }
def MergeSortsCardSaid : Prop := Claim7.holds Tryz.pinned (.plain (OpenSpec.ofChange mergeSortsSpec)) mergeSortsCard

/-- THE SECOND FORM's CARD OF 'threshinglaw20.MergeNext'. -/
def mergeNextUptoCard : Claim7 := { stood := { row := mergeNextUptoRow, standIns := [], harness := (true, "32fa222c5bf1065ce04a07caf10a32eff794ec37a795c83609c5ebd028f64f35"), looks := true }, kinds := [], alts := [], laidByText := true, laidKinds := [.data, .data, .data, .data, .sentinel, .sentinel, .pinned], laidTests := true, laidLooks := .later }
def MergeNextUptoCardSaid : Prop := Claim7.holds Tryz.pinned (.plain (OpenSpec.upto mergeNextSpec)) mergeNextUptoCard

/-- THE SECOND FORM's CARD OF 'threshinglaw20.MergeNil'. -/
def mergeNilUptoCard : Claim7 := { stood := { row := mergeNilUptoRow, standIns := [], harness := (true, "32fa222c5bf1065ce04a07caf10a32eff794ec37a795c83609c5ebd028f64f35"), looks := true }, kinds := [], alts := [], laidByText := true, laidKinds := [.data, .data, .data, .data, .sentinel, .sentinel, .pinned], laidTests := true, laidLooks := .later }
def MergeNilUptoCardSaid : Prop := Claim7.holds Tryz.pinned (.plain (OpenSpec.upto mergeNilSpec)) mergeNilUptoCard

/-- THE SECOND FORM's CARD OF 'threshinglaw20.MergeMerges'. -/
def mergeMergesUptoCard : Claim7 := { stood := { row := mergeMergesUptoRow, standIns := [], harness := (true, "32fa222c5bf1065ce04a07caf10a32eff794ec37a795c83609c5ebd028f64f35"), looks := true }, kinds := [], alts := [], laidByText := true, laidKinds := [.data, .data, .data, .data, .sentinel, .sentinel, .pinned], laidTests := true, laidLooks := .later }
def MergeMergesUptoCardSaid : Prop := Claim7.holds Tryz.pinned (.plain (OpenSpec.upto mergeMergesSpec)) mergeMergesUptoCard

/-- THE SECOND FORM's CARD OF 'threshinglaw19.SorterOrder'. -/
def sorterOrderUptoCard : Claim7 := { stood := { row := sorterOrderUptoRow, standIns := [], harness := (true, "32fa222c5bf1065ce04a07caf10a32eff794ec37a795c83609c5ebd028f64f35"), looks := true }, kinds := [], alts := [], laidByText := true, laidKinds := [.data, .data, .data, .data, .sentinel, .sentinel, .pinned], laidTests := true, laidLooks := .later }
def SorterOrderUptoCardSaid : Prop := Claim7.holds Tryz.pinned (.plain (OpenSpec.upto sorterOrderSpec)) sorterOrderUptoCard

/-- THE SECOND FORM's CARD OF 'threshinglaw19.SorterSorts'. -/
def sorterSortsUptoCard : Claim7 := { stood := { row := sorterSortsUptoRow, standIns := [], harness := (true, "32fa222c5bf1065ce04a07caf10a32eff794ec37a795c83609c5ebd028f64f35"), looks := true }, kinds := [], alts := [], laidByText := true, laidKinds := [.data, .data, .data, .data, .sentinel, .sentinel, .pinned], laidTests := true, laidLooks := .later }
def SorterSortsUptoCardSaid : Prop := Claim7.holds Tryz.pinned (.plain (OpenSpec.upto sorterSortsSpec)) sorterSortsUptoCard

/-- THE SECOND FORM's CARD OF 'threshinglaw19.SorterNil'. -/
def sorterNilUptoCard : Claim7 := { stood := { row := sorterNilUptoRow, standIns := [], harness := (true, "32fa222c5bf1065ce04a07caf10a32eff794ec37a795c83609c5ebd028f64f35"), looks := true }, kinds := [], alts := [], laidByText := true, laidKinds := [.data, .data, .data, .data, .sentinel, .sentinel, .pinned], laidTests := true, laidLooks := .later }
def SorterNilUptoCardSaid : Prop := Claim7.holds Tryz.pinned (.plain (OpenSpec.upto sorterNilSpec)) sorterNilUptoCard

/-- THE SECOND FORM's CARD OF 'threshinglaw19.SorterRuns'. -/
def sorterRunsUptoCard : Claim7 := { stood := { row := sorterRunsUptoRow, standIns := [], harness := (true, "32fa222c5bf1065ce04a07caf10a32eff794ec37a795c83609c5ebd028f64f35"), looks := true }, kinds := [], alts := [], laidByText := true, laidKinds := [.data, .data, .data, .data, .sentinel, .sentinel, .pinned], laidTests := true, laidLooks := .later }
def SorterRunsUptoCardSaid : Prop := Claim7.holds Tryz.pinned (.plain (OpenSpec.upto sorterRunsSpec)) sorterRunsUptoCard

/-- THE SECOND FORM's CARD OF 'threshinglaw20.MergeSorts'. -/
def mergeSortsUptoCard : Claim7 := { stood := { row := mergeSortsUptoRow, standIns := [], harness := (true, "32fa222c5bf1065ce04a07caf10a32eff794ec37a795c83609c5ebd028f64f35"), looks := true }, kinds := [], alts := [], laidByText := true, laidKinds := [.data, .data, .data, .data, .sentinel, .sentinel, .pinned], laidTests := true, laidLooks := .later }
def MergeSortsUptoCardSaid : Prop := Claim7.holds Tryz.pinned (.plain (OpenSpec.upto mergeSortsSpec)) mergeSortsUptoCard
end Rows
end Go.Proofs.YtjgmkimekipgmaaGreatDoor
