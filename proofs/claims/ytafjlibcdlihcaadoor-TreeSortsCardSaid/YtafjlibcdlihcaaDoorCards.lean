/-
  DERIVED. GIVEN WITH THE SEED: THE CARDS: each row of YtafjlibcdlihcaaDoorRows.lean that lists a variable, with what it lists TIED to the program's text (the seventh form; the later family's looks); each row that meets fmt, with fmt's text TOLD by the authors' own Lean function (tested against real Go, not proved from fmt's source: count such statements apart). THE CARD IS WHAT COUNTS. Prove the row's statement (the work); the ties are given (YtafjlibcdlihcaaDoorTie.lean); close each card by the builder's one call (the guide's Derived/Test/ToyasCard.lean, 'card_holds'). Laid BY PROGRAM, IN A SANDBOX (cutbox-door.mjs). By AI agents, Wed Nov 11 2026. No macro, syntax, notation, axiom, sorry.
-/
import Derived.Test.YtafjlibcdlihcaaDoorRows
import GoSem.ClaimSeven
namespace Go.Proofs.YtafjlibcdlihcaaDoor
namespace Rows

/-- THE TIED CARD OF 'barquelaw09.TreePaths'. -/
def treePathsCard : Claim7 := { stood := { row := treePathsRow, standIns := [], harness := (true, "ab2d8ba13beeecde035704cab1e6b81dc9b97137bdfab3f526431efb1d7efd49"), looks := false }, kinds := [], alts := [], laidByText := true, laidKinds := [.data, .pinned], laidTests := true, laidLooks := .later }
def TreePathsCardSaid : Prop := Claim7.holds Tryd.pinned (.plain (OpenSpec.ofChange treePathsSpec)) treePathsCard

/-- THE TIED CARD OF 'barquelaw09.TreeOrderly'. -/
def treeOrderlyCard : Claim7 := { stood := { row := treeOrderlyRow, standIns := [], harness := (true, "ab2d8ba13beeecde035704cab1e6b81dc9b97137bdfab3f526431efb1d7efd49"), looks := false }, kinds := [], alts := [], laidByText := true, laidKinds := [.data, .pinned], laidTests := true, laidLooks := .later }
def TreeOrderlyCardSaid : Prop := Claim7.holds Tryd.pinned (.plain (OpenSpec.ofChange treeOrderlySpec)) treeOrderlyCard

/-- THE TIED CARD OF 'barquelaw09.TreeChecks'. -/
def treeChecksCard : Claim7 := { stood := { row := treeChecksRow, standIns := [], harness := (true, "ab2d8ba13beeecde035704cab1e6b81dc9b97137bdfab3f526431efb1d7efd49"), looks := false }, kinds := [], alts := [], laidByText := true, laidKinds := [.data, .pinned], laidTests := true, laidLooks := .later }
def TreeChecksCardSaid : Prop := Claim7.holds Tryd.pinned (.plain (OpenSpec.ofChange treeChecksSpec)) treeChecksCard

/-- THE TIED CARD OF 'barquelaw09.TreeMatches'. -/
def treeMatchesCard : Claim7 := { stood := { row := treeMatchesRow, standIns := [], harness := (true, "ab2d8ba13beeecde035704cab1e6b81dc9b97137bdfab3f526431efb1d7efd49"), looks := false }, kinds := [], alts := [], laidByText := true, laidKinds := [.data, .pinned], laidTests := true, laidLooks := .later }
def TreeMatchesCardSaid : Prop := Claim7.holds Tryd.pinned (.plain (OpenSpec.ofChange treeMatchesSpec)) treeMatchesCard

/-- THE TIED CARD OF 'barquelaw09.TreeFilters'. -/
def treeFiltersCard : Claim7 := { stood := { row := treeFiltersRow, standIns := [], harness := (true, "ab2d8ba13beeecde035704cab1e6b81dc9b97137bdfab3f526431efb1d7efd49"), looks := false }, kinds := [], alts := [], laidByText := true, laidKinds := [.data, .pinned], laidTests := true, laidLooks := .later }
def TreeFiltersCardSaid : Prop := Claim7.holds Tryd.pinned (.plain (OpenSpec.ofChange treeFiltersSpec)) treeFiltersCard

/-- THE TIED CARD OF 'barquelaw09.TreeBetweens'. -/
def treeBetweensCard : Claim7 := { stood := { row := treeBetweensRow, standIns := [], harness := (true, "ab2d8ba13beeecde035704cab1e6b81dc9b97137bdfab3f526431efb1d7efd49"), looks := false }, kinds := [], alts := [], laidByText := true, laidKinds := [.data, .pinned], laidTests := true, laidLooks := .later }
def TreeBetweensCardSaid : Prop := Claim7.holds Tryd.pinned (.plain (OpenSpec.ofChange treeBetweensSpec)) treeBetweensCard

/-- THE TIED CARD OF 'barquelaw09.TreeBytes'. -/
def treeBytesCard : Claim7 := { stood := { row := treeBytesRow, standIns := [], harness := (true, "ab2d8ba13beeecde035704cab1e6b81dc9b97137bdfab3f526431efb1d7efd49"), looks := false }, kinds := [], alts := [], laidByText := true, laidKinds := [.data, .pinned], laidTests := true, laidLooks := .later }
def TreeBytesCardSaid : Prop := Claim7.holds Tryd.pinned (.plain (OpenSpec.ofChange treeBytesSpec)) treeBytesCard

/-- THE TIED CARD OF 'barquelaw09.TreeItems'. -/
def treeItemsCard : Claim7 := { stood := { row := treeItemsRow, standIns := [], harness := (true, "ab2d8ba13beeecde035704cab1e6b81dc9b97137bdfab3f526431efb1d7efd49"), looks := false }, kinds := [], alts := [], laidByText := true, laidKinds := [.data, .pinned], laidTests := true, laidLooks := .later }
def TreeItemsCardSaid : Prop := Claim7.holds Tryd.pinned (.plain (OpenSpec.ofChange treeItemsSpec)) treeItemsCard

/-- THE TIED CARD OF 'barquelaw09.TreeReads'. -/
def treeReadsCard : Claim7 := { stood := { row := treeReadsRow, standIns := [], harness := (true, "ab2d8ba13beeecde035704cab1e6b81dc9b97137bdfab3f526431efb1d7efd49"), looks := false }, kinds := [], alts := [], laidByText := true, laidKinds := [.data, .pinned], laidTests := true, laidLooks := .later }
def TreeReadsCardSaid : Prop := Claim7.holds Tryd.pinned (.plain (OpenSpec.ofChange treeReadsSpec)) treeReadsCard

/-- THE TIED CARD OF 'barquelaw09.TreeSorts'. -/
def treeSortsCard : Claim7 := { stood := { row := treeSortsRow, standIns := [], harness := (true, "ab2d8ba13beeecde035704cab1e6b81dc9b97137bdfab3f526431efb1d7efd49"), looks := false }, kinds := [], alts := [], laidByText := true, laidKinds := [.data, .pinned], laidTests := true, laidLooks := .later }
def TreeSortsCardSaid : Prop := Claim7.holds Tryd.pinned (.plain (OpenSpec.ofChange treeSortsSpec)) treeSortsCard

/-- THE TIED CARD OF 'barquelaw09.TreeBack'. -/
def treeBackCard : Claim7 := { stood := { row := treeBackRow, standIns := [], harness := (true, "ab2d8ba13beeecde035704cab1e6b81dc9b97137bdfab3f526431efb1d7efd49"), looks := false }, kinds := [], alts := [], laidByText := true, laidKinds := [.data, .pinned], laidTests := true, laidLooks := .later }
def TreeBackCardSaid : Prop := Claim7.holds Tryd.pinned (.plain (OpenSpec.ofChange treeBackSpec)) treeBackCard

/-- THE SECOND FORM's CARD OF 'barquelaw09.TreePaths'. -/
def treePathsUptoCard : Claim7 := { stood := { row := treePathsUptoRow, standIns := [], harness := (true, "ab2d8ba13beeecde035704cab1e6b81dc9b97137bdfab3f526431efb1d7efd49"), looks := false }, kinds := [], alts := [], laidByText := true, laidKinds := [.data, .pinned], laidTests := true, laidLooks := .later }
def TreePathsUptoCardSaid : Prop := Claim7.holds Tryd.pinned (.plain (OpenSpec.upto treePathsSpec)) treePathsUptoCard

/-- THE SECOND FORM's CARD OF 'barquelaw09.TreeOrderly'. -/
def treeOrderlyUptoCard : Claim7 := { stood := { row := treeOrderlyUptoRow, standIns := [], harness := (true, "ab2d8ba13beeecde035704cab1e6b81dc9b97137bdfab3f526431efb1d7efd49"), looks := false }, kinds := [], alts := [], laidByText := true, laidKinds := [.data, .pinned], laidTests := true, laidLooks := .later }
def TreeOrderlyUptoCardSaid : Prop := Claim7.holds Tryd.pinned (.plain (OpenSpec.upto treeOrderlySpec)) treeOrderlyUptoCard

/-- THE SECOND FORM's CARD OF 'barquelaw09.TreeChecks'. -/
def treeChecksUptoCard : Claim7 := { stood := { row := treeChecksUptoRow, standIns := [], harness := (true, "ab2d8ba13beeecde035704cab1e6b81dc9b97137bdfab3f526431efb1d7efd49"), looks := false }, kinds := [], alts := [], laidByText := true, laidKinds := [.data, .pinned], laidTests := true, laidLooks := .later }
def TreeChecksUptoCardSaid : Prop := Claim7.holds Tryd.pinned (.plain (OpenSpec.upto treeChecksSpec)) treeChecksUptoCard

/-- THE SECOND FORM's CARD OF 'barquelaw09.TreeMatches'. -/
def treeMatchesUptoCard : Claim7 := { stood := { row := treeMatchesUptoRow, standIns := [], harness := (true, "ab2d8ba13beeecde035704cab1e6b81dc9b97137bdfab3f526431efb1d7efd49"), looks := false }, kinds := [], alts := [], laidByText := true, laidKinds := [.data, .pinned], laidTests := true, laidLooks := .later }
def TreeMatchesUptoCardSaid : Prop := Claim7.holds Tryd.pinned (.plain (OpenSpec.upto treeMatchesSpec)) treeMatchesUptoCard

/-- THE SECOND FORM's CARD OF 'barquelaw09.TreeFilters'. -/
def treeFiltersUptoCard : Claim7 := { stood := { row := treeFiltersUptoRow, standIns := [], harness := (true, "ab2d8ba13beeecde035704cab1e6b81dc9b97137bdfab3f526431efb1d7efd49"), looks := false }, kinds := [], alts := [], laidByText := true, laidKinds := [.data, .pinned], laidTests := true, laidLooks := .later }
def TreeFiltersUptoCardSaid : Prop := Claim7.holds Tryd.pinned (.plain (OpenSpec.upto treeFiltersSpec)) treeFiltersUptoCard

/-- THE SECOND FORM's CARD OF 'barquelaw09.TreeBetweens'. -/
def treeBetweensUptoCard : Claim7 := { stood := { row := treeBetweensUptoRow, standIns := [], harness := (true, "ab2d8ba13beeecde035704cab1e6b81dc9b97137bdfab3f526431efb1d7efd49"), looks := false }, kinds := [], alts := [], laidByText := true, laidKinds := [.data, .pinned], laidTests := true, laidLooks := .later }
def TreeBetweensUptoCardSaid : Prop := Claim7.holds Tryd.pinned (.plain (OpenSpec.upto treeBetweensSpec)) treeBetweensUptoCard

/-- THE SECOND FORM's CARD OF 'barquelaw09.TreeBytes'. -/
def treeBytesUptoCard : Claim7 := { stood := { row := treeBytesUptoRow, standIns := [], harness := (true, "ab2d8ba13beeecde035704cab1e6b81dc9b97137bdfab3f526431efb1d7efd49"), looks := false }, kinds := [], alts := [], laidByText := true, laidKinds := [.data, .pinned], laidTests := true, laidLooks := .later }
def TreeBytesUptoCardSaid : Prop := Claim7.holds Tryd.pinned (.plain (OpenSpec.upto treeBytesSpec)) treeBytesUptoCard

/-- THE SECOND FORM's CARD OF 'barquelaw09.TreeItems'. -/
def treeItemsUptoCard : Claim7 := { stood := { row := treeItemsUptoRow, standIns := [], harness := (true, "ab2d8ba13beeecde035704cab1e6b81dc9b97137bdfab3f526431efb1d7efd49"), looks := false }, kinds := [], alts := [], laidByText := true, laidKinds := [.data, .pinned], laidTests := true, laidLooks := .later }
def TreeItemsUptoCardSaid : Prop := Claim7.holds Tryd.pinned (.plain (OpenSpec.upto treeItemsSpec)) treeItemsUptoCard

/-- THE SECOND FORM's CARD OF 'barquelaw09.TreeReads'. -/
def treeReadsUptoCard : Claim7 := { stood := { row := treeReadsUptoRow, standIns := [], harness := (true, "ab2d8ba13beeecde035704cab1e6b81dc9b97137bdfab3f526431efb1d7efd49"), looks := false }, kinds := [], alts := [], laidByText := true, laidKinds := [.data, .pinned], laidTests := true, laidLooks := .later }
def TreeReadsUptoCardSaid : Prop := Claim7.holds Tryd.pinned (.plain (OpenSpec.upto treeReadsSpec)) treeReadsUptoCard

/-- THE SECOND FORM's CARD OF 'barquelaw09.TreeSorts'. -/
def treeSortsUptoCard : Claim7 := { stood := { row := treeSortsUptoRow, standIns := [], harness := (true, "ab2d8ba13beeecde035704cab1e6b81dc9b97137bdfab3f526431efb1d7efd49"), looks := false }, kinds := [], alts := [], laidByText := true, laidKinds := [.data, .pinned], laidTests := true, laidLooks := .later }
def TreeSortsUptoCardSaid : Prop := Claim7.holds Tryd.pinned (.plain (OpenSpec.upto treeSortsSpec)) treeSortsUptoCard

/-- THE SECOND FORM's CARD OF 'barquelaw09.TreeBack'. -/
def treeBackUptoCard : Claim7 := { stood := { row := treeBackUptoRow, standIns := [], harness := (true, "ab2d8ba13beeecde035704cab1e6b81dc9b97137bdfab3f526431efb1d7efd49"), looks := false }, kinds := [], alts := [], laidByText := true, laidKinds := [.data, .pinned], laidTests := true, laidLooks := .later }
def TreeBackUptoCardSaid : Prop := Claim7.holds Tryd.pinned (.plain (OpenSpec.upto treeBackSpec)) treeBackUptoCard
end Rows
end Go.Proofs.YtafjlibcdlihcaaDoor
