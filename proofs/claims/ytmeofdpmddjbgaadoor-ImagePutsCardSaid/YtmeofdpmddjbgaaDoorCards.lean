/-
  DERIVED. GIVEN WITH THE SEED: THE CARDS: each row of YtmeofdpmddjbgaaDoorRows.lean that lists a variable, with what it lists TIED to the program's text (the seventh form; the later family's looks); each row that meets fmt, with fmt's text TOLD by the authors' own Lean function (tested against real Go, not proved from fmt's source: count such statements apart). THE CARD IS WHAT COUNTS. Prove the row's statement (the work); the ties are given (YtmeofdpmddjbgaaDoorTie.lean); close each card by the builder's one call (the guide's Derived/Test/ToyasCard.lean, 'card_holds'). Laid BY PROGRAM, IN A SANDBOX (cutbox-door.mjs). By AI agents, Wed Nov 11 2026. No macro, syntax, notation, axiom, sorry.
-/
import Derived.Test.YtmeofdpmddjbgaaDoorRows
import GoSem.ClaimSeven
namespace Go.Proofs.YtmeofdpmddjbgaaDoor
namespace Rows

/-- THE TIED CARD OF 'barquelaw10.ImageOfs'. -/
def imageOfsCard : Claim7 := { stood := { row := imageOfsRow, standIns := [], harness := (true, "9bc396c10154ebd7f3e59490655b1afb89adf51ea3e13651aa40d87bc6b097bd"), looks := false }, kinds := [], alts := [], laidByText := true, laidKinds := [.data, .pinned], laidTests := true, laidLooks := .later }
def ImageOfsCardSaid : Prop := Claim7.holds Tryd.pinned (.plain (OpenSpec.ofChange imageOfsSpec)) imageOfsCard

/-- THE TIED CARD OF 'barquelaw10.ImageLong'. -/
def imageLongCard : Claim7 := { stood := { row := imageLongRow, standIns := [], harness := (true, "9bc396c10154ebd7f3e59490655b1afb89adf51ea3e13651aa40d87bc6b097bd"), looks := false }, kinds := [], alts := [], laidByText := true, laidKinds := [.data, .pinned], laidTests := true, laidLooks := .later }
def ImageLongCardSaid : Prop := Claim7.holds Tryd.pinned (.plain (OpenSpec.ofChange imageLongSpec)) imageLongCard

/-- THE TIED CARD OF 'barquelaw10.ImageTrees'. -/
def imageTreesCard : Claim7 := { stood := { row := imageTreesRow, standIns := [], harness := (true, "9bc396c10154ebd7f3e59490655b1afb89adf51ea3e13651aa40d87bc6b097bd"), looks := false }, kinds := [], alts := [], laidByText := true, laidKinds := [.data, .pinned], laidTests := true, laidLooks := .later }
def ImageTreesCardSaid : Prop := Claim7.holds Tryd.pinned (.plain (OpenSpec.ofChange imageTreesSpec)) imageTreesCard

/-- THE TIED CARD OF 'barquelaw10.ImageBack'. -/
def imageBackCard : Claim7 := { stood := { row := imageBackRow, standIns := [], harness := (true, "9bc396c10154ebd7f3e59490655b1afb89adf51ea3e13651aa40d87bc6b097bd"), looks := false }, kinds := [], alts := [], laidByText := true, laidKinds := [.data, .pinned], laidTests := true, laidLooks := .later }
def ImageBackCardSaid : Prop := Claim7.holds Tryd.pinned (.plain (OpenSpec.ofChange imageBackSpec)) imageBackCard

/-- THE TIED CARD OF 'barquelaw10.ImageDrops'. -/
def imageDropsCard : Claim7 := { stood := { row := imageDropsRow, standIns := [], harness := (true, "9bc396c10154ebd7f3e59490655b1afb89adf51ea3e13651aa40d87bc6b097bd"), looks := false }, kinds := [], alts := [], laidByText := true, laidKinds := [.data, .pinned], laidTests := true, laidLooks := .later }
def ImageDropsCardSaid : Prop := Claim7.holds Tryd.pinned (.plain (OpenSpec.ofChange imageDropsSpec)) imageDropsCard

/-- THE TIED CARD OF 'barquelaw10.ImageMerges'. -/
def imageMergesCard : Claim7 := { stood := { row := imageMergesRow, standIns := [], harness := (true, "9bc396c10154ebd7f3e59490655b1afb89adf51ea3e13651aa40d87bc6b097bd"), looks := false }, kinds := [], alts := [], laidByText := true, laidKinds := [.data, .pinned], laidTests := true, laidLooks := .later }
def ImageMergesCardSaid : Prop := Claim7.holds Tryd.pinned (.plain (OpenSpec.ofChange imageMergesSpec)) imageMergesCard

/-- THE TIED CARD OF 'barquelaw10.ImageSides'. -/
def imageSidesCard : Claim7 := { stood := { row := imageSidesRow, standIns := [], harness := (true, "9bc396c10154ebd7f3e59490655b1afb89adf51ea3e13651aa40d87bc6b097bd"), looks := false }, kinds := [], alts := [], laidByText := true, laidKinds := [.data, .pinned], laidTests := true, laidLooks := .later }
def ImageSidesCardSaid : Prop := Claim7.holds Tryd.pinned (.plain (OpenSpec.ofChange imageSidesSpec)) imageSidesCard

/-- THE TIED CARD OF 'barquelaw10.ImagePuts'. -/
def imagePutsCard : Claim7 := { stood := { row := imagePutsRow, standIns := [], harness := (true, "9bc396c10154ebd7f3e59490655b1afb89adf51ea3e13651aa40d87bc6b097bd"), looks := false }, kinds := [], alts := [], laidByText := true, laidKinds := [.data, .pinned], laidTests := true, laidLooks := .later }
def ImagePutsCardSaid : Prop := Claim7.holds Tryd.pinned (.plain (OpenSpec.ofChange imagePutsSpec)) imagePutsCard

/-- THE SECOND FORM's CARD OF 'barquelaw10.ImageOfs'. -/
def imageOfsUptoCard : Claim7 := { stood := { row := imageOfsUptoRow, standIns := [], harness := (true, "9bc396c10154ebd7f3e59490655b1afb89adf51ea3e13651aa40d87bc6b097bd"), looks := false }, kinds := [], alts := [], laidByText := true, laidKinds := [.data, .pinned], laidTests := true, laidLooks := .later }
def ImageOfsUptoCardSaid : Prop := Claim7.holds Tryd.pinned (.plain (OpenSpec.upto imageOfsSpec)) imageOfsUptoCard

/-- THE SECOND FORM's CARD OF 'barquelaw10.ImageLong'. -/
def imageLongUptoCard : Claim7 := { stood := { row := imageLongUptoRow, standIns := [], harness := (true, "9bc396c10154ebd7f3e59490655b1afb89adf51ea3e13651aa40d87bc6b097bd"), looks := false }, kinds := [], alts := [], laidByText := true, laidKinds := [.data, .pinned], laidTests := true, laidLooks := .later }
def ImageLongUptoCardSaid : Prop := Claim7.holds Tryd.pinned (.plain (OpenSpec.upto imageLongSpec)) imageLongUptoCard

/-- THE SECOND FORM's CARD OF 'barquelaw10.ImageTrees'. -/
def imageTreesUptoCard : Claim7 := { stood := { row := imageTreesUptoRow, standIns := [], harness := (true, "9bc396c10154ebd7f3e59490655b1afb89adf51ea3e13651aa40d87bc6b097bd"), looks := false }, kinds := [], alts := [], laidByText := true, laidKinds := [.data, .pinned], laidTests := true, laidLooks := .later }
def ImageTreesUptoCardSaid : Prop := Claim7.holds Tryd.pinned (.plain (OpenSpec.upto imageTreesSpec)) imageTreesUptoCard

/-- THE SECOND FORM's CARD OF 'barquelaw10.ImageBack'. -/
def imageBackUptoCard : Claim7 := { stood := { row := imageBackUptoRow, standIns := [], harness := (true, "9bc396c10154ebd7f3e59490655b1afb89adf51ea3e13651aa40d87bc6b097bd"), looks := false }, kinds := [], alts := [], laidByText := true, laidKinds := [.data, .pinned], laidTests := true, laidLooks := .later }
def ImageBackUptoCardSaid : Prop := Claim7.holds Tryd.pinned (.plain (OpenSpec.upto imageBackSpec)) imageBackUptoCard

/-- THE SECOND FORM's CARD OF 'barquelaw10.ImageDrops'. -/
def imageDropsUptoCard : Claim7 := { stood := { row := imageDropsUptoRow, standIns := [], harness := (true, "9bc396c10154ebd7f3e59490655b1afb89adf51ea3e13651aa40d87bc6b097bd"), looks := false }, kinds := [], alts := [], laidByText := true, laidKinds := [.data, .pinned], laidTests := true, laidLooks := .later }
def ImageDropsUptoCardSaid : Prop := Claim7.holds Tryd.pinned (.plain (OpenSpec.upto imageDropsSpec)) imageDropsUptoCard

/-- THE SECOND FORM's CARD OF 'barquelaw10.ImageMerges'. -/
def imageMergesUptoCard : Claim7 := { stood := { row := imageMergesUptoRow, standIns := [], harness := (true, "9bc396c10154ebd7f3e59490655b1afb89adf51ea3e13651aa40d87bc6b097bd"), looks := false }, kinds := [], alts := [], laidByText := true, laidKinds := [.data, .pinned], laidTests := true, laidLooks := .later }
def ImageMergesUptoCardSaid : Prop := Claim7.holds Tryd.pinned (.plain (OpenSpec.upto imageMergesSpec)) imageMergesUptoCard

/-- THE SECOND FORM's CARD OF 'barquelaw10.ImageSides'. -/
def imageSidesUptoCard : Claim7 := { stood := { row := imageSidesUptoRow, standIns := [], harness := (true, "9bc396c10154ebd7f3e59490655b1afb89adf51ea3e13651aa40d87bc6b097bd"), looks := false }, kinds := [], alts := [], laidByText := true, laidKinds := [.data, .pinned], laidTests := true, laidLooks := .later }
def ImageSidesUptoCardSaid : Prop := Claim7.holds Tryd.pinned (.plain (OpenSpec.upto imageSidesSpec)) imageSidesUptoCard

/-- THE SECOND FORM's CARD OF 'barquelaw10.ImagePuts'. -/
def imagePutsUptoCard : Claim7 := { stood := { row := imagePutsUptoRow, standIns := [], harness := (true, "9bc396c10154ebd7f3e59490655b1afb89adf51ea3e13651aa40d87bc6b097bd"), looks := false }, kinds := [], alts := [], laidByText := true, laidKinds := [.data, .pinned], laidTests := true, laidLooks := .later }
def ImagePutsUptoCardSaid : Prop := Claim7.holds Tryd.pinned (.plain (OpenSpec.upto imagePutsSpec)) imagePutsUptoCard
end Rows
end Go.Proofs.YtmeofdpmddjbgaaDoor
