/-
  NARROWER THAN 'FOR EVERY INPUT', by the rows' own cells (each row's printed sentence says how): ImageOfs: laid · ImageLong: laid · ImageTrees: laid · ImageBack: laid · ImageDrops: laid · ImageMerges: laid · ImageSides: laid · ImagePuts: laid.
  DERIVED. THE GIVEN ROWS OF THIS SEAT. 8 by the template 'for every input the law returns true; each argument reads behind the call as it read before'; 0 by the template 'total and deterministic' (their statements: YtmeofdpmddjbgaaDoorTotals.lean).
  GIVEN WITH THE SEED: the statements are not yours to turn. If you find one false, say at which input.
  Laid BY PROGRAM, IN A SANDBOX (cutbox-rows.mjs): the forced cells as the released guide's own fill.sh prints them over the translation d3e31b9066b8259e… (all of the seat's roots in one cut). By AI agents, Wed Nov 11 2026. No macro, syntax, notation, axiom, sorry.
-/
import Derived.Test.YtmeofdpmddjbgaaDoorChecked
import GoSem.PinnedTables
import GoSem.Claim
import GoSem.ClaimJoined
import GoSem.ClaimMapViews
import Derived.JoinedTies
import Derived.KernelRfl
namespace Go.Proofs.YtmeofdpmddjbgaaDoor
/- THE CELL 'sum', in the pinned program and in every row, IS THE sha256 OF THE DUMP (.gsa) THAT YtmeofdpmddjbgaaDoorProg.lean LOADS. Nothing in Lean hashes anything: it is a label: what it is worth is what the hold of that sum in a sandbox is worth. -/
noncomputable def Tryd.pinned : Pinned := { name := "ytmeofdpmddjbgaadoor", sum := "d3e31b9066b8259e963045c88ffbf6c0146f3f31d59b02d48b4f2863c6cca764", checked := Tryd.checked }
namespace Rows
def none {H : Type} : Left H := { results := [], args := [] }

/- WHAT THE LISTED PACKAGE-LEVEL VARIABLES READ AS WHEN THE CALL BEGINS. Each datum BY PROGRAM (the guide's laid-datum.mjs) off the statement by which the dump's own 'gosem.cut.vars' lays the variable. In a bare row this is a premise. The card (YtmeofdpmddjbgaaDoorCards.lean) ties it to the program's text. -/
def laid_unicode_utf8_acceptRanges {H : Type} : DataW H := .agg [.agg [.lit (.int .u8 128), .lit (.int .u8 191)], .agg [.lit (.int .u8 160), .lit (.int .u8 191)], .agg [.lit (.int .u8 128), .lit (.int .u8 159)], .agg [.lit (.int .u8 144), .lit (.int .u8 191)], .agg [.lit (.int .u8 128), .lit (.int .u8 143)], .agg [.lit (.int .u8 0), .lit (.int .u8 0)], .agg [.lit (.int .u8 0), .lit (.int .u8 0)], .agg [.lit (.int .u8 0), .lit (.int .u8 0)], .agg [.lit (.int .u8 0), .lit (.int .u8 0)], .agg [.lit (.int .u8 0), .lit (.int .u8 0)], .agg [.lit (.int .u8 0), .lit (.int .u8 0)], .agg [.lit (.int .u8 0), .lit (.int .u8 0)], .agg [.lit (.int .u8 0), .lit (.int .u8 0)], .agg [.lit (.int .u8 0), .lit (.int .u8 0)], .agg [.lit (.int .u8 0), .lit (.int .u8 0)], .agg [.lit (.int .u8 0), .lit (.int .u8 0)]]
/-- One of Go's own tables, pinned by name: the form's constant. -/
def laid_unicode_utf8_first : DataW Unit := Go.Pinned.utf8First

/-- 'barquelaw10.ImageOfs': WHATEVER THE INPUT: true; the input reads as it did. -/
def imageOfsSpec : ChangeSpec := { name := "imageOfs", fn := fun _ => fun
  | [d] => { results := [.lit (.bool true)], args := [d] }
  | _ => none }
def imageOfsRow : OpenClaim := { program := "ytmeofdpmddjbgaadoor", sum := "d3e31b9066b8259e963045c88ffbf6c0146f3f31d59b02d48b4f2863c6cca764", func := "barque/barquelaw10.ImageOfs", spec := "imageOfs", inPlace := ["internal/bytealg.CountString", "internal/bytealg.IndexByteString", "internal/bytealg.IndexString", "internal/abi.NoEscape"], unfollowed := true, recurses := true, named := ["unicode/utf8.first", "unicode/utf8.acceptRanges", "internal/bytealg.MaxLen"], apart := false, laid := [("unicode/utf8.acceptRanges", laid_unicode_utf8_acceptRanges), ("unicode/utf8.first", laid_unicode_utf8_first)] }
def ImageOfsSaid : Prop := imageOfsRow.holds Tryd.pinned (OpenSpec.ofChange imageOfsSpec)

/-- ITS FALSE NEIGHBOUR: 'it returns false'. Refute it at one input. -/
def imageOfsWrong : ChangeSpec := { name := "imageOfs", fn := fun _ => fun
  | [d] => { results := [.lit (.bool false)], args := [d] }
  | _ => none }
def ImageOfsWrongFalsely : Prop := imageOfsRow.holds Tryd.pinned (OpenSpec.ofChange imageOfsWrong)

/-- 'barquelaw10.ImageLong': WHATEVER THE INPUT: true; the input reads as it did. -/
def imageLongSpec : ChangeSpec := { name := "imageLong", fn := fun _ => fun
  | [d] => { results := [.lit (.bool true)], args := [d] }
  | _ => none }
def imageLongRow : OpenClaim := { program := "ytmeofdpmddjbgaadoor", sum := "d3e31b9066b8259e963045c88ffbf6c0146f3f31d59b02d48b4f2863c6cca764", func := "barque/barquelaw10.ImageLong", spec := "imageLong", inPlace := ["internal/bytealg.CountString", "internal/bytealg.IndexByteString", "internal/bytealg.IndexString", "internal/abi.NoEscape"], unfollowed := true, recurses := true, named := ["unicode/utf8.first", "unicode/utf8.acceptRanges", "internal/bytealg.MaxLen"], apart := false, laid := [("unicode/utf8.acceptRanges", laid_unicode_utf8_acceptRanges), ("unicode/utf8.first", laid_unicode_utf8_first)] }
def ImageLongSaid : Prop := imageLongRow.holds Tryd.pinned (OpenSpec.ofChange imageLongSpec)

/-- ITS FALSE NEIGHBOUR: 'it returns false'. Refute it at one input. -/
def imageLongWrong : ChangeSpec := { name := "imageLong", fn := fun _ => fun
  | [d] => { results := [.lit (.bool false)], args := [d] }
  | _ => none }
def ImageLongWrongFalsely : Prop := imageLongRow.holds Tryd.pinned (OpenSpec.ofChange imageLongWrong)

/-- 'barquelaw10.ImageTrees': WHATEVER THE INPUT: true; the input reads as it did. -/
def imageTreesSpec : ChangeSpec := { name := "imageTrees", fn := fun _ => fun
  | [d] => { results := [.lit (.bool true)], args := [d] }
  | _ => none }
def imageTreesRow : OpenClaim := { program := "ytmeofdpmddjbgaadoor", sum := "d3e31b9066b8259e963045c88ffbf6c0146f3f31d59b02d48b4f2863c6cca764", func := "barque/barquelaw10.ImageTrees", spec := "imageTrees", inPlace := ["internal/bytealg.CountString", "internal/bytealg.IndexByteString", "internal/bytealg.IndexString", "internal/abi.NoEscape"], unfollowed := true, recurses := true, named := ["unicode/utf8.first", "unicode/utf8.acceptRanges", "internal/bytealg.MaxLen"], apart := false, laid := [("unicode/utf8.acceptRanges", laid_unicode_utf8_acceptRanges), ("unicode/utf8.first", laid_unicode_utf8_first)] }
def ImageTreesSaid : Prop := imageTreesRow.holds Tryd.pinned (OpenSpec.ofChange imageTreesSpec)

/-- ITS FALSE NEIGHBOUR: 'it returns false'. Refute it at one input. -/
def imageTreesWrong : ChangeSpec := { name := "imageTrees", fn := fun _ => fun
  | [d] => { results := [.lit (.bool false)], args := [d] }
  | _ => none }
def ImageTreesWrongFalsely : Prop := imageTreesRow.holds Tryd.pinned (OpenSpec.ofChange imageTreesWrong)

/-- 'barquelaw10.ImageBack': WHATEVER THE INPUT: true; the input reads as it did. -/
def imageBackSpec : ChangeSpec := { name := "imageBack", fn := fun _ => fun
  | [d1, d2] => { results := [.lit (.bool true)], args := [d1, d2] }
  | _ => none }
def imageBackRow : OpenClaim := { program := "ytmeofdpmddjbgaadoor", sum := "d3e31b9066b8259e963045c88ffbf6c0146f3f31d59b02d48b4f2863c6cca764", func := "barque/barquelaw10.ImageBack", spec := "imageBack", inPlace := ["internal/bytealg.CountString", "internal/bytealg.IndexByteString", "internal/bytealg.IndexString", "internal/abi.NoEscape"], unfollowed := true, recurses := true, named := ["unicode/utf8.first", "unicode/utf8.acceptRanges", "internal/bytealg.MaxLen"], apart := false, laid := [("unicode/utf8.acceptRanges", laid_unicode_utf8_acceptRanges), ("unicode/utf8.first", laid_unicode_utf8_first)] }
def ImageBackSaid : Prop := imageBackRow.holds Tryd.pinned (OpenSpec.ofChange imageBackSpec)

/-- ITS FALSE NEIGHBOUR: 'it returns false'. Refute it at one input. -/
def imageBackWrong : ChangeSpec := { name := "imageBack", fn := fun _ => fun
  | [d1, d2] => { results := [.lit (.bool false)], args := [d1, d2] }
  | _ => none }
def ImageBackWrongFalsely : Prop := imageBackRow.holds Tryd.pinned (OpenSpec.ofChange imageBackWrong)

/-- 'barquelaw10.ImageDrops': WHATEVER THE INPUT: true; the input reads as it did. -/
def imageDropsSpec : ChangeSpec := { name := "imageDrops", fn := fun _ => fun
  | [d1, d2] => { results := [.lit (.bool true)], args := [d1, d2] }
  | _ => none }
def imageDropsRow : OpenClaim := { program := "ytmeofdpmddjbgaadoor", sum := "d3e31b9066b8259e963045c88ffbf6c0146f3f31d59b02d48b4f2863c6cca764", func := "barque/barquelaw10.ImageDrops", spec := "imageDrops", inPlace := ["internal/bytealg.CountString", "internal/bytealg.IndexByteString", "internal/bytealg.IndexString", "internal/abi.NoEscape"], unfollowed := true, recurses := true, named := ["unicode/utf8.first", "unicode/utf8.acceptRanges", "internal/bytealg.MaxLen"], apart := false, laid := [("unicode/utf8.acceptRanges", laid_unicode_utf8_acceptRanges), ("unicode/utf8.first", laid_unicode_utf8_first)] }
def ImageDropsSaid : Prop := imageDropsRow.holds Tryd.pinned (OpenSpec.ofChange imageDropsSpec)

/-- ITS FALSE NEIGHBOUR: 'it returns false'. Refute it at one input. -/
def imageDropsWrong : ChangeSpec := { name := "imageDrops", fn := fun _ => fun
  | [d1, d2] => { results := [.lit (.bool false)], args := [d1, d2] }
  | _ => none }
def ImageDropsWrongFalsely : Prop := imageDropsRow.holds Tryd.pinned (OpenSpec.ofChange imageDropsWrong)

/-- 'barquelaw10.ImageMerges': WHATEVER THE INPUT: true; the input reads as it did. -/
def imageMergesSpec : ChangeSpec := { name := "imageMerges", fn := fun _ => fun
  | [d1, d2, d3] => { results := [.lit (.bool true)], args := [d1, d2, d3] }
  | _ => none }
def imageMergesRow : OpenClaim := { program := "ytmeofdpmddjbgaadoor", sum := "d3e31b9066b8259e963045c88ffbf6c0146f3f31d59b02d48b4f2863c6cca764", func := "barque/barquelaw10.ImageMerges", spec := "imageMerges", inPlace := ["internal/bytealg.CountString", "internal/bytealg.IndexByteString", "internal/bytealg.IndexString", "internal/abi.NoEscape"], unfollowed := true, recurses := true, named := ["unicode/utf8.first", "unicode/utf8.acceptRanges", "internal/bytealg.MaxLen"], apart := false, laid := [("unicode/utf8.acceptRanges", laid_unicode_utf8_acceptRanges), ("unicode/utf8.first", laid_unicode_utf8_first)] }
def ImageMergesSaid : Prop := imageMergesRow.holds Tryd.pinned (OpenSpec.ofChange imageMergesSpec)

/-- ITS FALSE NEIGHBOUR: 'it returns false'. Refute it at one input. -/
def imageMergesWrong : ChangeSpec := { name := "imageMerges", fn := fun _ => fun
  | [d1, d2, d3] => { results := [.lit (.bool false)], args := [d1, d2, d3] }
  | _ => none }
def ImageMergesWrongFalsely : Prop := imageMergesRow.holds Tryd.pinned (OpenSpec.ofChange imageMergesWrong)

/-- 'barquelaw10.ImageSides': WHATEVER THE INPUT: true; the input reads as it did. -/
def imageSidesSpec : ChangeSpec := { name := "imageSides", fn := fun _ => fun
  | [d1, d2, d3] => { results := [.lit (.bool true)], args := [d1, d2, d3] }
  | _ => none }
def imageSidesRow : OpenClaim := { program := "ytmeofdpmddjbgaadoor", sum := "d3e31b9066b8259e963045c88ffbf6c0146f3f31d59b02d48b4f2863c6cca764", func := "barque/barquelaw10.ImageSides", spec := "imageSides", inPlace := ["internal/bytealg.CountString", "internal/bytealg.IndexByteString", "internal/bytealg.IndexString", "internal/abi.NoEscape"], unfollowed := true, recurses := true, named := ["unicode/utf8.first", "unicode/utf8.acceptRanges", "internal/bytealg.MaxLen"], apart := false, laid := [("unicode/utf8.acceptRanges", laid_unicode_utf8_acceptRanges), ("unicode/utf8.first", laid_unicode_utf8_first)] }
def ImageSidesSaid : Prop := imageSidesRow.holds Tryd.pinned (OpenSpec.ofChange imageSidesSpec)

/-- ITS FALSE NEIGHBOUR: 'it returns false'. Refute it at one input. -/
def imageSidesWrong : ChangeSpec := { name := "imageSides", fn := fun _ => fun
  | [d1, d2, d3] => { results := [.lit (.bool false)], args := [d1, d2, d3] }
  | _ => none }
def ImageSidesWrongFalsely : Prop := imageSidesRow.holds Tryd.pinned (OpenSpec.ofChange imageSidesWrong)

/-- 'barquelaw10.ImagePuts': WHATEVER THE INPUT: true; the input reads as it did. -/
def imagePutsSpec : ChangeSpec := { name := "imagePuts", fn := fun _ => fun
  | [d1, d2] => { results := [.lit (.bool true)], args := [d1, d2] }
  | _ => none }
def imagePutsRow : OpenClaim := { program := "ytmeofdpmddjbgaadoor", sum := "d3e31b9066b8259e963045c88ffbf6c0146f3f31d59b02d48b4f2863c6cca764", func := "barque/barquelaw10.ImagePuts", spec := "imagePuts", inPlace := ["internal/bytealg.CountString", "internal/bytealg.IndexByteString", "internal/bytealg.IndexString", "internal/abi.NoEscape"], unfollowed := true, recurses := true, named := ["unicode/utf8.first", "unicode/utf8.acceptRanges", "internal/bytealg.MaxLen"], apart := false, laid := [("unicode/utf8.acceptRanges", laid_unicode_utf8_acceptRanges), ("unicode/utf8.first", laid_unicode_utf8_first)] }
def ImagePutsSaid : Prop := imagePutsRow.holds Tryd.pinned (OpenSpec.ofChange imagePutsSpec)

/-- ITS FALSE NEIGHBOUR: 'it returns false'. Refute it at one input. -/
def imagePutsWrong : ChangeSpec := { name := "imagePuts", fn := fun _ => fun
  | [d1, d2] => { results := [.lit (.bool false)], args := [d1, d2] }
  | _ => none }
def ImagePutsWrongFalsely : Prop := imagePutsRow.holds Tryd.pinned (OpenSpec.ofChange imagePutsWrong)

/- THE SECOND FORM. 'bulk': how many values and letters a reading holds, each counted each time it is reached (what is shared counts as often as it is met; a slice's spare places count too). A statement '..UptoSaid' is the law's where the arguments, and the package variables that the reading takes, are together of bulk at most 1048576: NARROWER than '..Said'. Prove '..Said' where nothing that the law and all that it calls make is longer than what came in: it says more and counts as full. Else prove '..UptoSaid'. A law counts once. -/
mutual
def uptoBulk {H : Type} : DataW H → Nat
  | .lit (.string bytes) => bytes.length + 1
  | .lit _ => 1
  | .nil => 1
  | .ptr d => uptoBulk d + 1
  | .slice elems spare => uptoBulkAll elems + uptoBulkAll spare + 1
  | .agg parts => uptoBulkAll parts + 1
  | .iface _ d => uptoBulk d + 1
  | .map entries => uptoBulkEntries entries + 1
  | .held _ => 1
def uptoBulkAll {H : Type} : List (DataW H) → Nat
  | [] => 0
  | d :: r => uptoBulk d + uptoBulkAll r
def uptoBulkEntries {H : Type} : List (Lit × DataW H) → Nat
  | [] => 0
  | x :: r => uptoBulkEntry x + uptoBulkEntries r
def uptoBulkEntry {H : Type} : Lit × DataW H → Nat
  | (.string bytes, d) => bytes.length + uptoBulk d + 1
  | (_, d) => uptoBulk d + 1
 end
def uptoSmall : (H : Type) → List (DataW H) → Bool := fun _ ds => decide (uptoBulkAll ds ≤ 1048576)
def OpenSpec.upto (s : _root_.Go.ChangeSpec) : _root_.Go.OpenSpec := { _root_.Go.OpenSpec.ofChange s with cond := some uptoSmall }

/-- 'barquelaw10.ImageOfs', WHERE WHAT IT READS IS OF BULK AT MOST 1048576: true; the input reads as it did. -/
def imageOfsUptoRow : OpenClaim := { program := "ytmeofdpmddjbgaadoor", sum := "d3e31b9066b8259e963045c88ffbf6c0146f3f31d59b02d48b4f2863c6cca764", func := "barque/barquelaw10.ImageOfs", spec := "imageOfs", inPlace := ["internal/bytealg.CountString", "internal/bytealg.IndexByteString", "internal/bytealg.IndexString", "internal/abi.NoEscape"], unfollowed := true, recurses := true, named := ["unicode/utf8.first", "unicode/utf8.acceptRanges", "internal/bytealg.MaxLen"], apart := false, laid := [("unicode/utf8.acceptRanges", laid_unicode_utf8_acceptRanges), ("unicode/utf8.first", laid_unicode_utf8_first)], narrowed := true }
def ImageOfsUptoSaid : Prop := imageOfsUptoRow.holds Tryd.pinned (OpenSpec.upto imageOfsSpec)

/-- 'barquelaw10.ImageLong', WHERE WHAT IT READS IS OF BULK AT MOST 1048576: true; the input reads as it did. -/
def imageLongUptoRow : OpenClaim := { program := "ytmeofdpmddjbgaadoor", sum := "d3e31b9066b8259e963045c88ffbf6c0146f3f31d59b02d48b4f2863c6cca764", func := "barque/barquelaw10.ImageLong", spec := "imageLong", inPlace := ["internal/bytealg.CountString", "internal/bytealg.IndexByteString", "internal/bytealg.IndexString", "internal/abi.NoEscape"], unfollowed := true, recurses := true, named := ["unicode/utf8.first", "unicode/utf8.acceptRanges", "internal/bytealg.MaxLen"], apart := false, laid := [("unicode/utf8.acceptRanges", laid_unicode_utf8_acceptRanges), ("unicode/utf8.first", laid_unicode_utf8_first)], narrowed := true }
def ImageLongUptoSaid : Prop := imageLongUptoRow.holds Tryd.pinned (OpenSpec.upto imageLongSpec)

/-- 'barquelaw10.ImageTrees', WHERE WHAT IT READS IS OF BULK AT MOST 1048576: true; the input reads as it did. -/
def imageTreesUptoRow : OpenClaim := { program := "ytmeofdpmddjbgaadoor", sum := "d3e31b9066b8259e963045c88ffbf6c0146f3f31d59b02d48b4f2863c6cca764", func := "barque/barquelaw10.ImageTrees", spec := "imageTrees", inPlace := ["internal/bytealg.CountString", "internal/bytealg.IndexByteString", "internal/bytealg.IndexString", "internal/abi.NoEscape"], unfollowed := true, recurses := true, named := ["unicode/utf8.first", "unicode/utf8.acceptRanges", "internal/bytealg.MaxLen"], apart := false, laid := [("unicode/utf8.acceptRanges", laid_unicode_utf8_acceptRanges), ("unicode/utf8.first", laid_unicode_utf8_first)], narrowed := true }
def ImageTreesUptoSaid : Prop := imageTreesUptoRow.holds Tryd.pinned (OpenSpec.upto imageTreesSpec)

/-- 'barquelaw10.ImageBack', WHERE WHAT IT READS IS OF BULK AT MOST 1048576: true; the input reads as it did. -/
def imageBackUptoRow : OpenClaim := { program := "ytmeofdpmddjbgaadoor", sum := "d3e31b9066b8259e963045c88ffbf6c0146f3f31d59b02d48b4f2863c6cca764", func := "barque/barquelaw10.ImageBack", spec := "imageBack", inPlace := ["internal/bytealg.CountString", "internal/bytealg.IndexByteString", "internal/bytealg.IndexString", "internal/abi.NoEscape"], unfollowed := true, recurses := true, named := ["unicode/utf8.first", "unicode/utf8.acceptRanges", "internal/bytealg.MaxLen"], apart := false, laid := [("unicode/utf8.acceptRanges", laid_unicode_utf8_acceptRanges), ("unicode/utf8.first", laid_unicode_utf8_first)], narrowed := true }
def ImageBackUptoSaid : Prop := imageBackUptoRow.holds Tryd.pinned (OpenSpec.upto imageBackSpec)

/-- 'barquelaw10.ImageDrops', WHERE WHAT IT READS IS OF BULK AT MOST 1048576: true; the input reads as it did. -/
def imageDropsUptoRow : OpenClaim := { program := "ytmeofdpmddjbgaadoor", sum := "d3e31b9066b8259e963045c88ffbf6c0146f3f31d59b02d48b4f2863c6cca764", func := "barque/barquelaw10.ImageDrops", spec := "imageDrops", inPlace := ["internal/bytealg.CountString", "internal/bytealg.IndexByteString", "internal/bytealg.IndexString", "internal/abi.NoEscape"], unfollowed := true, recurses := true, named := ["unicode/utf8.first", "unicode/utf8.acceptRanges", "internal/bytealg.MaxLen"], apart := false, laid := [("unicode/utf8.acceptRanges", laid_unicode_utf8_acceptRanges), ("unicode/utf8.first", laid_unicode_utf8_first)], narrowed := true }
def ImageDropsUptoSaid : Prop := imageDropsUptoRow.holds Tryd.pinned (OpenSpec.upto imageDropsSpec)

/-- 'barquelaw10.ImageMerges', WHERE WHAT IT READS IS OF BULK AT MOST 1048576: true; the input reads as it did. -/
def imageMergesUptoRow : OpenClaim := { program := "ytmeofdpmddjbgaadoor", sum := "d3e31b9066b8259e963045c88ffbf6c0146f3f31d59b02d48b4f2863c6cca764", func := "barque/barquelaw10.ImageMerges", spec := "imageMerges", inPlace := ["internal/bytealg.CountString", "internal/bytealg.IndexByteString", "internal/bytealg.IndexString", "internal/abi.NoEscape"], unfollowed := true, recurses := true, named := ["unicode/utf8.first", "unicode/utf8.acceptRanges", "internal/bytealg.MaxLen"], apart := false, laid := [("unicode/utf8.acceptRanges", laid_unicode_utf8_acceptRanges), ("unicode/utf8.first", laid_unicode_utf8_first)], narrowed := true }
def ImageMergesUptoSaid : Prop := imageMergesUptoRow.holds Tryd.pinned (OpenSpec.upto imageMergesSpec)

/-- 'barquelaw10.ImageSides', WHERE WHAT IT READS IS OF BULK AT MOST 1048576: true; the input reads as it did. -/
def imageSidesUptoRow : OpenClaim := { program := "ytmeofdpmddjbgaadoor", sum := "d3e31b9066b8259e963045c88ffbf6c0146f3f31d59b02d48b4f2863c6cca764", func := "barque/barquelaw10.ImageSides", spec := "imageSides", inPlace := ["internal/bytealg.CountString", "internal/bytealg.IndexByteString", "internal/bytealg.IndexString", "internal/abi.NoEscape"], unfollowed := true, recurses := true, named := ["unicode/utf8.first", "unicode/utf8.acceptRanges", "internal/bytealg.MaxLen"], apart := false, laid := [("unicode/utf8.acceptRanges", laid_unicode_utf8_acceptRanges), ("unicode/utf8.first", laid_unicode_utf8_first)], narrowed := true }
def ImageSidesUptoSaid : Prop := imageSidesUptoRow.holds Tryd.pinned (OpenSpec.upto imageSidesSpec)

/-- 'barquelaw10.ImagePuts', WHERE WHAT IT READS IS OF BULK AT MOST 1048576: true; the input reads as it did. -/
def imagePutsUptoRow : OpenClaim := { program := "ytmeofdpmddjbgaadoor", sum := "d3e31b9066b8259e963045c88ffbf6c0146f3f31d59b02d48b4f2863c6cca764", func := "barque/barquelaw10.ImagePuts", spec := "imagePuts", inPlace := ["internal/bytealg.CountString", "internal/bytealg.IndexByteString", "internal/bytealg.IndexString", "internal/abi.NoEscape"], unfollowed := true, recurses := true, named := ["unicode/utf8.first", "unicode/utf8.acceptRanges", "internal/bytealg.MaxLen"], apart := false, laid := [("unicode/utf8.acceptRanges", laid_unicode_utf8_acceptRanges), ("unicode/utf8.first", laid_unicode_utf8_first)], narrowed := true }
def ImagePutsUptoSaid : Prop := imagePutsUptoRow.holds Tryd.pinned (OpenSpec.upto imagePutsSpec)

end Rows
end Go.Proofs.YtmeofdpmddjbgaaDoor
