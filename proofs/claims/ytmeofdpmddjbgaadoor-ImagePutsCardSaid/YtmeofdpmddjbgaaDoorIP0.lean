/- Texts of this session's claim of ImagePuts, less what its theorem does not reach. No condition. -/
import Derived.Shelf.LaysM
import Derived.Shelf.Strings.Builder1
import Derived.Shelf.Strings.BuilderF
import Derived.Shelf.Strings.BuilderK
import Derived.Shelf.Strings.Count
import Derived.Shelf.Strings.Search1
import Derived.Shelf.Strings.Search2
import Derived.Shelf.Strings.Search3
import Derived.Shelf.Strings.Shaped
import Derived.Shelf.Strings.Split
import Derived.Shelf.Strings.SplitShaped
import Derived.Shelf.Unicode.DecodeSlow
import Derived.Test.YtmeofdpmddjbgaaDoorProg
section
namespace Go.Proofs
open Go.Shelf
def Tryd.lays170_ren:Go.Shelf.Ren:=⟨fun|170=>31|n=>n,fun|70=>52|3=>3|0=>0|72=>54|37=>31|5=>5|n=>n,fun|n=>n⟩
theorem Tryd.lays170:Go.Proofs.Lays.n170 Tryd.prog Tryd.lays170_ren:={
 mixed:=by kernel_rfl
 f170:=Tryd.func31.trans (congrArg some (by kernel_rfl))
 t0:=Tryd.underlying0
 a0:=Tryd.isAgg0
 z0:=Tryd.sizeOf0
 v0:=Tryd.zeroValue0
 t3:=Tryd.underlying3
 a3:=Tryd.isAgg3
 z3:=Tryd.sizeOf3
 v3:=Tryd.zeroValue3
 t37:=Tryd.underlying31
 a37:=Tryd.isAgg31
 z37:=Tryd.sizeOf31
 v37:=Tryd.zeroValue31
 t70:=Tryd.underlying52
 a70:=Tryd.isAgg52
 z70:=Tryd.sizeOf52
 v70:=Tryd.zeroValue52
 t72:=Tryd.underlying54
 a72:=Tryd.isAgg54
 z72:=Tryd.sizeOf54
 v72:=Tryd.zeroValue54 }
open Go.RowKit in
theorem Tryd.Builder_Len (B b:Nat) (bs:List Value) (w:World) (h:Lib.IsBuilder 54 5 B b bs w) :
  Calls Tryd.prog 31 #[.pointer (some ⟨b,0,none⟩)] w fun e w'=>e=.returned (.int .i64 bs.length)∧w'=w:=Any.Builder_Len Tryd.lays170 B b bs w h
def Tryd.lays169_ren:Go.Shelf.Ren:=⟨fun|169=>32|n=>n,fun|70=>52|9=>9|0=>0|72=>54|37=>31|127=>84|3=>3|5=>5|n=>n,fun|n=>n⟩
theorem Tryd.lays169:Go.Proofs.Lays.n169 Tryd.prog Tryd.lays169_ren:={
 mixed:=by kernel_rfl
 f169:=Tryd.func32.trans (congrArg some (by kernel_rfl))
 t0:=Tryd.underlying0
 a0:=Tryd.isAgg0
 z0:=Tryd.sizeOf0
 v0:=Tryd.zeroValue0
 t3:=Tryd.underlying3
 a3:=Tryd.isAgg3
 z3:=Tryd.sizeOf3
 v3:=Tryd.zeroValue3
 t9:=Tryd.underlying9
 a9:=Tryd.isAgg9
 z9:=Tryd.sizeOf9
 v9:=Tryd.zeroValue9
 t37:=Tryd.underlying31
 a37:=Tryd.isAgg31
 z37:=Tryd.sizeOf31
 v37:=Tryd.zeroValue31
 t70:=Tryd.underlying52
 a70:=Tryd.isAgg52
 z70:=Tryd.sizeOf52
 v70:=Tryd.zeroValue52
 t72:=Tryd.underlying54
 a72:=Tryd.isAgg54
 z72:=Tryd.sizeOf54
 v72:=Tryd.zeroValue54
 t127:=Tryd.underlying84
 a127:=Tryd.isAgg84
 z127:=Tryd.sizeOf84
 v127:=Tryd.zeroValue84 }
theorem Tryd.Builder_Extra_169:Builder.Extra Tryd.prog Tryd.lays169_ren:={
 sizeBuilder:=by kernel_rfl
 liesBuilder:=by kernel_rfl
 t5:=Tryd.underlying5
 a5:=Tryd.isAgg5
 z5:=Tryd.sizeOf5
 v5:=Tryd.zeroValue5
 infoByte:=by kernel_rfl
 cellsByte:=by kernel_rfl
 sizeByte:=by kernel_rfl
 neB5:=by decide }
open Go.RowKit in
theorem Tryd.Builder_String_any (B b:Nat) (l:List UInt8) (w:World) (h:Lib.IsBuilder 54 5 B b (Lib.byteCells l) w) (hBw:B≤w.heap.size) :
  Calls Tryd.prog 32 #[.pointer (some ⟨b,0,none⟩)] w fun e w'=>e=.returned (.string ⟨l.toArray⟩)∧Below B w w':=Any.Builder_String_any Tryd.lays169 Tryd.Builder_Extra_169 B b l w h hBw
def Tryd.lays219_ren:Go.Shelf.Ren:=⟨fun|219=>96|217=>98|225=>99|224=>100|267=>101|266=>102|314=>103|n=>n,fun|9=>9|3=>3|4=>4|5=>5|46=>83|146=>120|51=>119|n=>n,fun|1=>0|n=>n⟩
def Tryd.lays143_ren:Go.Shelf.Ren:=⟨fun|143=>91|219=>96|217=>98|225=>99|224=>100|267=>101|266=>102|314=>103|n=>n,fun|9=>9|3=>3|4=>4|5=>5|46=>83|146=>120|51=>119|n=>n,fun|1=>0|n=>n⟩
theorem Tryd.lays143:Go.Proofs.Lays.n143 Tryd.prog Tryd.lays143_ren:={
 mixed:=by kernel_rfl
 f143:=Tryd.func91.trans (congrArg some (by kernel_rfl))
 f217:=Tryd.func98.trans (congrArg some (by kernel_rfl))
 f219:=Tryd.func96.trans (congrArg some (by kernel_rfl))
 f224:=Tryd.func100.trans (congrArg some (by kernel_rfl))
 f225:=Tryd.func99.trans (congrArg some (by kernel_rfl))
 f266:=Tryd.func102.trans (congrArg some (by kernel_rfl))
 f267:=Tryd.func101.trans (congrArg some (by kernel_rfl))
 f314:=Tryd.func103.trans (congrArg some (by kernel_rfl))
 t3:=Tryd.underlying3
 a3:=Tryd.isAgg3
 z3:=Tryd.sizeOf3
 v3:=Tryd.zeroValue3
 t4:=Tryd.underlying4
 a4:=Tryd.isAgg4
 z4:=Tryd.sizeOf4
 v4:=Tryd.zeroValue4
 t5:=Tryd.underlying5
 a5:=Tryd.isAgg5
 z5:=Tryd.sizeOf5
 v5:=Tryd.zeroValue5
 t9:=Tryd.underlying9
 a9:=Tryd.isAgg9
 z9:=Tryd.sizeOf9
 v9:=Tryd.zeroValue9
 t46:=Tryd.underlying83
 a46:=Tryd.isAgg83
 z46:=Tryd.sizeOf83
 v46:=Tryd.zeroValue83
 t51:=Tryd.underlying119
 a51:=Tryd.isAgg119
 z51:=Tryd.sizeOf119
 v51:=Tryd.zeroValue119
 t146:=Tryd.underlying120
 a146:=Tryd.isAgg120
 z146:=Tryd.sizeOf120
 v146:=Tryd.zeroValue120
 g1:=by kernel_rfl }
open Go.RowKit Go.Lib in
theorem Tryd.strings_Index_one (s:ByteArray) (c:UInt8) (w:World) :
  Calls Tryd.prog 91 #[.string s,.string ⟨#[c]⟩] w fun e w'=>e=.returned (.int .i64 (Lib.indexByte s.data.toList c))∧w'=w:=Any.strings_Index_one Tryd.lays143 s c w
def Tryd.lays138_ren:Go.Shelf.Ren:=⟨fun|138=>90|195=>93|218=>95|143=>91|219=>96|217=>98|225=>99|224=>100|267=>101|266=>102|314=>103|n=>n,fun|9=>9|3=>3|4=>4|5=>5|0=>0|46=>83|146=>120|51=>119|n=>n,fun|1=>0|n=>n⟩
theorem Tryd.lays138:Go.Proofs.Lays.n138 Tryd.prog Tryd.lays138_ren:={
 mixed:=by kernel_rfl
 f138:=Tryd.func90.trans (congrArg some (by kernel_rfl))
 f143:=Tryd.func91.trans (congrArg some (by kernel_rfl))
 f195:=Tryd.func93.trans (congrArg some (by kernel_rfl))
 f217:=Tryd.func98.trans (congrArg some (by kernel_rfl))
 f218:=Tryd.func95.trans (congrArg some (by kernel_rfl))
 f219:=Tryd.func96.trans (congrArg some (by kernel_rfl))
 f224:=Tryd.func100.trans (congrArg some (by kernel_rfl))
 f225:=Tryd.func99.trans (congrArg some (by kernel_rfl))
 f266:=Tryd.func102.trans (congrArg some (by kernel_rfl))
 f267:=Tryd.func101.trans (congrArg some (by kernel_rfl))
 f314:=Tryd.func103.trans (congrArg some (by kernel_rfl))
 t0:=Tryd.underlying0
 a0:=Tryd.isAgg0
 z0:=Tryd.sizeOf0
 v0:=Tryd.zeroValue0
 t3:=Tryd.underlying3
 a3:=Tryd.isAgg3
 z3:=Tryd.sizeOf3
 v3:=Tryd.zeroValue3
 t4:=Tryd.underlying4
 a4:=Tryd.isAgg4
 z4:=Tryd.sizeOf4
 v4:=Tryd.zeroValue4
 t5:=Tryd.underlying5
 a5:=Tryd.isAgg5
 z5:=Tryd.sizeOf5
 v5:=Tryd.zeroValue5
 t9:=Tryd.underlying9
 a9:=Tryd.isAgg9
 z9:=Tryd.sizeOf9
 v9:=Tryd.zeroValue9
 t46:=Tryd.underlying83
 a46:=Tryd.isAgg83
 z46:=Tryd.sizeOf83
 v46:=Tryd.zeroValue83
 t51:=Tryd.underlying119
 a51:=Tryd.isAgg119
 z51:=Tryd.sizeOf119
 v51:=Tryd.zeroValue119
 t146:=Tryd.underlying120
 a146:=Tryd.isAgg120
 z146:=Tryd.sizeOf120
 v146:=Tryd.zeroValue120
 g1:=by kernel_rfl }
open Go.RowKit Go.Lib in
theorem Tryd.strings_Count_one (s:ByteArray) (c:UInt8) (w:World) :
  Calls Tryd.prog 90 #[.string s,.string ⟨#[c]⟩] w fun e w'=>e=.returned (.int .i64 (Lib.countByte s.data.toList c))∧w'=w:=Any.strings_Count_one Tryd.lays138 s c w
def Tryd.lays221_ren:Go.Shelf.Ren:=⟨fun|221=>87|268=>89|138=>90|143=>91|195=>93|197=>94|218=>95|219=>96|260=>97|217=>98|225=>99|224=>100|267=>101|266=>102|314=>103|n=>n,fun|9=>9|3=>3|31=>43|4=>4|0=>0|105=>112|21=>21|5=>5|46=>83|119=>115|139=>118|138=>117|146=>120|51=>119|n=>n,fun|1=>0|3=>1|4=>2|n=>n⟩
theorem Tryd.lays221:Go.Proofs.Lays.n221 Tryd.prog Tryd.lays221_ren:={
 mixed:=by kernel_rfl
 f138:=Tryd.func90.trans (congrArg some (by kernel_rfl))
 f143:=Tryd.func91.trans (congrArg some (by kernel_rfl))
 f195:=Tryd.func93.trans (congrArg some (by kernel_rfl))
 f197:=Tryd.func94.trans (congrArg some (by kernel_rfl))
 f217:=Tryd.func98.trans (congrArg some (by kernel_rfl))
 f218:=Tryd.func95.trans (congrArg some (by kernel_rfl))
 f219:=Tryd.func96.trans (congrArg some (by kernel_rfl))
 f221:=Tryd.func87.trans (congrArg some (by kernel_rfl))
 f224:=Tryd.func100.trans (congrArg some (by kernel_rfl))
 f225:=Tryd.func99.trans (congrArg some (by kernel_rfl))
 f260:=Tryd.func97.trans (congrArg some (by kernel_rfl))
 f266:=Tryd.func102.trans (congrArg some (by kernel_rfl))
 f267:=Tryd.func101.trans (congrArg some (by kernel_rfl))
 f268:=Tryd.func89.trans (congrArg some (by kernel_rfl))
 f314:=Tryd.func103.trans (congrArg some (by kernel_rfl))
 t0:=Tryd.underlying0
 a0:=Tryd.isAgg0
 z0:=Tryd.sizeOf0
 v0:=Tryd.zeroValue0
 t3:=Tryd.underlying3
 a3:=Tryd.isAgg3
 z3:=Tryd.sizeOf3
 v3:=Tryd.zeroValue3
 t4:=Tryd.underlying4
 a4:=Tryd.isAgg4
 z4:=Tryd.sizeOf4
 v4:=Tryd.zeroValue4
 t5:=Tryd.underlying5
 a5:=Tryd.isAgg5
 z5:=Tryd.sizeOf5
 v5:=Tryd.zeroValue5
 t9:=Tryd.underlying9
 a9:=Tryd.isAgg9
 z9:=Tryd.sizeOf9
 v9:=Tryd.zeroValue9
 t21:=Tryd.underlying21
 a21:=Tryd.isAgg21
 z21:=Tryd.sizeOf21
 v21:=Tryd.zeroValue21
 t31:=Tryd.underlying43
 a31:=Tryd.isAgg43
 z31:=Tryd.sizeOf43
 v31:=Tryd.zeroValue43
 t46:=Tryd.underlying83
 a46:=Tryd.isAgg83
 z46:=Tryd.sizeOf83
 v46:=Tryd.zeroValue83
 t51:=Tryd.underlying119
 a51:=Tryd.isAgg119
 z51:=Tryd.sizeOf119
 v51:=Tryd.zeroValue119
 t105:=Tryd.underlying112
 a105:=Tryd.isAgg112
 z105:=Tryd.sizeOf112
 v105:=Tryd.zeroValue112
 t119:=Tryd.underlying115
 a119:=Tryd.isAgg115
 z119:=Tryd.sizeOf115
 t138:=Tryd.underlying117
 a138:=Tryd.isAgg117
 z138:=Tryd.sizeOf117
 v138:=Tryd.zeroValue117
 t139:=Tryd.underlying118
 a139:=Tryd.isAgg118
 z139:=Tryd.sizeOf118
 v139:=Tryd.zeroValue118
 t146:=Tryd.underlying120
 a146:=Tryd.isAgg120
 z146:=Tryd.sizeOf120
 v146:=Tryd.zeroValue120
 g1:=by kernel_rfl
 g3:=by kernel_rfl
 g4:=by kernel_rfl }
def Tryd.lays146_ren:Go.Shelf.Ren:=⟨fun|146=>81|221=>87|268=>89|138=>90|143=>91|195=>93|197=>94|218=>95|219=>96|260=>97|217=>98|225=>99|224=>100|267=>101|266=>102|314=>103|n=>n,fun|9=>9|31=>43|3=>3|4=>4|0=>0|105=>112|21=>21|5=>5|46=>83|119=>115|139=>118|138=>117|146=>120|51=>119|n=>n,fun|1=>0|3=>1|4=>2|n=>n⟩
theorem Tryd.lays146:Go.Proofs.Lays.n146 Tryd.prog Tryd.lays146_ren:={
 mixed:=by kernel_rfl
 f138:=Tryd.func90.trans (congrArg some (by kernel_rfl))
 f143:=Tryd.func91.trans (congrArg some (by kernel_rfl))
 f146:=Tryd.func81.trans (congrArg some (by kernel_rfl))
 f195:=Tryd.func93.trans (congrArg some (by kernel_rfl))
 f197:=Tryd.func94.trans (congrArg some (by kernel_rfl))
 f217:=Tryd.func98.trans (congrArg some (by kernel_rfl))
 f218:=Tryd.func95.trans (congrArg some (by kernel_rfl))
 f219:=Tryd.func96.trans (congrArg some (by kernel_rfl))
 f221:=Tryd.func87.trans (congrArg some (by kernel_rfl))
 f224:=Tryd.func100.trans (congrArg some (by kernel_rfl))
 f225:=Tryd.func99.trans (congrArg some (by kernel_rfl))
 f260:=Tryd.func97.trans (congrArg some (by kernel_rfl))
 f266:=Tryd.func102.trans (congrArg some (by kernel_rfl))
 f267:=Tryd.func101.trans (congrArg some (by kernel_rfl))
 f268:=Tryd.func89.trans (congrArg some (by kernel_rfl))
 f314:=Tryd.func103.trans (congrArg some (by kernel_rfl))
 t0:=Tryd.underlying0
 a0:=Tryd.isAgg0
 z0:=Tryd.sizeOf0
 v0:=Tryd.zeroValue0
 t3:=Tryd.underlying3
 a3:=Tryd.isAgg3
 z3:=Tryd.sizeOf3
 v3:=Tryd.zeroValue3
 t4:=Tryd.underlying4
 a4:=Tryd.isAgg4
 z4:=Tryd.sizeOf4
 v4:=Tryd.zeroValue4
 t5:=Tryd.underlying5
 a5:=Tryd.isAgg5
 z5:=Tryd.sizeOf5
 v5:=Tryd.zeroValue5
 t9:=Tryd.underlying9
 a9:=Tryd.isAgg9
 z9:=Tryd.sizeOf9
 v9:=Tryd.zeroValue9
 t21:=Tryd.underlying21
 a21:=Tryd.isAgg21
 z21:=Tryd.sizeOf21
 v21:=Tryd.zeroValue21
 t31:=Tryd.underlying43
 a31:=Tryd.isAgg43
 z31:=Tryd.sizeOf43
 v31:=Tryd.zeroValue43
 t46:=Tryd.underlying83
 a46:=Tryd.isAgg83
 z46:=Tryd.sizeOf83
 v46:=Tryd.zeroValue83
 t51:=Tryd.underlying119
 a51:=Tryd.isAgg119
 z51:=Tryd.sizeOf119
 v51:=Tryd.zeroValue119
 t105:=Tryd.underlying112
 a105:=Tryd.isAgg112
 z105:=Tryd.sizeOf112
 v105:=Tryd.zeroValue112
 t119:=Tryd.underlying115
 a119:=Tryd.isAgg115
 z119:=Tryd.sizeOf115
 t138:=Tryd.underlying117
 a138:=Tryd.isAgg117
 z138:=Tryd.sizeOf117
 v138:=Tryd.zeroValue117
 t139:=Tryd.underlying118
 a139:=Tryd.isAgg118
 z139:=Tryd.sizeOf118
 v139:=Tryd.zeroValue118
 t146:=Tryd.underlying120
 a146:=Tryd.isAgg120
 z146:=Tryd.sizeOf120
 v146:=Tryd.zeroValue120
 g1:=by kernel_rfl
 g3:=by kernel_rfl
 g4:=by kernel_rfl }
open Go.RowKit Go.Lib in
theorem Tryd.strings_Split (s sep:ByteArray) (m:Int) (w:World) (hs:s.size < 4294967281) (hm:w.cell? ⟨0,0,none⟩=some (.int .i64 m)) (h1:1≤sep.size) :
  Calls Tryd.prog 81 #[.string s,.string sep] w fun e w' =>
   e=.returned (.slice (some ⟨w.heap.size,0,none⟩) (Lib.countB s sep + 1) (Lib.countB s sep + 1))∧w'=w.alloc (.cells ((Lib.splitB sep 0 (Lib.countB s sep) s).map Value.string).toArray 9):=Any.strings_Split Tryd.lays146 (by kernel_rfl) s sep m w hs hm h1
end Go.Proofs
end
