/- The library's contracts at this program (laid by the kit's shelf, in plain words). -/
import Derived.Test.YtjaohekkmlkinaaDoorStr
import Derived.Shelf.Strings.Builder1
import Derived.Shelf.Strings.Builder2
import Derived.Shelf.Strings.OnBuilder
import Derived.Shelf.Strings.BuilderF
import Derived.Shelf.Strings.BuilderK
set_option linter.unusedSimpArgs false
set_option linter.unusedVariables false
set_option maxRecDepth 100000
set_option maxHeartbeats 25600000
namespace Go.Proofs.YtjaohekkmlkinaaDoor
section
open Go Go.Shelf Go.RowKit Go.Proofs
def shf_lays169_ren:Go.Shelf.Ren:=⟨fun|169=>55|n=>n,fun|70=>85|9=>9|0=>0|72=>88|37=>86|127=>124|3=>3|5=>5|n=>n,fun|n=>n⟩
theorem shf_lays169:Go.Proofs.Lays.n169 Tryd.prog shf_lays169_ren:={
 mixed:=by kernel_rfl
 f169:=Tryd.func55.trans (congrArg some (by kernel_rfl))
 t0:=Tryd.underlying0
 a0:=Tryd.isAgg0
 z0:=Tryd.sizeOf0
 v0:=Tryd.zeroValue0
 t3:=Tryd.underlying3
 a3:=Tryd.isAgg3
 z3:=Tryd.sizeOf3
 v3:=Tryd.zeroValue3
 t9:=Tryd.underlying9
 a9:=Tryd.isAgg9
 z9:=Tryd.sizeOf9
 v9:=Tryd.zeroValue9
 t37:=Tryd.underlying86
 a37:=Tryd.isAgg86
 z37:=Tryd.sizeOf86
 v37:=Tryd.zeroValue86
 t70:=Tryd.underlying85
 a70:=Tryd.isAgg85
 z70:=Tryd.sizeOf85
 v70:=Tryd.zeroValue85
 t72:=Tryd.underlying88
 a72:=Tryd.isAgg88
 z72:=Tryd.sizeOf88
 v72:=Tryd.zeroValue88
 t127:=Tryd.underlying124
 a127:=Tryd.isAgg124
 z127:=Tryd.sizeOf124
 v127:=Tryd.zeroValue124 }
theorem shf_Builder_Extra_169:Builder.Extra Tryd.prog shf_lays169_ren:={
 sizeBuilder:=by kernel_rfl
 liesBuilder:=by kernel_rfl
 t5:=Tryd.underlying5
 a5:=Tryd.isAgg5
 z5:=Tryd.sizeOf5
 v5:=Tryd.zeroValue5
 infoByte:=by kernel_rfl
 cellsByte:=by kernel_rfl
 sizeByte:=by kernel_rfl
 neB5:=by decide }
theorem shf_Builder_String_any (B b:Nat) (l:List UInt8) (w:World) (h:Lib.IsBuilder 88 5 B b (Lib.byteCells l) w) (hBw:B≤w.heap.size) :
  Calls Tryd.prog 55 #[.pointer (some ⟨b,0,none⟩)] w fun e w'=>e=.returned (.string ⟨l.toArray⟩)∧Below B w w':=Any.Builder_String_any shf_lays169 shf_Builder_Extra_169 B b l w h hBw
def shf_lays156_ren:Go.Shelf.Ren:=⟨fun|156=>89|165=>117|166=>52|169=>55|240=>87|241=>129|276=>115|277=>136|n=>n,fun|31=>51|9=>9|3=>3|4=>4|0=>0|20=>20|72=>88|76=>91|70=>85|37=>86|75=>90|127=>124|164=>141|5=>5|80=>93|n=>n,fun|n=>n⟩
theorem shf_lays156:Go.Proofs.Lays.n156 Tryd.prog shf_lays156_ren:={
 mixed:=by kernel_rfl
 f156:=Tryd.func89.trans (congrArg some (by kernel_rfl))
 f165:=Tryd.func117.trans (congrArg some (by kernel_rfl))
 f166:=Tryd.func52.trans (congrArg some (by kernel_rfl))
 f169:=Tryd.func55.trans (congrArg some (by kernel_rfl))
 f240:=Tryd.func87.trans (congrArg some (by kernel_rfl))
 f241:=Tryd.func129.trans (congrArg some (by kernel_rfl))
 f276:=Tryd.func115.trans (congrArg some (by kernel_rfl))
 f277:=Tryd.func136.trans (congrArg some (by kernel_rfl))
 t0:=Tryd.underlying0
 a0:=Tryd.isAgg0
 z0:=Tryd.sizeOf0
 v0:=Tryd.zeroValue0
 t3:=Tryd.underlying3
 a3:=Tryd.isAgg3
 z3:=Tryd.sizeOf3
 v3:=Tryd.zeroValue3
 t4:=Tryd.underlying4
 a4:=Tryd.isAgg4
 z4:=Tryd.sizeOf4
 v4:=Tryd.zeroValue4
 t9:=Tryd.underlying9
 a9:=Tryd.isAgg9
 z9:=Tryd.sizeOf9
 v9:=Tryd.zeroValue9
 t20:=Tryd.underlying20
 a20:=Tryd.isAgg20
 z20:=Tryd.sizeOf20
 v20:=Tryd.zeroValue20
 t31:=Tryd.underlying51
 a31:=Tryd.isAgg51
 z31:=Tryd.sizeOf51
 v31:=Tryd.zeroValue51
 t37:=Tryd.underlying86
 a37:=Tryd.isAgg86
 z37:=Tryd.sizeOf86
 v37:=Tryd.zeroValue86
 t70:=Tryd.underlying85
 a70:=Tryd.isAgg85
 z70:=Tryd.sizeOf85
 v70:=Tryd.zeroValue85
 t72:=Tryd.underlying88
 a72:=Tryd.isAgg88
 z72:=Tryd.sizeOf88
 v72:=Tryd.zeroValue88
 t75:=Tryd.underlying90
 a75:=Tryd.isAgg90
 z75:=Tryd.sizeOf90
 v75:=Tryd.zeroValue90
 t76:=Tryd.underlying91
 a76:=Tryd.isAgg91
 z76:=Tryd.sizeOf91
 v76:=Tryd.zeroValue91
 t127:=Tryd.underlying124
 a127:=Tryd.isAgg124
 z127:=Tryd.sizeOf124
 v127:=Tryd.zeroValue124
 t164:=Tryd.underlying141
 a164:=Tryd.isAgg141
 z164:=Tryd.sizeOf141
 v164:=Tryd.zeroValue141 }
theorem shf_Builder_Extra_156:Builder.Extra Tryd.prog shf_lays156_ren:={
 sizeBuilder:=by kernel_rfl
 liesBuilder:=by kernel_rfl
 t5:=Tryd.underlying5
 a5:=Tryd.isAgg5
 z5:=Tryd.sizeOf5
 v5:=Tryd.zeroValue5
 infoByte:=by kernel_rfl
 cellsByte:=by kernel_rfl
 sizeByte:=by kernel_rfl
 neB5:=by decide }
theorem shf_strings_Join (bk o c:Nat) (xs:List ByteArray) (sep:ByteArray) (w:World) (hcells:∀ (j:Nat) x,xs[j]? = some x→w.cell? ⟨bk,o+j,none⟩=some (.string x)) (hbk:bk<w.heap.size) (hN:xs.length≤140737488355328) (hcap:xs.length≤c) (hlen:(Lib.join (xs.map (·.data.toList)) sep.data.toList).length≤140737488355328) :
  Calls Tryd.prog 89 #[.slice (some ⟨bk,o,none⟩) xs.length c,.string sep] w fun e w'=>e=.returned (.string ⟨(Lib.join (xs.map (·.data.toList)) sep.data.toList).toArray⟩)∧Below w.heap.size w w':=Any.strings_Join shf_lays156 shf_Builder_Extra_156 bk o c xs sep w hcells hbk hN hcap hlen
end
end Go.Proofs.YtjaohekkmlkinaaDoor
