/- The library's contracts at this program (laid by the kit's shelf, in plain words). -/
import Derived.Test.YtjaohekkmlkinaaDoorStr
import Derived.Shelf.Strings.Builder1
import Derived.Shelf.Strings.Builder2
import Derived.Shelf.Strings.OnBuilder
import Derived.Shelf.Small.Wraps
import Derived.Shelf.Strings.BuilderF
import Derived.Shelf.Strings.BuilderK
import Derived.Shelf.Utf8.RuneCount
import Derived.Shelf.Strings.Search1
import Derived.Shelf.Strings.Search2
import Derived.Shelf.Strings.Search3
import Derived.Shelf.Strings.Cut
import Derived.Shelf.Strings.Count
import Derived.Shelf.LaysM
import Derived.Shelf.Strings.Shaped
import Derived.Shelf.Strings.Prefix
import Derived.Shelf.Strings.Split
import Derived.Shelf.Strings.SplitShaped
import Derived.Shelf.Unicode.Decode
import Derived.Shelf.Strings.RuneCount
import Derived.Shelf.Strings.Explode
import Derived.Shelf.Unicode.DecodeSlow
import Derived.Shelf.Unicode.DecodeAny
set_option linter.unusedSimpArgs false
set_option linter.unusedVariables false
namespace Go.Proofs.YtjaohekkmlkinaaDoor
open Go Go.Shelf Go.RowKit Go.Proofs
def shg_lays103_ren:Go.Shelf.Ren:=⟨fun|103=>35|210=>69|206=>105|n=>n,fun|9=>9|4=>4|24=>71|3=>3|n=>n,fun|n=>n⟩
theorem shg_lays103:Go.Proofs.Lays.n103 Tryd.prog shg_lays103_ren:={
 mixed:=by kernel_rfl
 f103:=Tryd.func35.trans (congrArg some (by kernel_rfl))
 f206:=Tryd.func105.trans (congrArg some (by kernel_rfl))
 f210:=Tryd.func69.trans (congrArg some (by kernel_rfl))
 t3:=Tryd.underlying3
 a3:=Tryd.isAgg3
 z3:=Tryd.sizeOf3
 v3:=Tryd.zeroValue3
 t4:=Tryd.underlying4
 a4:=Tryd.isAgg4
 z4:=Tryd.sizeOf4
 v4:=Tryd.zeroValue4
 t9:=Tryd.underlying9
 a9:=Tryd.isAgg9
 z9:=Tryd.sizeOf9
 v9:=Tryd.zeroValue9
 t24:=Tryd.underlying71
 a24:=Tryd.isAgg71
 z24:=Tryd.sizeOf71
 v24:=Tryd.zeroValue71 }
theorem shg_strings_CutPrefix (s p:ByteArray) (w:World) :
  Calls Tryd.prog 35 #[.string s,.string p] w fun e w'=>e=.returned (.tuple #[.string ⟨(Lib.trimPrefix s.data.toList p.data.toList).toArray⟩,.bool (Lib.hasPrefix s.data.toList p.data.toList)])∧w'=w:=Any.strings_CutPrefix shg_lays103 s p w
def shg_lays104_ren:Go.Shelf.Ren:=⟨fun|104=>107|211=>128|207=>135|n=>n,fun|9=>9|4=>4|24=>71|3=>3|n=>n,fun|n=>n⟩
theorem shg_lays104:Go.Proofs.Lays.n104 Tryd.prog shg_lays104_ren:={
 mixed:=by kernel_rfl
 f104:=Tryd.func107.trans (congrArg some (by kernel_rfl))
 f207:=Tryd.func135.trans (congrArg some (by kernel_rfl))
 f211:=Tryd.func128.trans (congrArg some (by kernel_rfl))
 t3:=Tryd.underlying3
 a3:=Tryd.isAgg3
 z3:=Tryd.sizeOf3
 v3:=Tryd.zeroValue3
 t4:=Tryd.underlying4
 a4:=Tryd.isAgg4
 z4:=Tryd.sizeOf4
 v4:=Tryd.zeroValue4
 t9:=Tryd.underlying9
 a9:=Tryd.isAgg9
 z9:=Tryd.sizeOf9
 v9:=Tryd.zeroValue9
 t24:=Tryd.underlying71
 a24:=Tryd.isAgg71
 z24:=Tryd.sizeOf71
 v24:=Tryd.zeroValue71 }
theorem shg_strings_CutSuffix (s p:ByteArray) (w:World) (hs:s.size≤9223372036854775807) :
  Calls Tryd.prog 107 #[.string s,.string p] w fun e w'=>e=.returned (.tuple #[.string ⟨(Lib.trimSuffix s.data.toList p.data.toList).toArray⟩,.bool (Lib.hasSuffix s.data.toList p.data.toList)])∧w'=w:=Any.strings_CutSuffix shg_lays104 s p w hs
def shg_lays145_ren:Go.Shelf.Ren:=⟨fun|145=>70|220=>106|219=>127|217=>131|225=>132|224=>133|267=>134|266=>137|314=>138|n=>n,fun|9=>9|4=>4|59=>109|3=>3|5=>5|46=>151|146=>158|51=>157|n=>n,fun|1=>1|n=>n⟩
theorem shg_lays145:Go.Proofs.Lays.n145 Tryd.prog shg_lays145_ren:={
 mixed:=by kernel_rfl
 f145:=Tryd.func70.trans (congrArg some (by kernel_rfl))
 f217:=Tryd.func131.trans (congrArg some (by kernel_rfl))
 f219:=Tryd.func127.trans (congrArg some (by kernel_rfl))
 f220:=Tryd.func106.trans (congrArg some (by kernel_rfl))
 f224:=Tryd.func133.trans (congrArg some (by kernel_rfl))
 f225:=Tryd.func132.trans (congrArg some (by kernel_rfl))
 f266:=Tryd.func137.trans (congrArg some (by kernel_rfl))
 f267:=Tryd.func134.trans (congrArg some (by kernel_rfl))
 f314:=Tryd.func138.trans (congrArg some (by kernel_rfl))
 t3:=Tryd.underlying3
 a3:=Tryd.isAgg3
 z3:=Tryd.sizeOf3
 v3:=Tryd.zeroValue3
 t4:=Tryd.underlying4
 a4:=Tryd.isAgg4
 z4:=Tryd.sizeOf4
 v4:=Tryd.zeroValue4
 t5:=Tryd.underlying5
 a5:=Tryd.isAgg5
 z5:=Tryd.sizeOf5
 v5:=Tryd.zeroValue5
 t9:=Tryd.underlying9
 a9:=Tryd.isAgg9
 z9:=Tryd.sizeOf9
 v9:=Tryd.zeroValue9
 t46:=Tryd.underlying151
 a46:=Tryd.isAgg151
 z46:=Tryd.sizeOf151
 v46:=Tryd.zeroValue151
 t51:=Tryd.underlying157
 a51:=Tryd.isAgg157
 z51:=Tryd.sizeOf157
 v51:=Tryd.zeroValue157
 t59:=Tryd.underlying109
 a59:=Tryd.isAgg109
 z59:=Tryd.sizeOf109
 v59:=Tryd.zeroValue109
 t146:=Tryd.underlying158
 a146:=Tryd.isAgg158
 z146:=Tryd.sizeOf158
 v146:=Tryd.zeroValue158
 g1:=by kernel_rfl }
theorem shg_strings_Cut (s sep:ByteArray) (m:Int) (w:World) (hs:s.size<4294967281) (hm:w.cell? ⟨1,0,none⟩=some (.int .i64 m)) :
  Calls Tryd.prog 70 #[.string s,.string sep] w fun e w'=>e=.returned (.tuple #[.string ⟨(Lib.cut s.data.toList sep.data.toList).1.toArray⟩,.string ⟨(Lib.cut s.data.toList sep.data.toList).2.1.toArray⟩,.bool (Lib.cut s.data.toList sep.data.toList).2.2])∧∃ n,w'=w.drewN n:=Any.strings_Cut shg_lays145 s sep m w hs hm
def shg_lays146_ren:Go.Shelf.Ren:=⟨fun|146=>71|221=>68|268=>102|138=>103|143=>104|195=>124|197=>125|218=>126|219=>127|260=>130|217=>131|225=>132|224=>133|267=>134|266=>137|314=>138|n=>n,fun|9=>9|31=>51|3=>3|4=>4|0=>0|105=>147|21=>21|5=>5|46=>151|119=>153|139=>156|138=>155|146=>158|51=>157|n=>n,fun|1=>1|3=>2|4=>3|n=>n⟩
theorem shg_lays146:Go.Proofs.Lays.n146 Tryd.prog shg_lays146_ren:={
 mixed:=by kernel_rfl
 f138:=Tryd.func103.trans (congrArg some (by kernel_rfl))
 f143:=Tryd.func104.trans (congrArg some (by kernel_rfl))
 f146:=Tryd.func71.trans (congrArg some (by kernel_rfl))
 f195:=Tryd.func124.trans (congrArg some (by kernel_rfl))
 f197:=Tryd.func125.trans (congrArg some (by kernel_rfl))
 f217:=Tryd.func131.trans (congrArg some (by kernel_rfl))
 f218:=Tryd.func126.trans (congrArg some (by kernel_rfl))
 f219:=Tryd.func127.trans (congrArg some (by kernel_rfl))
 f221:=Tryd.func68.trans (congrArg some (by kernel_rfl))
 f224:=Tryd.func133.trans (congrArg some (by kernel_rfl))
 f225:=Tryd.func132.trans (congrArg some (by kernel_rfl))
 f260:=Tryd.func130.trans (congrArg some (by kernel_rfl))
 f266:=Tryd.func137.trans (congrArg some (by kernel_rfl))
 f267:=Tryd.func134.trans (congrArg some (by kernel_rfl))
 f268:=Tryd.func102.trans (congrArg some (by kernel_rfl))
 f314:=Tryd.func138.trans (congrArg some (by kernel_rfl))
 t0:=Tryd.underlying0
 a0:=Tryd.isAgg0
 z0:=Tryd.sizeOf0
 v0:=Tryd.zeroValue0
 t3:=Tryd.underlying3
 a3:=Tryd.isAgg3
 z3:=Tryd.sizeOf3
 v3:=Tryd.zeroValue3
 t4:=Tryd.underlying4
 a4:=Tryd.isAgg4
 z4:=Tryd.sizeOf4
 v4:=Tryd.zeroValue4
 t5:=Tryd.underlying5
 a5:=Tryd.isAgg5
 z5:=Tryd.sizeOf5
 v5:=Tryd.zeroValue5
 t9:=Tryd.underlying9
 a9:=Tryd.isAgg9
 z9:=Tryd.sizeOf9
 v9:=Tryd.zeroValue9
 t21:=Tryd.underlying21
 a21:=Tryd.isAgg21
 z21:=Tryd.sizeOf21
 v21:=Tryd.zeroValue21
 t31:=Tryd.underlying51
 a31:=Tryd.isAgg51
 z31:=Tryd.sizeOf51
 v31:=Tryd.zeroValue51
 t46:=Tryd.underlying151
 a46:=Tryd.isAgg151
 z46:=Tryd.sizeOf151
 v46:=Tryd.zeroValue151
 t51:=Tryd.underlying157
 a51:=Tryd.isAgg157
 z51:=Tryd.sizeOf157
 v51:=Tryd.zeroValue157
 t105:=Tryd.underlying147
 a105:=Tryd.isAgg147
 z105:=Tryd.sizeOf147
 v105:=Tryd.zeroValue147
 t119:=Tryd.underlying153
 a119:=Tryd.isAgg153
 z119:=Tryd.sizeOf153
 t138:=Tryd.underlying155
 a138:=Tryd.isAgg155
 z138:=Tryd.sizeOf155
 v138:=Tryd.zeroValue155
 t139:=Tryd.underlying156
 a139:=Tryd.isAgg156
 z139:=Tryd.sizeOf156
 v139:=Tryd.zeroValue156
 t146:=Tryd.underlying158
 a146:=Tryd.isAgg158
 z146:=Tryd.sizeOf158
 v146:=Tryd.zeroValue158
 g1:=by kernel_rfl
 g3:=by kernel_rfl
 g4:=by kernel_rfl }
theorem shg_strings_Split (s sep:ByteArray) (m:Int) (w:World) (hs:s.size<4294967281) (hm:w.cell? ⟨1,0,none⟩=some (.int .i64 m)) (h1:1≤sep.size) :
  Calls Tryd.prog 71 #[.string s,.string sep] w fun e w'=>
   e=.returned (.slice (some ⟨w.heap.size,0,none⟩) (Lib.countB s sep+1) (Lib.countB s sep+1))∧w'=w.alloc (.cells ((Lib.splitB sep 0 (Lib.countB s sep) s).map Value.string).toArray 9):=Any.strings_Split shg_lays146 (by kernel_rfl) s sep m w hs hm h1
def shg_lays147_ren:Go.Shelf.Ren:=⟨fun|147=>34|221=>68|268=>102|138=>103|143=>104|195=>124|197=>125|218=>126|219=>127|260=>130|217=>131|225=>132|224=>133|267=>134|266=>137|314=>138|n=>n,fun|9=>9|3=>3|31=>51|4=>4|0=>0|105=>147|21=>21|5=>5|46=>151|119=>153|139=>156|138=>155|146=>158|51=>157|n=>n,fun|1=>1|3=>2|4=>3|n=>n⟩
theorem shg_lays147:Go.Proofs.Lays.n147 Tryd.prog shg_lays147_ren:={
 mixed:=by kernel_rfl
 f138:=Tryd.func103.trans (congrArg some (by kernel_rfl))
 f143:=Tryd.func104.trans (congrArg some (by kernel_rfl))
 f147:=Tryd.func34.trans (congrArg some (by kernel_rfl))
 f195:=Tryd.func124.trans (congrArg some (by kernel_rfl))
 f197:=Tryd.func125.trans (congrArg some (by kernel_rfl))
 f217:=Tryd.func131.trans (congrArg some (by kernel_rfl))
 f218:=Tryd.func126.trans (congrArg some (by kernel_rfl))
 f219:=Tryd.func127.trans (congrArg some (by kernel_rfl))
 f221:=Tryd.func68.trans (congrArg some (by kernel_rfl))
 f224:=Tryd.func133.trans (congrArg some (by kernel_rfl))
 f225:=Tryd.func132.trans (congrArg some (by kernel_rfl))
 f260:=Tryd.func130.trans (congrArg some (by kernel_rfl))
 f266:=Tryd.func137.trans (congrArg some (by kernel_rfl))
 f267:=Tryd.func134.trans (congrArg some (by kernel_rfl))
 f268:=Tryd.func102.trans (congrArg some (by kernel_rfl))
 f314:=Tryd.func138.trans (congrArg some (by kernel_rfl))
 t0:=Tryd.underlying0
 a0:=Tryd.isAgg0
 z0:=Tryd.sizeOf0
 v0:=Tryd.zeroValue0
 t3:=Tryd.underlying3
 a3:=Tryd.isAgg3
 z3:=Tryd.sizeOf3
 v3:=Tryd.zeroValue3
 t4:=Tryd.underlying4
 a4:=Tryd.isAgg4
 z4:=Tryd.sizeOf4
 v4:=Tryd.zeroValue4
 t5:=Tryd.underlying5
 a5:=Tryd.isAgg5
 z5:=Tryd.sizeOf5
 v5:=Tryd.zeroValue5
 t9:=Tryd.underlying9
 a9:=Tryd.isAgg9
 z9:=Tryd.sizeOf9
 v9:=Tryd.zeroValue9
 t21:=Tryd.underlying21
 a21:=Tryd.isAgg21
 z21:=Tryd.sizeOf21
 v21:=Tryd.zeroValue21
 t31:=Tryd.underlying51
 a31:=Tryd.isAgg51
 z31:=Tryd.sizeOf51
 v31:=Tryd.zeroValue51
 t46:=Tryd.underlying151
 a46:=Tryd.isAgg151
 z46:=Tryd.sizeOf151
 v46:=Tryd.zeroValue151
 t51:=Tryd.underlying157
 a51:=Tryd.isAgg157
 z51:=Tryd.sizeOf157
 v51:=Tryd.zeroValue157
 t105:=Tryd.underlying147
 a105:=Tryd.isAgg147
 z105:=Tryd.sizeOf147
 v105:=Tryd.zeroValue147
 t119:=Tryd.underlying153
 a119:=Tryd.isAgg153
 z119:=Tryd.sizeOf153
 t138:=Tryd.underlying155
 a138:=Tryd.isAgg155
 z138:=Tryd.sizeOf155
 v138:=Tryd.zeroValue155
 t139:=Tryd.underlying156
 a139:=Tryd.isAgg156
 z139:=Tryd.sizeOf156
 v139:=Tryd.zeroValue156
 t146:=Tryd.underlying158
 a146:=Tryd.isAgg158
 z146:=Tryd.sizeOf158
 v146:=Tryd.zeroValue158
 g1:=by kernel_rfl
 g3:=by kernel_rfl
 g4:=by kernel_rfl }
theorem shg_strings_SplitN (s sep:ByteArray) (n:Nat) (m:Int) (w:World) (hs:s.size<4294967281) (hm:w.cell? ⟨1,0,none⟩=some (.int .i64 m)) (h1:1≤sep.size) (hn:1≤n) (hn63:n≤9223372036854775807) :
  Calls Tryd.prog 34 #[.string s,.string sep,.int .i64 n] w fun e w'=>
   e=.returned (.slice (some ⟨w.heap.size,0,none⟩) (Lib.splitB sep 0 (min n (s.size+1) - 1) s).length (min n (s.size+1)))∧w'=w.alloc (.cells (Lib.cellsOf (Lib.splitB sep 0 (min n (s.size+1) - 1) s) (min n (s.size+1))) 9):=Any.strings_SplitN shg_lays147 (by kernel_rfl) s sep n m w hs hm h1 hn hn63
end Go.Proofs.YtjaohekkmlkinaaDoor
