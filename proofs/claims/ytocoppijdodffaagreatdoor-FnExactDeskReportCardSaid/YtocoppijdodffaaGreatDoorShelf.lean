/-
  DERIVED: THE SHELF's CONTRACTS AT THIS DUMP, IN PLAIN WORDS (tools/lay-plain.mjs out of 'TryzShelf.lean', which tools/lay-shelf.mjs wrote): THE SAME DECLARATIONS UNDER THE SAME NAMES: 'import', 'namespace', 'open', 'def', 'theorem' AND NOTHING ELSE: no command of the shelf's: FOR A HAND-IN. Each laying: the table of numbers ('.._ren') and one theorem, a field a fact of the dump's own or the kernel's comparison; each contract: ONE APPLICATION.
-/
import Derived.Shelf.Strings.Builder1
import Derived.Shelf.Strings.Builder2
import Derived.Shelf.Strings.OnBuilder
import Derived.Shelf.Small.Utf8
import Derived.Shelf.Small.Bits
import Derived.Shelf.Strings.BuilderF
import Derived.Shelf.Strings.BuilderK
import Derived.Shelf.Strings.BuilderRune
import Derived.Shelf.Strconv.Itoa0
import Derived.Shelf.Strconv.Itoa1
import Derived.Shelf.LaysM
import Derived.Shelf.Strconv.Itoa2
import Derived.Shelf.Strconv.Itoa3
import Derived.Shelf.Strconv.Itoa4
import Derived.Shelf.Sort.Plain
import Derived.Shelf.Unicode.Latin
import Derived.Shelf.Unicode.DecodeSlow
import Derived.Shelf.Unicode.DecodeAny
import Derived.Shelf.Strings.FieldsFuncAny
import Derived.Shelf.Unicode.CaseLookup
import Derived.Shelf.Unicode.CaseConvert
import Derived.Shelf.Unicode.CaseTo
import Derived.Shelf.Unicode.CaseLaid
import Derived.Shelf.Strings.MapAny
import Derived.Shelf.Strings.CaseAny
import Derived.Shelf.Strings.FieldsFuncGrows
import Derived.Shelf.Slices.CompactS
import Derived.Shelf.Slices.In.SortNone
import Derived.Test.YtocoppijdodffaaGreatDoorProg
import Derived.Test.YtocoppijdodffaaGreatDoorRows
import Derived.Test.YtocoppijdodffaaGreatDoorChecked
import Derived.ProofKit
import Derived.Stop.Joined
import Derived.SevenTiedAt
namespace Go.Proofs
open Go.Shelf
def Tryz.TJ:Go.Shelf.Ren:=⟨fun|159=>270|165=>273|166=>274|167=>297|169=>275|230=>298|204=>299|240=>300|241=>301|197=>328|118=>329|168=>330|270=>331|262=>332|276=>333|277=>334|260=>347|242=>348|313=>349|278=>353|274=>354|275=>355|n=>n,fun|9=>9|4=>4|3=>3|5=>5|72=>347|0=>0|76=>351|75=>350|107=>377|70=>345|20=>20|37=>128|127=>378|21=>21|105=>400|164=>406|162=>422|203=>420|119=>426|46=>356|139=>429|138=>428|51=>364|160=>430|208=>436|206=>434|80=>353|n=>n,fun|13=>5|3=>8|4=>9|n=>n⟩
theorem Tryz.aeB:Go.Proofs.Lays.n159 Tryz.prog Tryz.TJ:= {
 mixed:=by kernel_rfl
 f118:=Tryz.func329.trans (congrArg some (by kernel_rfl))
 f159:=Tryz.func270.trans (congrArg some (by kernel_rfl))
 f165:=Tryz.func273.trans (congrArg some (by kernel_rfl))
 f166:=Tryz.func274.trans (congrArg some (by kernel_rfl))
 f167:=Tryz.func297.trans (congrArg some (by kernel_rfl))
 f168:=Tryz.func330.trans (congrArg some (by kernel_rfl))
 f169:=Tryz.func275.trans (congrArg some (by kernel_rfl))
 f197:=Tryz.func328.trans (congrArg some (by kernel_rfl))
 f204:=Tryz.func299.trans (congrArg some (by kernel_rfl))
 f230:=Tryz.func298.trans (congrArg some (by kernel_rfl))
 f240:=Tryz.func300.trans (congrArg some (by kernel_rfl))
 f241:=Tryz.func301.trans (congrArg some (by kernel_rfl))
 f242:=Tryz.func348.trans (congrArg some (by kernel_rfl))
 f260:=Tryz.func347.trans (congrArg some (by kernel_rfl))
 f262:=Tryz.func332.trans (congrArg some (by kernel_rfl))
 f270:=Tryz.func331.trans (congrArg some (by kernel_rfl))
 f274:=Tryz.func354.trans (congrArg some (by kernel_rfl))
 f275:=Tryz.func355.trans (congrArg some (by kernel_rfl))
 f276:=Tryz.func333.trans (congrArg some (by kernel_rfl))
 f277:=Tryz.func334.trans (congrArg some (by kernel_rfl))
 f278:=Tryz.func353.trans (congrArg some (by kernel_rfl))
 f313:=Tryz.func349.trans (congrArg some (by kernel_rfl))
 t0:=Tryz.underlying0
 a0:=Tryz.isAgg0
 z0:=Tryz.sizeOf0
 v0:=Tryz.zeroValue0
 t3:=Tryz.underlying3
 a3:=Tryz.isAgg3
 z3:=Tryz.sizeOf3
 v3:=Tryz.zeroValue3
 t4:=Tryz.underlying4
 a4:=Tryz.isAgg4
 z4:=Tryz.sizeOf4
 v4:=Tryz.zeroValue4
 t5:=Tryz.underlying5
 a5:=Tryz.isAgg5
 z5:=Tryz.sizeOf5
 v5:=Tryz.zeroValue5
 t9:=Tryz.underlying9
 a9:=Tryz.isAgg9
 z9:=Tryz.sizeOf9
 v9:=Tryz.zeroValue9
 t20:=Tryz.underlying20
 a20:=Tryz.isAgg20
 z20:=Tryz.sizeOf20
 v20:=Tryz.zeroValue20
 t21:=Tryz.underlying21
 a21:=Tryz.isAgg21
 z21:=Tryz.sizeOf21
 v21:=Tryz.zeroValue21
 t37:=Tryz.underlying128
 a37:=Tryz.isAgg128
 z37:=Tryz.sizeOf128
 v37:=Tryz.zeroValue128
 t46:=Tryz.underlying356
 a46:=Tryz.isAgg356
 z46:=Tryz.sizeOf356
 v46:=Tryz.zeroValue356
 t51:=Tryz.underlying364
 a51:=Tryz.isAgg364
 z51:=Tryz.sizeOf364
 v51:=Tryz.zeroValue364
 t70:=Tryz.underlying345
 a70:=Tryz.isAgg345
 z70:=Tryz.sizeOf345
 v70:=Tryz.zeroValue345
 t72:=Tryz.underlying347
 a72:=Tryz.isAgg347
 z72:=Tryz.sizeOf347
 v72:=Tryz.zeroValue347
 t75:=Tryz.underlying350
 a75:=Tryz.isAgg350
 z75:=Tryz.sizeOf350
 v75:=Tryz.zeroValue350
 t76:=Tryz.underlying351
 a76:=Tryz.isAgg351
 z76:=Tryz.sizeOf351
 v76:=Tryz.zeroValue351
 t105:=Tryz.underlying400
 a105:=Tryz.isAgg400
 z105:=Tryz.sizeOf400
 v105:=Tryz.zeroValue400
 t107:=Tryz.underlying377
 a107:=Tryz.isAgg377
 z107:=Tryz.sizeOf377
 v107:=Tryz.zeroValue377
 t119:=Tryz.underlying426
 a119:=Tryz.isAgg426
 z119:=Tryz.sizeOf426
 t127:=Tryz.underlying378
 a127:=Tryz.isAgg378
 z127:=Tryz.sizeOf378
 v127:=Tryz.zeroValue378
 t138:=Tryz.underlying428
 a138:=Tryz.isAgg428
 z138:=Tryz.sizeOf428
 v138:=Tryz.zeroValue428
 t139:=Tryz.underlying429
 a139:=Tryz.isAgg429
 z139:=Tryz.sizeOf429
 v139:=Tryz.zeroValue429
 t160:=Tryz.underlying430
 a160:=Tryz.isAgg430
 z160:=Tryz.sizeOf430
 v160:=Tryz.zeroValue430
 t162:=Tryz.underlying422
 a162:=Tryz.isAgg422
 z162:=Tryz.sizeOf422
 v162:=Tryz.zeroValue422
 t164:=Tryz.underlying406
 a164:=Tryz.isAgg406
 z164:=Tryz.sizeOf406
 v164:=Tryz.zeroValue406
 t203:=Tryz.underlying420
 a203:=Tryz.isAgg420
 z203:=Tryz.sizeOf420
 v203:=Tryz.zeroValue420
 t206:=Tryz.underlying434
 a206:=Tryz.isAgg434
 z206:=Tryz.sizeOf434
 v206:=Tryz.zeroValue434
 t208:=Tryz.underlying436
 a208:=Tryz.isAgg436
 z208:=Tryz.sizeOf436
 v208:=Tryz.zeroValue436
 g3:=by kernel_rfl
 g4:=by kernel_rfl
 g13:=by kernel_rfl }
theorem Tryz.Xu:Builder.Extra Tryz.prog Tryz.TJ:= {
 sizeBuilder:=by kernel_rfl
 liesBuilder:=by kernel_rfl
 t5:=Tryz.underlying5
 a5:=Tryz.isAgg5
 z5:=Tryz.sizeOf5
 v5:=Tryz.zeroValue5
 infoByte:=by kernel_rfl
 cellsByte:=by kernel_rfl
 sizeByte:=by kernel_rfl
 neB5:=by decide }
open Go.RowKit in
theorem Tryz.strings_ToLower_ascii(s:ByteArray)(w:World)(hs:s.size≤140737488355328)(hascii: ∀(j:Nat) (b:UInt8),s.data.toList[j]? =some b→b.toNat<128):
 Calls Tryz.prog 270 #[.string s] w fun e w'=>e= .returned (.string ⟨(Lib.toLowerA s.data.toList).toArray⟩)∧Below w.heap.size w w':=Any.strings_ToLower_ascii Tryz.aeB Tryz.Xu s w hs hascii
def Tryz.lays156_ren:Go.Shelf.Ren:=⟨fun|156=>225|165=>273|166=>274|169=>275|240=>300|241=>301|276=>333|277=>334|n=>n,fun|31=>43|9=>9|3=>3|4=>4|0=>0|20=>20|72=>347|76=>351|70=>345|37=>128|75=>350|127=>378|164=>406|5=>5|80=>353|n=>n,fun|n=>n⟩
theorem Tryz.lays156:Go.Proofs.Lays.n156 Tryz.prog Tryz.lays156_ren:= {
 mixed:=by kernel_rfl
 f156:=Tryz.func225.trans (congrArg some (by kernel_rfl))
 f165:=Tryz.func273.trans (congrArg some (by kernel_rfl))
 f166:=Tryz.func274.trans (congrArg some (by kernel_rfl))
 f169:=Tryz.func275.trans (congrArg some (by kernel_rfl))
 f240:=Tryz.func300.trans (congrArg some (by kernel_rfl))
 f241:=Tryz.func301.trans (congrArg some (by kernel_rfl))
 f276:=Tryz.func333.trans (congrArg some (by kernel_rfl))
 f277:=Tryz.func334.trans (congrArg some (by kernel_rfl))
 t0:=Tryz.underlying0
 a0:=Tryz.isAgg0
 z0:=Tryz.sizeOf0
 v0:=Tryz.zeroValue0
 t3:=Tryz.underlying3
 a3:=Tryz.isAgg3
 z3:=Tryz.sizeOf3
 v3:=Tryz.zeroValue3
 t4:=Tryz.underlying4
 a4:=Tryz.isAgg4
 z4:=Tryz.sizeOf4
 v4:=Tryz.zeroValue4
 t9:=Tryz.underlying9
 a9:=Tryz.isAgg9
 z9:=Tryz.sizeOf9
 v9:=Tryz.zeroValue9
 t20:=Tryz.underlying20
 a20:=Tryz.isAgg20
 z20:=Tryz.sizeOf20
 v20:=Tryz.zeroValue20
 t31:=Tryz.underlying43
 a31:=Tryz.isAgg43
 z31:=Tryz.sizeOf43
 v31:=Tryz.zeroValue43
 t37:=Tryz.underlying128
 a37:=Tryz.isAgg128
 z37:=Tryz.sizeOf128
 v37:=Tryz.zeroValue128
 t70:=Tryz.underlying345
 a70:=Tryz.isAgg345
 z70:=Tryz.sizeOf345
 v70:=Tryz.zeroValue345
 t72:=Tryz.underlying347
 a72:=Tryz.isAgg347
 z72:=Tryz.sizeOf347
 v72:=Tryz.zeroValue347
 t75:=Tryz.underlying350
 a75:=Tryz.isAgg350
 z75:=Tryz.sizeOf350
 v75:=Tryz.zeroValue350
 t76:=Tryz.underlying351
 a76:=Tryz.isAgg351
 z76:=Tryz.sizeOf351
 v76:=Tryz.zeroValue351
 t127:=Tryz.underlying378
 a127:=Tryz.isAgg378
 z127:=Tryz.sizeOf378
 v127:=Tryz.zeroValue378
 t164:=Tryz.underlying406
 a164:=Tryz.isAgg406
 z164:=Tryz.sizeOf406
 v164:=Tryz.zeroValue406 }
theorem Tryz.Builder_Extra_156:Builder.Extra Tryz.prog Tryz.lays156_ren:= {
 sizeBuilder:=by kernel_rfl
 liesBuilder:=by kernel_rfl
 t5:=Tryz.underlying5
 a5:=Tryz.isAgg5
 z5:=Tryz.sizeOf5
 v5:=Tryz.zeroValue5
 infoByte:=by kernel_rfl
 cellsByte:=by kernel_rfl
 sizeByte:=by kernel_rfl
 neB5:=by decide }
open Go.RowKit in
theorem Tryz.strings_Join_none(a:Option Addr)(c:Nat)(sep:ByteArray)(w:World):
 Calls Tryz.prog 225 #[.slice a 0 c, .string sep] w fun e w'=>e= .returned (.string ⟨#[]⟩)∧w'=w:=Any.strings_Join_none Tryz.lays156 Tryz.Builder_Extra_156 a c sep w
open Go.RowKit in
theorem Tryz.strings_Join(bk o c:Nat)(xs:List ByteArray)(sep:ByteArray)(w:World)(hcells: ∀(j:Nat) x,xs[j]? =some x→w.cell? ⟨bk,o+j,none⟩=some (.string x))(hbk:bk<w.heap.size)(hN:xs.length≤140737488355328)(hcap:xs.length≤c)(hlen:(Lib.join (xs.map (·.data.toList)) sep.data.toList).length≤140737488355328):
 Calls Tryz.prog 225 #[.slice (some ⟨bk,o,none⟩) xs.length c, .string sep] w fun e w'=>e= .returned (.string ⟨(Lib.join (xs.map (·.data.toList)) sep.data.toList).toArray⟩)∧Below w.heap.size w w':=Any.strings_Join Tryz.lays156 Tryz.Builder_Extra_156 bk o c xs sep w hcells hbk hN hcap hlen
def Tryz.aeF:Go.Shelf.Ren:=⟨fun|246=>170|283=>238|284=>239|285=>240|286=>241|129=>286|317=>285|318=>287|319=>288|320=>289|337=>322|338=>323|n=>n,fun|2=>2|3=>3|9=>9|4=>4|171=>315|0=>0|53=>316|37=>128|5=>5|173=>319|212=>363|51=>364|20=>20|213=>365|46=>356|232=>417|233=>418|n=>n,fun|17=>1|18=>3|19=>4|n=>n⟩
theorem Tryz.laysM246:Go.Proofs.LaysM.n246 Tryz.prog Tryz.aeF:= {
 mixed:=by kernel_rfl
 f129:=Tryz.func286.trans (congrArg some (by kernel_rfl))
 f246:=Tryz.func170.trans (congrArg some (by kernel_rfl))
 f283:=Tryz.func238.trans (congrArg some (by kernel_rfl))
 f284:=Tryz.func239.trans (congrArg some (by kernel_rfl))
 f285:=Tryz.func240.trans (congrArg some (by kernel_rfl))
 f286:=Tryz.func241.trans (congrArg some (by kernel_rfl))
 f317:=Tryz.func285.trans (congrArg some (by kernel_rfl))
 f318:=Tryz.func287.trans (congrArg some (by kernel_rfl))
 f319:=Tryz.func288.trans (congrArg some (by kernel_rfl))
 f320:=Tryz.func289.trans (congrArg some (by kernel_rfl))
 f337:=Tryz.func322.trans (congrArg some (by kernel_rfl))
 f338:=Tryz.func323.trans (congrArg some (by kernel_rfl))
 t0:=Tryz.underlying0
 a0:=Tryz.isAgg0
 z0:=Tryz.sizeOf0
 v0:=Tryz.zeroValue0
 t2:=Tryz.underlying2
 a2:=Tryz.isAgg2
 z2:=Tryz.sizeOf2
 v2:=Tryz.zeroValue2
 t3:=Tryz.underlying3
 a3:=Tryz.isAgg3
 z3:=Tryz.sizeOf3
 v3:=Tryz.zeroValue3
 t4:=Tryz.underlying4
 a4:=Tryz.isAgg4
 z4:=Tryz.sizeOf4
 v4:=Tryz.zeroValue4
 t5:=Tryz.underlying5
 a5:=Tryz.isAgg5
 z5:=Tryz.sizeOf5
 v5:=Tryz.zeroValue5
 t9:=Tryz.underlying9
 a9:=Tryz.isAgg9
 z9:=Tryz.sizeOf9
 v9:=Tryz.zeroValue9
 t20:=Tryz.underlying20
 a20:=Tryz.isAgg20
 z20:=Tryz.sizeOf20
 v20:=Tryz.zeroValue20
 t37:=Tryz.underlying128
 a37:=Tryz.isAgg128
 z37:=Tryz.sizeOf128
 v37:=Tryz.zeroValue128
 t46:=Tryz.underlying356
 a46:=Tryz.isAgg356
 z46:=Tryz.sizeOf356
 v46:=Tryz.zeroValue356
 t51:=Tryz.underlying364
 a51:=Tryz.isAgg364
 z51:=Tryz.sizeOf364
 v51:=Tryz.zeroValue364
 t53:=Tryz.underlying316
 a53:=Tryz.isAgg316
 z53:=Tryz.sizeOf316
 v53:=Tryz.zeroValue316
 t171:=Tryz.underlying315
 a171:=Tryz.isAgg315
 z171:=Tryz.sizeOf315
 v171:=Tryz.zeroValue315
 t173:=Tryz.underlying319
 a173:=Tryz.isAgg319
 z173:=Tryz.sizeOf319
 v173:=Tryz.zeroValue319
 t212:=Tryz.underlying363
 a212:=Tryz.isAgg363
 z212:=Tryz.sizeOf363
 v212:=Tryz.zeroValue363
 t213:=Tryz.underlying365
 a213:=Tryz.isAgg365
 z213:=Tryz.sizeOf365
 t232:=Tryz.underlying417
 a232:=Tryz.isAgg417
 z232:=Tryz.sizeOf417
 v232:=Tryz.zeroValue417
 t233:=Tryz.underlying418
 a233:=Tryz.isAgg418
 z233:=Tryz.sizeOf418
 v233:=Tryz.zeroValue418
 g17:=by kernel_rfl
 g18:=by kernel_rfl
 g19:=by kernel_rfl
 i0:=by kernel_rfl
 i2:=by kernel_rfl
 i3:=by kernel_rfl
 i4:=by kernel_rfl
 i5:=by kernel_rfl
 i9:=by kernel_rfl
 i20:=by kernel_rfl
 i37:=by kernel_rfl
 i46:=by kernel_rfl
 i51:=by kernel_rfl
 i53:=by kernel_rfl
 i171:=by kernel_rfl
 i173:=by kernel_rfl
 i212:=by kernel_rfl
 i232:=by kernel_rfl
 i233:=by kernel_rfl
 m17:=by kernel_rfl
 m18:=by kernel_rfl
 m19:=by kernel_rfl }
open Go.RowKit Go.Sort Go.Lib in
theorem Tryz.internal_strconv_FormatInt_10(n:Int)(h0: -9223372036854775808≤n)(h1:n≤9223372036854775807)(w:World)(htab:Lib.TabIs Tryz.prog w "internal/strconv.uint64pow10" .u64 Lib.pow10Tab):
 Calls Tryz.prog 170 #[.int .i64 n, .int .i64 10] w fun e w'=>e= .returned (.string ⟨(Lib.itoa n).toArray⟩)∧ ∃k os,w'=grow (w.drewN k) os:=Any.internal_strconv_FormatInt_10 Tryz.laysM246 n h0 h1 w htab
def Tryz.aeC:Go.Shelf.Ren:=⟨fun|190=>228|125=>277|258=>276|128=>311|129=>286|302=>302|303=>303|304=>304|305=>305|306=>306|307=>307|308=>308|309=>309|310=>310|333=>335|329=>336|330=>337|334=>338|335=>339|336=>296|344=>350|n=>n,fun|31=>43|9=>9|3=>3|46=>356|0=>0|51=>364|53=>316|4=>4|183=>381|182=>380|131=>386|5=>5|218=>409|222=>413|228=>423|229=>424|n=>n,fun|n=>n⟩
theorem Tryz.lays190:Go.Proofs.Lays.n190 Tryz.prog Tryz.aeC:= {
 mixed:=by kernel_rfl
 f125:=Tryz.func277.trans (congrArg some (by kernel_rfl))
 f128:=Tryz.func311.trans (congrArg some (by kernel_rfl))
 f129:=Tryz.func286.trans (congrArg some (by kernel_rfl))
 f190:=Tryz.func228.trans (congrArg some (by kernel_rfl))
 f258:=Tryz.func276.trans (congrArg some (by kernel_rfl))
 f302:=Tryz.func302.trans (congrArg some (by kernel_rfl))
 f303:=Tryz.func303.trans (congrArg some (by kernel_rfl))
 f304:=Tryz.func304.trans (congrArg some (by kernel_rfl))
 f305:=Tryz.func305.trans (congrArg some (by kernel_rfl))
 f306:=Tryz.func306.trans (congrArg some (by kernel_rfl))
 f307:=Tryz.func307.trans (congrArg some (by kernel_rfl))
 f308:=Tryz.func308.trans (congrArg some (by kernel_rfl))
 f309:=Tryz.func309.trans (congrArg some (by kernel_rfl))
 f310:=Tryz.func310.trans (congrArg some (by kernel_rfl))
 f329:=Tryz.func336.trans (congrArg some (by kernel_rfl))
 f330:=Tryz.func337.trans (congrArg some (by kernel_rfl))
 f333:=Tryz.func335.trans (congrArg some (by kernel_rfl))
 f334:=Tryz.func338.trans (congrArg some (by kernel_rfl))
 f335:=Tryz.func339.trans (congrArg some (by kernel_rfl))
 f336:=Tryz.func296.trans (congrArg some (by kernel_rfl))
 f344:=Tryz.func350.trans (congrArg some (by kernel_rfl))
 t0:=Tryz.underlying0
 a0:=Tryz.isAgg0
 z0:=Tryz.sizeOf0
 v0:=Tryz.zeroValue0
 t3:=Tryz.underlying3
 a3:=Tryz.isAgg3
 z3:=Tryz.sizeOf3
 v3:=Tryz.zeroValue3
 t4:=Tryz.underlying4
 a4:=Tryz.isAgg4
 z4:=Tryz.sizeOf4
 v4:=Tryz.zeroValue4
 t5:=Tryz.underlying5
 a5:=Tryz.isAgg5
 z5:=Tryz.sizeOf5
 v5:=Tryz.zeroValue5
 t9:=Tryz.underlying9
 a9:=Tryz.isAgg9
 z9:=Tryz.sizeOf9
 v9:=Tryz.zeroValue9
 t31:=Tryz.underlying43
 a31:=Tryz.isAgg43
 z31:=Tryz.sizeOf43
 v31:=Tryz.zeroValue43
 t46:=Tryz.underlying356
 a46:=Tryz.isAgg356
 z46:=Tryz.sizeOf356
 v46:=Tryz.zeroValue356
 t51:=Tryz.underlying364
 a51:=Tryz.isAgg364
 z51:=Tryz.sizeOf364
 v51:=Tryz.zeroValue364
 t53:=Tryz.underlying316
 a53:=Tryz.isAgg316
 z53:=Tryz.sizeOf316
 v53:=Tryz.zeroValue316
 t131:=Tryz.underlying386
 a131:=Tryz.isAgg386
 z131:=Tryz.sizeOf386
 v131:=Tryz.zeroValue386
 t182:=Tryz.underlying380
 a182:=Tryz.isAgg380
 z182:=Tryz.sizeOf380
 v182:=Tryz.zeroValue380
 t183:=Tryz.underlying381
 a183:=Tryz.isAgg381
 z183:=Tryz.sizeOf381
 v183:=Tryz.zeroValue381
 t218:=Tryz.underlying409
 a218:=Tryz.isAgg409
 z218:=Tryz.sizeOf409
 v218:=Tryz.zeroValue409
 t222:=Tryz.underlying413
 a222:=Tryz.isAgg413
 z222:=Tryz.sizeOf413
 v222:=Tryz.zeroValue413
 t228:=Tryz.underlying423
 a228:=Tryz.isAgg423
 z228:=Tryz.sizeOf423
 v228:=Tryz.zeroValue423
 t229:=Tryz.underlying424
 a229:=Tryz.isAgg424
 z229:=Tryz.sizeOf424
 v229:=Tryz.zeroValue424 }
open Go.Sort Go.RowKit in
theorem Tryz.slices_Sort_string(blk off cap:Nat)(ss:List (List UInt8))(w:World)(hH:Holds encStr w blk off ss.toArray)(hblk:blk<w.heap.size)(hsz:ss.length<4611686018427387904):
 Calls Tryz.prog 228 #[.slice (some ⟨blk,off,none⟩) ss.length cap] w fun e w'=>
  e= .returned (.tuple #[])∧ ∃n os,w'=grow (putRow encStr (Sort.ahead w n) blk off (ss.mergeSort fun x y=>decide (x≤y)).toArray) os:=Any.slices_Sort_string Tryz.lays190 blk off cap ss w hH hblk hsz
def Tryz.aeE:Go.Shelf.Ren:=⟨fun|229=>269|n=>n,fun|9=>9|40=>343|31=>43|152=>372|3=>3|0=>0|4=>4|21=>21|154=>374|n=>n,fun|n=>n⟩
theorem Tryz.aeD:Go.Proofs.Lays.n229 Tryz.prog Tryz.aeE:= {
 mixed:=by kernel_rfl
 f229:=Tryz.func269.trans (congrArg some (by kernel_rfl))
 t0:=Tryz.underlying0
 a0:=Tryz.isAgg0
 z0:=Tryz.sizeOf0
 v0:=Tryz.zeroValue0
 t3:=Tryz.underlying3
 a3:=Tryz.isAgg3
 z3:=Tryz.sizeOf3
 v3:=Tryz.zeroValue3
 t4:=Tryz.underlying4
 a4:=Tryz.isAgg4
 z4:=Tryz.sizeOf4
 v4:=Tryz.zeroValue4
 t9:=Tryz.underlying9
 a9:=Tryz.isAgg9
 z9:=Tryz.sizeOf9
 v9:=Tryz.zeroValue9
 t21:=Tryz.underlying21
 a21:=Tryz.isAgg21
 z21:=Tryz.sizeOf21
 v21:=Tryz.zeroValue21
 t31:=Tryz.underlying43
 a31:=Tryz.isAgg43
 z31:=Tryz.sizeOf43
 v31:=Tryz.zeroValue43
 t40:=Tryz.underlying343
 a40:=Tryz.isAgg343
 z40:=Tryz.sizeOf343
 v40:=Tryz.zeroValue343
 t152:=Tryz.underlying372
 a152:=Tryz.isAgg372
 z152:=Tryz.sizeOf372
 v152:=Tryz.zeroValue372
 t154:=Tryz.underlying374
 a154:=Tryz.isAgg374
 z154:=Tryz.sizeOf374
 v154:=Tryz.zeroValue374 }
open Go.RowKit Go.Lib in
theorem Tryz.strings_FieldsFunc_grows(g:Nat)(lb:Array Value)(eg: ∀args w,(callFunc g args).run Tryz.prog w= .ok (.enter g args) w)(p:Nat→Bool)(s:ByteArray)(w:World)(hs:s.size≤4294967296)(hp:PredGrows Tryz.prog g lb p w):
 Calls Tryz.prog 269 #[.string s, .func (.func g) #[] lb] w fun e w'=> ∃A,e= .returned (.slice (some ⟨A,0,none⟩) (Lib.goFieldsP p s).length (Lib.goFieldsP p s).length)∧w.heap.size≤A∧
  w'.ownsRow w.heap.size 9 1 (.slice (some ⟨A,0,none⟩) (Lib.goFieldsP p s).length (Lib.goFieldsP p s).length) (Lib.goFieldsP p s).length ((Lib.goFieldsP p s).map Value.string)∧Below w.heap.size w w':=Any.strings_FieldsFunc_grows Tryz.aeD g lb eg p s w hs hp (by kernel_rfl) (by kernel_rfl)
def Tryz.lays194_ren:Go.Shelf.Ren:=⟨fun|194=>229|n=>n,fun|31=>43|9=>9|3=>3|4=>4|0=>0|n=>n,fun|n=>n⟩
theorem Tryz.lays194:Go.Proofs.Lays.n194 Tryz.prog Tryz.lays194_ren:= {
 mixed:=by kernel_rfl
 f194:=Tryz.func229.trans (congrArg some (by kernel_rfl))
 t0:=Tryz.underlying0
 a0:=Tryz.isAgg0
 z0:=Tryz.sizeOf0
 v0:=Tryz.zeroValue0
 t3:=Tryz.underlying3
 a3:=Tryz.isAgg3
 z3:=Tryz.sizeOf3
 v3:=Tryz.zeroValue3
 t4:=Tryz.underlying4
 a4:=Tryz.isAgg4
 z4:=Tryz.sizeOf4
 v4:=Tryz.zeroValue4
 t9:=Tryz.underlying9
 a9:=Tryz.isAgg9
 z9:=Tryz.sizeOf9
 v9:=Tryz.zeroValue9
 t31:=Tryz.underlying43
 a31:=Tryz.isAgg43
 z31:=Tryz.sizeOf43
 v31:=Tryz.zeroValue43 }
open Go.RowKit Go.Lib Go.Sort in
theorem Tryz.slices_Compact_string(blk off cap:Nat)(zs:List (List UInt8))(w:World)(hH:Holds encStr w blk off zs.toArray)(hsz:zs.length≤9223372036854775807)(hcap:zs.length≤cap):
 Calls Tryz.prog 229 #[.slice (some ⟨blk,off,none⟩) zs.length cap] w fun e w'=>e= .returned (.slice (some ⟨blk,off,none⟩) (Lib.compact zs).length cap)∧ ∃q,w'=putRow encStr (Sort.ahead w q) blk off (Lib.compact zs++List.replicate (zs.length-(Lib.compact zs).length) []).toArray:=Any.slices_Compact_string Tryz.lays194 blk off cap zs w hH hsz hcap
open Go.RowKit Go.Lib Go.Sort in
theorem Tryz.slices_Compact_string_empty(a:Option Addr)(cap:Nat)(w:World):
 Calls Tryz.prog 229 #[.slice a 0 cap] w fun e w'=>e= .returned (.slice a 0 cap)∧w'=w:=Any.slices_Compact_string_empty Tryz.lays194 a cap w
open Go.RowKit Go.Sort in
theorem Tryz.slices_Sort_string_none(p:Option Addr)(cap:Nat)(w:World):
 Calls Tryz.prog 228 #[.slice p 0 cap] w fun e w'=>e= .returned (.tuple #[])∧w'=w:=Any.slices_Sort_string_none Tryz.lays190 p cap w
end Go.Proofs
set_option linter.unusedVariables false
set_option linter.unusedSimpArgs false
namespace Go.Proofs.YtocoppijdodffaaGreatDoor
open Go Go.ChangeShapes Go.WideShapes Go.ChangeAt Go.WideMaps Go.WideElems Go.RowKit
theorem own:ownKnob Tryz.prog.godebug=none:=by kernel_rfl
theorem laidOut:laidOutB Tryz.prog=true:=by kernel_rfl
theorem ac0:mapsRowed Tryz.prog=true:=by kernel_rfl
theorem ac3:Tryz.prog.stops=[]:=by kernel_rfl
theorem ac2:Tryz.prog.stopKnobs=[]:=by kernel_rfl
theorem ac4:Tryz.prog.stopsHeard=true:=by kernel_rfl
theorem ac1:Tryz.prog.plainKeys=true:=by kernel_rfl
end Go.Proofs.YtocoppijdodffaaGreatDoor
set_option linter.unusedVariables false
set_option linter.unusedSimpArgs false
namespace Go.Proofs.YtocoppijdodffaaGreatDoor
open Go Go.ChangeShapes Go.WideShapes Go.ChangeAt Go.WideMaps Go.WideElems Go.RowKit
theorem acZ:Tryz.prog.mainIs=some (true, "1b090b7d7c4b36bed1c2f5fe20c2c524154cee554b63ca40487b32113f54af8b".toList):=by kernel_rfl
theorem acY:false=Tryz.prog.looks []:=by kernel_rfl
end Go.Proofs.YtocoppijdodffaaGreatDoor
