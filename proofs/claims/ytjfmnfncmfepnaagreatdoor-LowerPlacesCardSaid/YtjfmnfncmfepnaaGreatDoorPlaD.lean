/- Part of a proof. No condition. (Part 4.) -/
import Derived.Shelf.Strings.Builder1
import Derived.Shelf.Strings.Builder2
import Derived.Shelf.Strings.OnBuilder
import Derived.Shelf.Strings.BuilderF
import Derived.Shelf.Strings.BuilderK
import Derived.Shelf.Strings.Builder2Cap
import Derived.Shelf.Strconv.Itoa0
import Derived.Shelf.Strconv.Itoa1
import Derived.Shelf.LaysM
import Derived.Shelf.Strconv.Itoa2
import Derived.Shelf.Strconv.Itoa3
import Derived.Shelf.Strconv.Itoa4
import Derived.Shelf.Strings.Fields
import Derived.Shelf.Strings.SplitShaped
import Derived.Shelf.Unicode.Latin
import Derived.Shelf.Unicode.Is16White
import Derived.Shelf.Unicode.IsSpaceAny
import Derived.Shelf.Unicode.Is16WhiteD
import Derived.Shelf.Unicode.IsSpaceAnyD
import Derived.Shelf.Strings.FieldsAny
import Derived.Shelf.Strings.FieldsFuncAny
import Derived.Shelf.Unicode.Is16Any
import Derived.Shelf.Unicode.Is32Any
import Derived.Shelf.Unicode.ExclAny
import Derived.Shelf.Strings.FieldsFuncGrows
import Derived.Shelf.Strings.BuilderCap
import Derived.Shelf.Slices.Turned
import Derived.Shelf.Slices.Equal
import Derived.Ground.Names2Prog
import Derived.Shelf.Slices.Clone
import Derived.Shelf.Slices.Empties2
import Derived.Test.YtjfmnfncmfepnaaGreatDoorProg
import Derived.Lib.AppendIntMem
import Derived.Test.YtjfmnfncmfepnaaGreatDoorPlaC
set_option linter.unusedVariables false
set_option linter.unusedSimpArgs false
set_option linter.unusedSectionVars false
namespace Go.Proofs
open Go.Shelf
def Tryz.MH:Go.Shelf.Ren:=⟨fun | 156=>42 | 165=>94 | 166=>95 | 169=>96 | 240=>129 | 241=>130 | 276=>188 | 277=>189 | n=>n,fun | 31=>42 | 9=>9 | 3=>3 | 4=>4 | 0=>0 | 20=>20 | 72=>173 | 76=>176 | 70=>170 | 37=>171 | 75=>175 | 127=>209 | 164=>239 | 5=>5 | 80=>178 | n=>n,fun | n=>n⟩
theorem Tryz.YD:Go.Proofs.Lays.n156 Tryz.prog Tryz.MH:={
 mixed:=by kernel_rfl
 f156:=Tryz.func42.trans (congrArg some (by kernel_rfl))
 f165:=Tryz.func94.trans (congrArg some (by kernel_rfl))
 f166:=Tryz.func95.trans (congrArg some (by kernel_rfl))
 f169:=Tryz.func96.trans (congrArg some (by kernel_rfl))
 f240:=Tryz.func129.trans (congrArg some (by kernel_rfl))
 f241:=Tryz.func130.trans (congrArg some (by kernel_rfl))
 f276:=Tryz.func188.trans (congrArg some (by kernel_rfl))
 f277:=Tryz.func189.trans (congrArg some (by kernel_rfl))
 t0:=Tryz.underlying0
 a0:=Tryz.isAgg0
 z0:=Tryz.sizeOf0
 v0:=Tryz.zeroValue0
 t3:=Tryz.underlying3
 a3:=Tryz.isAgg3
 z3:=Tryz.sizeOf3
 v3:=Tryz.zeroValue3
 t4:=Tryz.underlying4
 a4:=Tryz.isAgg4
 z4:=Tryz.sizeOf4
 v4:=Tryz.zeroValue4
 t9:=Tryz.underlying9
 a9:=Tryz.isAgg9
 z9:=Tryz.sizeOf9
 v9:=Tryz.zeroValue9
 t20:=Tryz.underlying20
 a20:=Tryz.isAgg20
 z20:=Tryz.sizeOf20
 v20:=Tryz.zeroValue20
 t31:=Tryz.underlying42
 a31:=Tryz.isAgg42
 z31:=Tryz.sizeOf42
 v31:=Tryz.zeroValue42
 t37:=Tryz.underlying171
 a37:=Tryz.isAgg171
 z37:=Tryz.sizeOf171
 v37:=Tryz.zeroValue171
 t70:=Tryz.underlying170
 a70:=Tryz.isAgg170
 z70:=Tryz.sizeOf170
 v70:=Tryz.zeroValue170
 t72:=Tryz.underlying173
 a72:=Tryz.isAgg173
 z72:=Tryz.sizeOf173
 v72:=Tryz.zeroValue173
 t75:=Tryz.underlying175
 a75:=Tryz.isAgg175
 z75:=Tryz.sizeOf175
 v75:=Tryz.zeroValue175
 t76:=Tryz.underlying176
 a76:=Tryz.isAgg176
 z76:=Tryz.sizeOf176
 v76:=Tryz.zeroValue176
 t127:=Tryz.underlying209
 a127:=Tryz.isAgg209
 z127:=Tryz.sizeOf209
 v127:=Tryz.zeroValue209
 t164:=Tryz.underlying239
 a164:=Tryz.isAgg239
 z164:=Tryz.sizeOf239
 v164:=Tryz.zeroValue239}
theorem Tryz.Fa:Builder.Extra Tryz.prog Tryz.MH:={
 sizeBuilder:=by kernel_rfl
 liesBuilder:=by kernel_rfl
 t5:=Tryz.underlying5
 a5:=Tryz.isAgg5
 z5:=Tryz.sizeOf5
 v5:=Tryz.zeroValue5
 infoByte:=by kernel_rfl
 cellsByte:=by kernel_rfl
 sizeByte:=by kernel_rfl
 neB5:=by decide}
open Go.RowKit in
theorem Tryz.strings_Join_none (a:Option Addr) (c:Nat) (sep:ByteArray) (w:World):
  Calls Tryz.prog 42 #[.slice a 0 c,.string sep] w fun e w'=>e= .returned (.string ⟨#[]⟩)∧w'=w:=Any.strings_Join_none Tryz.YD Tryz.Fa a c sep w
open Go.RowKit in
theorem Tryz.strings_Join (bk o c:Nat) (xs:List ByteArray) (sep:ByteArray) (w:World) (hcells:∀(j:Nat) x,xs[j]?=some x→w.cell? ⟨bk,o+j,none⟩=some (.string x)) (hbk:bk<w.heap.size) (hN:xs.length≤140737488355328) (hcap:xs.length≤c) (hlen:(Lib.join (xs.map (·.data.toList)) sep.data.toList).length≤140737488355328):
  Calls Tryz.prog 42 #[.slice (some ⟨bk,o,none⟩) xs.length c,.string sep] w fun e w'=>e= .returned (.string ⟨(Lib.join (xs.map (·.data.toList)) sep.data.toList).toArray⟩)∧Below w.heap.size w w':=Any.strings_Join Tryz.YD Tryz.Fa bk o c xs sep w hcells hbk hN hcap hlen
def Tryz.SH:Go.Shelf.Ren:=⟨fun | 171=>41 | 243=>93 | 246=>97 | 283=>131 | 284=>132 | 285=>133 | 286=>134 | 129=>191 | 317=>190 | 318=>192 | 319=>193 | 320=>194 | 337=>239 | 338=>240 | n=>n,fun | 3=>3 | 9=>9 | 2=>2 | 4=>4 | 171=>210 | 0=>0 | 53=>211 | 37=>171 | 5=>5 | 173=>214 | 212=>244 | 51=>245 | 20=>20 | 213=>246 | 46=>247 | 232=>285 | 233=>286 | n=>n,fun | 17=>0 | 18=>2 | 19=>3 | n=>n⟩
theorem Tryz.mQ:Go.Proofs.LaysM.n171 Tryz.prog Tryz.SH:={
 mixed:=by kernel_rfl
 f129:=Tryz.func191.trans (congrArg some (by kernel_rfl))
 f171:=Tryz.func41.trans (congrArg some (by kernel_rfl))
 f243:=Tryz.func93.trans (congrArg some (by kernel_rfl))
 f246:=Tryz.func97.trans (congrArg some (by kernel_rfl))
 f283:=Tryz.func131.trans (congrArg some (by kernel_rfl))
 f284:=Tryz.func132.trans (congrArg some (by kernel_rfl))
 f285:=Tryz.func133.trans (congrArg some (by kernel_rfl))
 f286:=Tryz.func134.trans (congrArg some (by kernel_rfl))
 f317:=Tryz.func190.trans (congrArg some (by kernel_rfl))
 f318:=Tryz.func192.trans (congrArg some (by kernel_rfl))
 f319:=Tryz.func193.trans (congrArg some (by kernel_rfl))
 f320:=Tryz.func194.trans (congrArg some (by kernel_rfl))
 f337:=Tryz.func239.trans (congrArg some (by kernel_rfl))
 f338:=Tryz.func240.trans (congrArg some (by kernel_rfl))
 t0:=Tryz.underlying0
 a0:=Tryz.isAgg0
 z0:=Tryz.sizeOf0
 v0:=Tryz.zeroValue0
 t2:=Tryz.underlying2
 a2:=Tryz.isAgg2
 z2:=Tryz.sizeOf2
 v2:=Tryz.zeroValue2
 t3:=Tryz.underlying3
 a3:=Tryz.isAgg3
 z3:=Tryz.sizeOf3
 v3:=Tryz.zeroValue3
 t4:=Tryz.underlying4
 a4:=Tryz.isAgg4
 z4:=Tryz.sizeOf4
 v4:=Tryz.zeroValue4
 t5:=Tryz.underlying5
 a5:=Tryz.isAgg5
 z5:=Tryz.sizeOf5
 v5:=Tryz.zeroValue5
 t9:=Tryz.underlying9
 a9:=Tryz.isAgg9
 z9:=Tryz.sizeOf9
 v9:=Tryz.zeroValue9
 t20:=Tryz.underlying20
 a20:=Tryz.isAgg20
 z20:=Tryz.sizeOf20
 v20:=Tryz.zeroValue20
 t37:=Tryz.underlying171
 a37:=Tryz.isAgg171
 z37:=Tryz.sizeOf171
 v37:=Tryz.zeroValue171
 t46:=Tryz.underlying247
 a46:=Tryz.isAgg247
 z46:=Tryz.sizeOf247
 v46:=Tryz.zeroValue247
 t51:=Tryz.underlying245
 a51:=Tryz.isAgg245
 z51:=Tryz.sizeOf245
 v51:=Tryz.zeroValue245
 t53:=Tryz.underlying211
 a53:=Tryz.isAgg211
 z53:=Tryz.sizeOf211
 v53:=Tryz.zeroValue211
 t171:=Tryz.underlying210
 a171:=Tryz.isAgg210
 z171:=Tryz.sizeOf210
 v171:=Tryz.zeroValue210
 t173:=Tryz.underlying214
 a173:=Tryz.isAgg214
 z173:=Tryz.sizeOf214
 v173:=Tryz.zeroValue214
 t212:=Tryz.underlying244
 a212:=Tryz.isAgg244
 z212:=Tryz.sizeOf244
 v212:=Tryz.zeroValue244
 t213:=Tryz.underlying246
 a213:=Tryz.isAgg246
 z213:=Tryz.sizeOf246
 t232:=Tryz.underlying285
 a232:=Tryz.isAgg285
 z232:=Tryz.sizeOf285
 v232:=Tryz.zeroValue285
 t233:=Tryz.underlying286
 a233:=Tryz.isAgg286
 z233:=Tryz.sizeOf286
 v233:=Tryz.zeroValue286
 g17:=by kernel_rfl
 g18:=by kernel_rfl
 g19:=by kernel_rfl
 i0:=by kernel_rfl
 i2:=by kernel_rfl
 i3:=by kernel_rfl
 i4:=by kernel_rfl
 i5:=by kernel_rfl
 i9:=by kernel_rfl
 i20:=by kernel_rfl
 i37:=by kernel_rfl
 i46:=by kernel_rfl
 i51:=by kernel_rfl
 i53:=by kernel_rfl
 i171:=by kernel_rfl
 i173:=by kernel_rfl
 i212:=by kernel_rfl
 i232:=by kernel_rfl
 i233:=by kernel_rfl
 m17:=by kernel_rfl
 m18:=by kernel_rfl
 m19:=by kernel_rfl}
open Go.RowKit Go.Sort Go.Lib in
theorem Tryz.strconv_Itoa (n:Int) (h0: -9223372036854775808≤n) (h1:n≤9223372036854775807) (w:World) (htab:Lib.TabIs Tryz.prog w "internal/strconv.uint64pow10" .u64 Lib.pow10Tab):
  Calls Tryz.prog 41 #[.int .i64 n] w fun e w'=>e= .returned (.string ⟨(Lib.itoa n).toArray⟩)∧∃k os,w'=grow (w.drewN k) os:=Any.strconv_Itoa Tryz.mQ n h0 h1 w htab
def Tryz.SI:Go.Shelf.Ren:=⟨fun | 173=>43 | 246=>97 | 283=>131 | 284=>132 | 285=>133 | 286=>134 | 129=>191 | 317=>190 | 318=>192 | 319=>193 | 320=>194 | 337=>239 | 338=>240 | n=>n,fun | 2=>2 | 3=>3 | 9=>9 | 4=>4 | 171=>210 | 0=>0 | 53=>211 | 37=>171 | 5=>5 | 173=>214 | 212=>244 | 51=>245 | 20=>20 | 213=>246 | 46=>247 | 232=>285 | 233=>286 | n=>n,fun | 17=>0 | 18=>2 | 19=>3 | n=>n⟩
theorem Tryz.mR:Go.Proofs.LaysM.n173 Tryz.prog Tryz.SI:={
 mixed:=by kernel_rfl
 f129:=Tryz.func191.trans (congrArg some (by kernel_rfl))
 f173:=Tryz.func43.trans (congrArg some (by kernel_rfl))
 f246:=Tryz.func97.trans (congrArg some (by kernel_rfl))
 f283:=Tryz.func131.trans (congrArg some (by kernel_rfl))
 f284:=Tryz.func132.trans (congrArg some (by kernel_rfl))
 f285:=Tryz.func133.trans (congrArg some (by kernel_rfl))
 f286:=Tryz.func134.trans (congrArg some (by kernel_rfl))
 f317:=Tryz.func190.trans (congrArg some (by kernel_rfl))
 f318:=Tryz.func192.trans (congrArg some (by kernel_rfl))
 f319:=Tryz.func193.trans (congrArg some (by kernel_rfl))
 f320:=Tryz.func194.trans (congrArg some (by kernel_rfl))
 f337:=Tryz.func239.trans (congrArg some (by kernel_rfl))
 f338:=Tryz.func240.trans (congrArg some (by kernel_rfl))
 t0:=Tryz.underlying0
 a0:=Tryz.isAgg0
 z0:=Tryz.sizeOf0
 v0:=Tryz.zeroValue0
 t2:=Tryz.underlying2
 a2:=Tryz.isAgg2
 z2:=Tryz.sizeOf2
 v2:=Tryz.zeroValue2
 t3:=Tryz.underlying3
 a3:=Tryz.isAgg3
 z3:=Tryz.sizeOf3
 v3:=Tryz.zeroValue3
 t4:=Tryz.underlying4
 a4:=Tryz.isAgg4
 z4:=Tryz.sizeOf4
 v4:=Tryz.zeroValue4
 t5:=Tryz.underlying5
 a5:=Tryz.isAgg5
 z5:=Tryz.sizeOf5
 v5:=Tryz.zeroValue5
 t9:=Tryz.underlying9
 a9:=Tryz.isAgg9
 z9:=Tryz.sizeOf9
 v9:=Tryz.zeroValue9
 t20:=Tryz.underlying20
 a20:=Tryz.isAgg20
 z20:=Tryz.sizeOf20
 v20:=Tryz.zeroValue20
 t37:=Tryz.underlying171
 a37:=Tryz.isAgg171
 z37:=Tryz.sizeOf171
 v37:=Tryz.zeroValue171
 t46:=Tryz.underlying247
 a46:=Tryz.isAgg247
 z46:=Tryz.sizeOf247
 v46:=Tryz.zeroValue247
 t51:=Tryz.underlying245
 a51:=Tryz.isAgg245
 z51:=Tryz.sizeOf245
 v51:=Tryz.zeroValue245
 t53:=Tryz.underlying211
 a53:=Tryz.isAgg211
 z53:=Tryz.sizeOf211
 v53:=Tryz.zeroValue211
 t171:=Tryz.underlying210
 a171:=Tryz.isAgg210
 z171:=Tryz.sizeOf210
 v171:=Tryz.zeroValue210
 t173:=Tryz.underlying214
 a173:=Tryz.isAgg214
 z173:=Tryz.sizeOf214
 v173:=Tryz.zeroValue214
 t212:=Tryz.underlying244
 a212:=Tryz.isAgg244
 z212:=Tryz.sizeOf244
 v212:=Tryz.zeroValue244
 t213:=Tryz.underlying246
 a213:=Tryz.isAgg246
 z213:=Tryz.sizeOf246
 t232:=Tryz.underlying285
 a232:=Tryz.isAgg285
 z232:=Tryz.sizeOf285
 v232:=Tryz.zeroValue285
 t233:=Tryz.underlying286
 a233:=Tryz.isAgg286
 z233:=Tryz.sizeOf286
 v233:=Tryz.zeroValue286
 g17:=by kernel_rfl
 g18:=by kernel_rfl
 g19:=by kernel_rfl
 i0:=by kernel_rfl
 i2:=by kernel_rfl
 i3:=by kernel_rfl
 i4:=by kernel_rfl
 i5:=by kernel_rfl
 i9:=by kernel_rfl
 i20:=by kernel_rfl
 i37:=by kernel_rfl
 i46:=by kernel_rfl
 i51:=by kernel_rfl
 i53:=by kernel_rfl
 i171:=by kernel_rfl
 i173:=by kernel_rfl
 i212:=by kernel_rfl
 i232:=by kernel_rfl
 i233:=by kernel_rfl
 m17:=by kernel_rfl
 m18:=by kernel_rfl
 m19:=by kernel_rfl}
open Go.RowKit Go.Sort Go.Lib in
theorem Tryz.strconv_FormatInt_10 (n:Int) (h0: -9223372036854775808≤n) (h1:n≤9223372036854775807) (w:World) (htab:Lib.TabIs Tryz.prog w "internal/strconv.uint64pow10" .u64 Lib.pow10Tab):
  Calls Tryz.prog 43 #[.int .i64 n,.int .i64 10] w fun e w'=>e= .returned (.string ⟨(Lib.itoa n).toArray⟩)∧∃k os,w'=grow (w.drewN k) os:=Any.strconv_FormatInt_10 Tryz.mR n h0 h1 w htab
def Tryz.U2:Go.Shelf.Ren:=⟨fun | 157=>254 | 229=>255 | 199=>256 | 261=>257 | 311=>258 | 312=>259 | n=>n,fun | 9=>9 | 31=>42 | 3=>3 | 5=>5 | 4=>4 | 119=>289 | 0=>0 | 40=>291 | 152=>292 | 21=>21 | 154=>294 | 51=>245 | 141=>296 | 196=>300 | 193=>297 | 198=>303 | 49=>301 | 194=>298 | 201=>306 | 226=>308 | 46=>247 | 227=>309 | n=>n,fun | 0=>4 | 6=>5 | n=>n⟩
theorem Tryz.qO:Go.Proofs.Lays.n157 Tryz.prog Tryz.U2:={
 mixed:=by kernel_rfl
 f157:=Tryz.func254.trans (congrArg some (by kernel_rfl))
 f199:=Tryz.func256.trans (congrArg some (by kernel_rfl))
 f229:=Tryz.func255.trans (congrArg some (by kernel_rfl))
 f261:=Tryz.func257.trans (congrArg some (by kernel_rfl))
 f311:=Tryz.func258.trans (congrArg some (by kernel_rfl))
 f312:=Tryz.func259.trans (congrArg some (by kernel_rfl))
 t0:=Tryz.underlying0
 a0:=Tryz.isAgg0
 z0:=Tryz.sizeOf0
 v0:=Tryz.zeroValue0
 t3:=Tryz.underlying3
 a3:=Tryz.isAgg3
 z3:=Tryz.sizeOf3
 v3:=Tryz.zeroValue3
 t4:=Tryz.underlying4
 a4:=Tryz.isAgg4
 z4:=Tryz.sizeOf4
 v4:=Tryz.zeroValue4
 t5:=Tryz.underlying5
 a5:=Tryz.isAgg5
 z5:=Tryz.sizeOf5
 v5:=Tryz.zeroValue5
 t9:=Tryz.underlying9
 a9:=Tryz.isAgg9
 z9:=Tryz.sizeOf9
 v9:=Tryz.zeroValue9
 t21:=Tryz.underlying21
 a21:=Tryz.isAgg21
 z21:=Tryz.sizeOf21
 v21:=Tryz.zeroValue21
 t31:=Tryz.underlying42
 a31:=Tryz.isAgg42
 z31:=Tryz.sizeOf42
 v31:=Tryz.zeroValue42
 t40:=Tryz.underlying291
 a40:=Tryz.isAgg291
 z40:=Tryz.sizeOf291
 v40:=Tryz.zeroValue291
 t46:=Tryz.underlying247
 a46:=Tryz.isAgg247
 z46:=Tryz.sizeOf247
 v46:=Tryz.zeroValue247
 t49:=Tryz.underlying301
 a49:=Tryz.isAgg301
 z49:=Tryz.sizeOf301
 v49:=Tryz.zeroValue301
 t51:=Tryz.underlying245
 a51:=Tryz.isAgg245
 z51:=Tryz.sizeOf245
 v51:=Tryz.zeroValue245
 t119:=Tryz.underlying289
 a119:=Tryz.isAgg289
 z119:=Tryz.sizeOf289
 t141:=Tryz.underlying296
 a141:=Tryz.isAgg296
 z141:=Tryz.sizeOf296
 v141:=Tryz.zeroValue296
 t152:=Tryz.underlying292
 a152:=Tryz.isAgg292
 z152:=Tryz.sizeOf292
 v152:=Tryz.zeroValue292
 t154:=Tryz.underlying294
 a154:=Tryz.isAgg294
 z154:=Tryz.sizeOf294
 v154:=Tryz.zeroValue294
 t193:=Tryz.underlying297
 a193:=Tryz.isAgg297
 z193:=Tryz.sizeOf297
 v193:=Tryz.zeroValue297
 t194:=Tryz.underlying298
 a194:=Tryz.isAgg298
 z194:=Tryz.sizeOf298
 v194:=Tryz.zeroValue298
 t196:=Tryz.underlying300
 a196:=Tryz.isAgg300
 z196:=Tryz.sizeOf300
 v196:=Tryz.zeroValue300
 t198:=Tryz.underlying303
 a198:=Tryz.isAgg303
 z198:=Tryz.sizeOf303
 v198:=Tryz.zeroValue303
 t201:=Tryz.underlying306
 a201:=Tryz.isAgg306
 z201:=Tryz.sizeOf306
 v201:=Tryz.zeroValue306
 t226:=Tryz.underlying308
 a226:=Tryz.isAgg308
 z226:=Tryz.sizeOf308
 v226:=Tryz.zeroValue308
 t227:=Tryz.underlying309
 a227:=Tryz.isAgg309
 z227:=Tryz.sizeOf309
 v227:=Tryz.zeroValue309
 g0:=by kernel_rfl
 g6:=by kernel_rfl}
open Go.RowKit Go.Lib in
theorem Tryz.strings_Fields (s:ByteArray) (w:World) (hs:s.size<4294967281) (hascii:∀(j:Nat) b,s.data.toList[j]?=some b→b.toNat<128) (htab:Lib.TabIs Tryz.prog w "strings.asciiSpace" .u8 Lib.asciiSpaceTab):
  Calls Tryz.prog 254 #[.string s] w fun e w'=>
   e= .returned (.slice (some ⟨w.heap.size,0,none⟩) (Lib.fields s.data.toList).length (Lib.fields s.data.toList).length)∧w'=w.alloc (.cells ((Lib.fields s.data.toList).map fun l=>Value.string ⟨l.toArray⟩).toArray 9):=Any.strings_Fields Tryz.qO (by kernel_rfl) (by kernel_rfl) s w hs hascii htab
end Go.Proofs
set_option linter.unusedVariables false
namespace Go.Proofs.YtjfmnfncmfepnaaGreatDoor
open Go Go.AM
theorem two {vals:Array Value}(h:vals.size=2):∃v u,vals=#[v,u]:=
 ⟨vals[0],vals[1],by
  grind⟩
theorem uN {w:World}{Z:Ak}{s:ByteArray}{v:Value}(h:AZ w Z (.str s) v):v= .string s:=by cases h;rfl
def jJ (z:Int):ByteArray:=⟨(Lib.itoa z).toArray⟩
def jK (xs:List ByteArray) (sep:ByteArray):ByteArray:=⟨(Lib.join (xs.map (·.data.toList)) sep.data.toList).toArray⟩
def mS (n:Nat) (z:Int):Option ByteArray:=if -9223372036854775808≤z∧z≤9223372036854775807 then some (jJ z)else none
def zM (n:Nat) (z b:Int):Option ByteArray:=if b=10∧ -9223372036854775808≤z∧z≤9223372036854775807 then some (jJ z)else none
def zN (n:Nat) (l:List D) (sep:ByteArray):Option ByteArray:=
 match Ph l with
 | some xs=>if xs.length≤140737488355328∧(Lib.join (xs.map (·.data.toList)) sep.data.toList).length≤140737488355328 then some (jK xs sep)else none
 | none=>none
theorem T41 (n:Nat):∀⦃z:Int⦄ ⦃r1:ByteArray⦄,mS n z=some r1→C0 Tryz.prog inv 41 [.d (.int .i64 z)] [] (.v (.d (.str r1))) [] []:=by
 intro z r1 h;unfold mS at h;split at h
 ·rename_i hz;cases h
  refine C0.SG (xs:=[.int .i64 z]) ⟨_,_,Tryz.func41,rfl,by kernel_rfl⟩ fun w Z vals hr hsz hv=>?_
  obtain⟨v,rfl⟩:∃v,vals=#[v]:=Array.size_eq_one_iff.1 hsz;cases hv 0 _ _ rfl rfl
  refine (Tryz.strconv_Itoa z hz.1 hz.2 w hr.2).mono ?_
  rintro e w' ⟨rfl,k,os,rfl⟩
  exact⟨_,rfl,HZ (Lib.below_grow _ w (Nat.le_refl _) k os),fun _ _ _=>.str _⟩
 ·cases h
theorem T43 (n:Nat):∀⦃z b:Int⦄ ⦃r1:ByteArray⦄,zM n z b=some r1→C0 Tryz.prog inv 43 [.d (.int .i64 z),.d (.int .i64 b)] [] (.v (.d (.str r1))) [] []:=by
 intro z b r1 h;unfold zM at h;split at h
 ·rename_i hz;cases h
  obtain⟨rfl,hz⟩:=hz;refine C0.SG (xs:=[.int .i64 z,.int .i64 10]) ⟨_,_,Tryz.func43,rfl,by kernel_rfl⟩ fun w Z vals hr hsz hv=>?_
  obtain⟨v,u,rfl⟩:∃v u,vals=#[v,u]:=two hsz;cases hv 0 _ _ rfl rfl
  cases hv 1 _ _ rfl rfl
  refine (Tryz.strconv_FormatInt_10 z hz.1 hz.2 w hr.2).mono ?_
  rintro e w' ⟨rfl,k,os,rfl⟩
  exact⟨_,rfl,HZ (Lib.below_grow _ w (Nat.le_refl _) k os),fun _ _ _=>.str _⟩
 ·cases h
theorem T42 (n:Nat):∀⦃l:List D⦄ ⦃sep r1:ByteArray⦄,zN n l sep=some r1→C0 Tryz.prog inv 42 [.d (.list false 1 l),.d (.str sep)] [] (.v (.d (.str r1))) [] []:=by
 intro l sep r1 h;unfold zN at h;split at h
 rotate_left
 ·cases h
 rename_i xs hxs;obtain rfl:=Pj hxs;split at h
 rotate_left
 ·cases h
 rename_i hb;cases h
 refine C0.SG (xs:=[.list false 1 (xs.map D.str),.str sep]) ⟨_,_,Tryz.func42,rfl,by kernel_rfl⟩ fun w Z vals hr hsz hv=>?_
 obtain⟨v,u,rfl⟩:∃v u,vals=#[v,u]:=two hsz;cases hv 1 _ _ rfl rfl
 cases hv 0 _ _ rfl rfl with
 | list _ _ _ A cap b o U hcap hmax hfit ha hc hrr=>
  by_cases he:xs=[]
  ·subst he;refine (Tryz.strings_Join_none A cap sep w).mono ?_
   rintro e w' ⟨rfl,rfl⟩
   exact⟨_,rfl,⟨rfl,rfl,rfl,Nat.le_refl _,fun _ _ _=>rfl⟩,fun _ _ _=>.str _⟩
  ·have hA:=ha (by simpa using he)
   subst hA
   have cells:∀(j:Nat) x,xs[j]?=some x→w.cell? ⟨b,o+j,none⟩=some (.string x):=by
    intro j x hx;have h1:(xs.map D.str)[j]?=some (.str x):=by simp[hx]
    have h2:=(hc j _ 0 _ h1 rfl).1;have h3:=hrr j _ 0 _ h1 rfl;simp only[Nat.mul_one,Nat.add_zero]at h2;rw[h2,uN h3]
   have hbk:b<w.heap.size:=by
    obtain⟨x,xs',rfl⟩:=List.exists_cons_of_ne_nil he;have:=World.block_lt_of_cell? w ⟨b,o+0,none⟩ (cells 0 x rfl);exact this
   have:=Tryz.strings_Join b o cap xs sep w cells hbk hb.1 (by simpa using hcap) hb.2
   rw[List.length_map];refine this.mono ?_
   rintro e w' ⟨rfl,hbl⟩
   exact⟨_,rfl,HZ hbl,fun _ _ _=>.str _⟩
def fieldsD (s:ByteArray):List D:=(Lib.fields s.data.toList).map fun l=>D.str ⟨l.toArray⟩
def Yu (n:Nat) (s:ByteArray):Option (List D):=if s.size<4294967281∧(s.data.toList.all fun b=>b.toNat<128)=true∧(Lib.fields s.data.toList).length≤maxLen then some (fieldsD s)else none
theorem AFp (n:Nat):∀⦃s:ByteArray⦄ ⦃r1:List D⦄,Yu n s=some r1→C0 Tryz.prog inv 254 [.d (.str s)] [] (.v (.d (.list false 1 r1))) [] []:=by
 intro s r1 h;unfold Yu at h;split at h
 ·rename_i hb;cases h
  obtain⟨h1,h2,h3⟩:=hb;refine C0.mP (xs:=[.str s]) ⟨_,_,Tryz.func254,rfl,by kernel_rfl⟩ fun w Z vals hr hsz hv=>?_
  obtain⟨v,rfl⟩:∃v,vals=#[v]:=Array.size_eq_one_iff.1 hsz;cases hv 0 _ _ rfl rfl
  refine (Tryz.strings_Fields s w h1 (fun j b hj=>by
   grind) hr.1).mono ?_
  rintro e w' ⟨rfl,rfl⟩
  refine⟨_,rfl,Ve rfl rfl rfl (by simp) (fun b hb=>Go.RowKit.Below.heap_alloc w _ b hb),fun Z' _ _ hZ=>?_⟩
  have hl:(fieldsD s).length=(Lib.fields s.data.toList).length:=by simp[fieldsD]
  show AZ _ Z' (.list false 1 (fieldsD s)) _;rw[←hl];refine .list false 1 (fieldsD s) _ _ w.heap.size 0 (fun i _=>.string ⟨((Lib.fields s.data.toList).getD i []).toArray⟩) (Nat.le_refl _) (by rw[hl];exact h3) ?_ (fun _=>rfl) ?_ ?_
  ·intro r hr;obtain⟨l,_,rfl⟩:=List.mem_map.1 hr;exact⟨rfl,rfl,fun c hc=>by simp[D.cells]at hc;subst hc;rfl⟩
  ·intro i r j c hi hj;have hi':((Lib.fields s.data.toList).map fun l=>D.str ⟨l.toArray⟩)[i]?=some r:=hi
   rw[List.getElem?_map,Option.map_eq_some_iff]at hi';obtain⟨l,hl',rfl⟩:=hi'
   match j with
   | 0=>
    refine⟨?_,fun hz=>absurd (hZ _ _ hz) (Nat.lt_irrefl _)⟩
    simp_all
   | j+1=>simp[D.cells]at hj
  ·intro i r j c hi hj;have hi':((Lib.fields s.data.toList).map fun l=>D.str ⟨l.toArray⟩)[i]?=some r:=hi
   rw[List.getElem?_map,Option.map_eq_some_iff]at hi';obtain⟨l,hl',rfl⟩:=hi'
   match j with
   | 0=>
    simp[D.cells]at hj;subst hj;simp only[List.getD_eq_getElem?_getD,hl',Option.getD_some];exact .str _
   | j+1=>simp[D.cells]at hj
 ·cases h
end Go.Proofs.YtjfmnfncmfepnaaGreatDoor
set_option maxRecDepth 100000
set_option maxHeartbeats 40000000
set_option linter.unusedVariables false
noncomputable section
namespace Go.Proofs.YtjfmnfncmfepnaaGreatDoor
open Go Go.AM
def BZ {γ:Type}(x:D) (k:Int->BA->LD->Int->BA->LD->LD->Int->Int->BA->BA->BA->LD->LD->Int->Int->Option γ):Option γ:=match x with | .agg [.int .u8 g,.str h,.list true 4 i,.int .u8 j,.str l,.list true 3 m,.list true 15 n,.int .u8 o,.int .i64 p,.str q,.str a,.str b,.list false 1 c,.list true 8 d,.int .i64 e,.int .i64 f]=>k g h i j l m n o p q a b c d e f | _=>none
theorem Vh {γ:Type}{x:D}{k:Int->BA->LD->Int->BA->LD->LD->Int->Int->BA->BA->BA->LD->LD->Int->Int->Option γ}{r:γ}(h:BZ x k=some r):∃g i j l m n o p q s a b c d e f,x= .agg [.int .u8 g,.str i,.list true 4 j,.int .u8 l,.str m,.list true 3 n,.list true 15 o,.int .u8 p,.int .i64 q,.str s,.str a,.str b,.list false 1 c,.list true 8 d,.int .i64 e,.int .i64 f]/\k g i j l m n o p q s a b c d e f=some r:=by
 unfold BZ at h;grind
def Bt {γ:Type}(x:D) (k:BA->Int->BA->LD->Option γ):Option γ:=match x with | .agg [.str a,.int .u8 b,.str c,.list true 3 d]=>k a b c d | _=>none
theorem Vk {γ:Type}{x:D}{k:BA->Int->BA->LD->Option γ}{r:γ}(h:Bt x k=some r):∃a b c d,x= .agg [.str a,.int .u8 b,.str c,.list true 3 d]/\k a b c d=some r:=by
 unfold Bt at h;grind
def D0 {γ:Type}(x:D) (k:Int->BA->LD->Option γ):Option γ:=match x with | .agg [.int .u8 a,.str b,.list true 3 c]=>k a b c | _=>none
theorem Vl {γ:Type}{x:D}{k:Int->BA->LD->Option γ}{r:γ}(h:D0 x k=some r):∃a b c,x= .agg [.int .u8 a,.str b,.list true 3 c]/\k a b c=some r:=by
 unfold D0 at h;grind
def Ba {γ:Type}(x:D) (k:Int->BA->BA->LD->Int->BA->LD->Int->BA->LD->LD->LD->LD->LD->Int->Option γ):Option γ:=match x with | .agg [.int .u8 f,.str g,.str h,.list false 1 i,.int .u8 j,.str l,.list true 3 m,.int .i64 n,.str o,.list false 1 p,.list true 8 a,.list true 15 b,.list true 15 c,.list true 3 d,.int .i64 e]=>k f g h i j l m n o p a b c d e | _=>none
theorem Vm {γ:Type}{x:D}{k:Int->BA->BA->LD->Int->BA->LD->Int->BA->LD->LD->LD->LD->LD->Int->Option γ}{r:γ}(h:Ba x k=some r):∃f g i j l m n o p q a b c d e,x= .agg [.int .u8 f,.str g,.str i,.list false 1 j,.int .u8 l,.str m,.list true 3 n,.int .i64 o,.str p,.list false 1 q,.list true 8 a,.list true 15 b,.list true 15 c,.list true 3 d,.int .i64 e]/\k f g i j l m n o p q a b c d e=some r:=by
 unfold Ba at h;grind
def B0 {γ:Type}(x:D) (k:BA->Option γ):Option γ:=match x with | .str a=>k a | _=>none
theorem Nj {γ:Type}{x:D}{k:BA->Option γ}{r:γ}(h:B0 x k=some r):∃a,x= .str a/\k a=some r:=by
 unfold B0 at h;grind
def Bj {γ:Type}(x:D) (k:Int->Int->BA->BA->BA->LD->LD->Int->Option γ):Option γ:=match x with | .agg [.int .u8 a,.int .i64 b,.str c,.str d,.str e,.list false 1 f,.list true 8 g,.int .i64 h]=>k a b c d e f g h | _=>none
theorem Vn {γ:Type}{x:D}{k:Int->Int->BA->BA->BA->LD->LD->Int->Option γ}{r:γ}(h:Bj x k=some r):∃a b c d e f g i,x= .agg [.int .u8 a,.int .i64 b,.str c,.str d,.str e,.list false 1 f,.list true 8 g,.int .i64 i]/\k a b c d e f g i=some r:=by
 unfold Bj at h;grind
def Cv {γ:Type}(x:D) (k:BA->BA->LD->Option γ):Option γ:=match x with | .agg [.str a,.str b,.list true 15 c]=>k a b c | _=>none
theorem Vo {γ:Type}{x:D}{k:BA->BA->LD->Option γ}{r:γ}(h:Cv x k=some r):∃a b c,x= .agg [.str a,.str b,.list true 15 c]/\k a b c=some r:=by
 unfold Cv at h;grind
def Gg:BA:=⟨#[109,97,105,110]⟩
def Cw:BA:=⟨#[108,101,116,32,105,102,32,101,108,115,101,32,119,104,105,108,101,32,109,97,116,99,104,32,115,99,111,112,101,32,115,112,97,119,110,32,108,111,99,107,32,97,115,32,99,104,97,110,32,100,114,111,112,32,102,110,32,115,116,114,117,99,116,32,101,110,117,109,32,116,114,117,101,32,102,97,108,115,101,32,97,110,100,32,111,114,32,110,111,116,32,105,110,116,32,98,111,111,108,32,117,110,105,116,32,109,117,116,32,98,111,120,32,117,110,98,111,120,32,99,101,108,108,32,103,101,116,32,115,101,116,32,114,99,32,97,114,99,32,99,108,111,110,101,32,109,117,116,101,120,32,111,112,101,110,32,97,116,111,109,105,99,32,108,111,97,100,32,115,116,111,114,101,32,102,101,116,99,104,32,115,101,110,100,32,114,101,99,118,32,66,111,120,32,67,101,108,108,32,82,99,32,65,114,99,32,77,117,116,101,120,32,65,116,111,109,105,99,32,83,101,110,100,101,114,32,82,101,99,101,105,118,101,114]⟩
def B1 {γ:Type}(x:D) (k:Int->Option γ):Option γ:=match x with | .int .i64 a=>k a | _=>none
theorem JO {γ:Type}{x:D}{k:Int->Option γ}{r:γ}(h:B1 x k=some r):∃a,x= .int .i64 a/\k a=some r:=by
 unfold B1 at h;grind
def k__:BA:=⟨#[42]⟩
def FP {γ:Type}(x:D) (k:Bool->Option γ):Option γ:=match x with | .bool a=>k a | _=>none
theorem TW {γ:Type}{x:D}{k:Bool->Option γ}{r:γ}(h:FP x k=some r):∃a,x= .bool a/\k a=some r:=by
 unfold FP at h;grind
def Dj {γ:Type}(x:D) (k:Bool->Option γ):Option γ:=match x with | .agg [.bool a]=>k a | _=>none
theorem TX {γ:Type}{x:D}{k:Bool->Option γ}{r:γ}(h:Dj x k=some r):∃a,x= .agg [.bool a]/\k a=some r:=by
 unfold Dj at h;grind
def Ch {γ:Type}(x:D) (k:Bool->BA->Option γ):Option γ:=match x with | .agg [.bool a,.str b]=>k a b | _=>none
theorem Vp {γ:Type}{x:D}{k:Bool->BA->Option γ}{r:γ}(h:Ch x k=some r):∃a b,x= .agg [.bool a,.str b]/\k a b=some r:=by
 unfold Ch at h;grind
def Ha {γ:Type}(x:D) (k:Int->Option γ):Option γ:=match x with | .int .u8 a=>k a | _=>none
theorem Yv {γ:Type}{x:D}{k:Int->Option γ}{r:γ}(h:Ha x k=some r):∃a,x= .int .u8 a/\k a=some r:=by
 unfold Ha at h;grind
def Qr:Unit->RF:=fun _=>⟨cP (cL (cR (cR (Vf Tryz.f68)))),cL (cL (cR (cR (Vf Tryz.f68)))),cR (cL (cR (cR (Vf Tryz.f68)))),19⟩
def Ci {γ:Type}(x:D) (k:Int->Int->Int->Int->LD->LD->Int->BA->LD->Option γ):Option γ:=match x with | .agg [.int .u8 a,.int .i64 b,.int .i64 c,.int .i64 d,.list false 1 e,.list false 1 f,.int .i64 g,.str h,.list false 1 i]=>k a b c d e f g h i | _=>none
theorem Vq {γ:Type}{x:D}{k:Int->Int->Int->Int->LD->LD->Int->BA->LD->Option γ}{r:γ}(h:Ci x k=some r):∃a b c d e f g i j,x= .agg [.int .u8 a,.int .i64 b,.int .i64 c,.int .i64 d,.list false 1 e,.list false 1 f,.int .i64 g,.str i,.list false 1 j]/\k a b c d e f g i j=some r:=by
 unfold Ci at h;grind
def E9 {γ:Type}(x:D) (k:LD->LD->Option γ):Option γ:=match x with | .agg [.list false 1 a,.list true 15 b]=>k a b | _=>none
theorem Vr {γ:Type}{x:D}{k:LD->LD->Option γ}{r:γ}(h:E9 x k=some r):∃a b,x= .agg [.list false 1 a,.list true 15 b]/\k a b=some r:=by
 unfold E9 at h;grind
def Ib:BA:=⟨#[115,112,97,119,110]⟩
def B2 {γ:Type}(x:D) (k:BA->Int->Int->LD->Option γ):Option γ:=match x with | .agg [.str a,.int .i64 b,.int .i64 c,.list true 9 d]=>k a b c d | _=>none
theorem Vs {γ:Type}{x:D}{k:BA->Int->Int->LD->Option γ}{r:γ}(h:B2 x k=some r):∃a b c d,x= .agg [.str a,.int .i64 b,.int .i64 c,.list true 9 d]/\k a b c d=some r:=by
 unfold B2 at h;grind
def jL:BA:=⟨#[108,105,118,101]⟩
def jM:BA:=⟨#[100,101,97,100]⟩
def XZ:BA:=⟨#[99,111,110,115,116]⟩
def rN:BA:=⟨#[117,115,101]⟩
def rO:BA:=⟨#[114,101,102]⟩
def rP:BA:=⟨#[109,117,116]⟩
def rQ:BA:=⟨#[112,117,116]⟩
def jN:BA:=⟨#[100,114,111,112]⟩
def Xa:BA:=⟨#[117,110,97,114,121]⟩
def TZ:BA:=⟨#[98,105,110,97,114,121]⟩
def Ta:BA:=⟨#[115,116,114,117,99,116]⟩
def jO:BA:=⟨#[101,110,117,109]⟩
def Xb:BA:=⟨#[115,112,108,105,116]⟩
def jP:BA:=⟨#[106,117,109,112]⟩
def Tb:BA:=⟨#[98,114,97,110,99,104]⟩
def Tc:BA:=⟨#[115,119,105,116,99,104]⟩
def jQ:BA:=⟨#[99,97,108,108]⟩
def Nk:BA:=⟨#[114,101,116,117,114,110]⟩
def jR:BA:=⟨#[119,114,97,112]⟩
def Td:BA:=⟨#[117,110,119,114,97,112]⟩
def Xd:BA:=⟨#[99,108,111,110,101]⟩
def Pn:BA:=⟨#[99,101,108,108,103,101,116]⟩
def Po:BA:=⟨#[99,101,108,108,115,101,116]⟩
def jS:BA:=⟨#[108,111,97,100]⟩
def Xe:BA:=⟨#[115,116,111,114,101]⟩
def Xf:BA:=⟨#[102,101,116,99,104]⟩
def jT:BA:=⟨#[99,104,97,110]⟩
def jU:BA:=⟨#[115,101,110,100]⟩
def jV:BA:=⟨#[114,101,99,118]⟩
def jW:BA:=⟨#[108,111,99,107]⟩
def Te:BA:=⟨#[117,110,108,111,99,107]⟩
def Xg:BA:=⟨#[115,99,111,112,101]⟩
def jX:BA:=⟨#[106,111,105,110]⟩
def Md {γ:Type}(x:D) (k:BA->Int->Int->Bool->Bool->Bool->Bool->LD->Option γ):Option γ:=match x with | .agg [.str a,.int .i64 b,.int .i64 c,.bool d,.bool e,.bool f,.bool g,.list false 1 h]=>k a b c d e f g h | _=>none
theorem Tf {γ:Type}{x:D}{k:BA->Int->Int->Bool->Bool->Bool->Bool->LD->Option γ}{r:γ}(h:Md x k=some r):∃a b c d e f g i,x= .agg [.str a,.int .i64 b,.int .i64 c,.bool d,.bool e,.bool f,.bool g,.list false 1 i]/\k a b c d e f g i=some r:=by
 unfold Md at h;grind
def ABa:BA:=⟨#[63]⟩
def rR:BA:=⟨#[32]⟩
def rS:BA:=⟨#[46]⟩
def Tg:BA:=⟨#[44]⟩
def Th:BA:=⟨#[99,111,110,115,116,32,49,32,51]⟩
def Ti:BA:=⟨#[115,112,97,119,110,32,49,32,48]⟩
end Go.Proofs.YtjfmnfncmfepnaaGreatDoor
end
namespace Go.AM
open Go Go.RowKit
structure U3 where
 res:AV
 post:List AD
 new:List AD
section
variable {γ:Type}{r:γ}
def zO (x:AV) (k:Bool→Option γ):Option γ:=
 match x with
 | .v (.d (.bool b))=>k b
 | _=>none
def Oj (x:AV) (k:Int→Option γ):Option γ:=
 match x with
 | .v (.d (.int _ n))=>k n
 | _=>none
def Cf (ti:Types) (t:TypeId) (k:TI→Option γ):Option γ:=
 match ti t with
 | some x=>k x
 | none=>none
def uO (x:AV) (k:Bool→Nat→List D→Option γ):Option γ:=
 match x with
 | .v (.d (.list ag sz rows))=>k ag sz rows
 | .v (.c (.lst _ ag sz rows))=>k ag sz rows
 | .v (.c (.nils ag sz))=>k ag sz []
 | .v (.c (.tl ag sz rows))=>k ag sz rows
 | _=>none
def BC (c:Bool) (x:Option γ):Option γ:=
 match c with
 | true=>x
 | false=>none
section
variable {ti:Types}{t:TypeId}
theorem Ac {k:TI→Option γ}{P:TI→Prop}(hk:∀i,k i=some r→P i) (h:Cf ti t k=some r):Ao ti t P:=by
 unfold Cf at h;unfold Ao;grind
theorem AN {c:Bool}{x:Option γ}{P:Prop}(hk:x=some r→P) (h:BC c x=some r):BJ c P:=by
 cases c
 ·cases h
 ·exact hk h
variable {x:AV}
theorem Gj {k:Int→Option γ}{P:IntKind→Int→Prop}(hk:∀q n,k n=some r→P q n) (h:Oj x k=some r):DD x P:=by
 unfold Oj at h;split at h
 ·exact hk _ _ h
 ·cases h
theorem Nl {k:Bool→Nat→List D→Option γ}{P:Bool→Nat→List D→Prop}(hk:∀a s l,k a s l=some r→P a s l) (h:uO x k=some r):HD x P:=by
 unfold uO at h;split at h
 ·exact hk _ _ _ h
 ·exact hk _ _ _ h
 ·exact hk _ _ _ h
 ·exact hk _ _ _ h
 ·cases h
theorem uP {k:Bool→Option γ}{P:Bool→Prop}(hk:∀b,k b=some r→P b) (h:zO x k=some r):PB x P:=by
 unfold zO at h;split at h
 ·exact hk _ h
 ·cases h
def Qs (ti:Types) (t:TypeId) (x:AV) (h:Heap) (k:Out→Option γ):Option γ:=
 Cf ti t fun i=>match x with
 | .v (.c (.ptr id o))=>(match h id with
  | some (.cells cs)=>BC (Nat.ble (o+i.size) cs.length) (k ⟨.v (V1.Aa (AR i.desc) ((cs.drop o).take i.size)),[id],[]⟩)
  | _=>none)
 | .v (.c (.row ag sz d))=>BC (AR i.desc==ag) (BC (Nat.beq sz i.size) (k ⟨.v (.d d),[],[]⟩))
 | .v (.c (.rp cs))=>BC (Nat.ble i.size cs.length) (k ⟨.v (V1.Aa (AR i.desc) ((cs.take i.size).map CV.d)),[],[]⟩)
 | .v (.c (.fb id))=>BC (Nat.beq i.size 1) (k ⟨.v (V1.Aa (AR i.desc) [.ptr id 0]),[],[]⟩)
 | _=>none
variable {k:Out→Option γ}{P:Out→Prop}
theorem Pp {h:Heap}(hk:∀o,k o=some r→P o) (e:Qs ti t x h k=some r):D7 ti t x h P:=by
 unfold Qs at e;unfold D7;refine Ac (fun i e=>?_) e
 split at e
 ·split at e
  ·rename_i hc;simp only[hc];exact AN (hk _) e
  ·cases e
 ·exact AN (AN (hk _)) e
 ·exact AN (hk _) e
 ·exact AN (hk _) e
 ·cases e
def Qt (ti:Types) (t:TypeId) (x y:AV) (h:Heap) (k:Out→Option γ):Option γ:=
 Cf ti t fun i=>match y with
 | .v y=>(match x with
  | .v (.c (.ptr id o))=>(match h id with
   | some (.cells cs)=>BC (Nat.ble (o+i.size) cs.length) (BC (Nat.beq y.cells.length i.size) (k ⟨.u,[id],[(id,.cells (cs.take o++y.cells++cs.drop (o+i.size)))]⟩))
   | _=>none)
  | _=>none)
 | _=>none
theorem Vt {y:AV}{h:Heap}(hk:∀o,k o=some r→P o) (e:Qt ti t x y h k=some r):HE ti t x y h P:=by
 unfold Qt at e;unfold HE;refine Ac (fun i e=>?_) e
 split at e
 ·split at e
  ·split at e
   ·rename_i hc;simp only[DR,hc];exact AN (AN (hk _)) e
   ·cases e
  ·cases e
 ·cases e
def Qu (ti:Types) (t:TypeId) (x:AV) (f:Nat) (k:Out→Option γ):Option γ:=
 Cf ti t fun i=>match i.desc with
 | .struct fs=>(match fs[f]? with
  | some fd=>Cf ti fd.type fun j=>BC (Nat.blt 0 j.size) (match x with
   | .v (.c (.ptr id o))=>k ⟨.v (.c (.ptr id (o+fd.offset))),[],[]⟩
   | .v (.c (.row _ _ d))=>k ⟨.v (.c (.rp (d.cells.drop fd.offset))),[],[]⟩
   | .v (.c (.rp cs))=>k ⟨.v (.c (.rp (cs.drop fd.offset))),[],[]⟩
   | _=>none)
  | none=>none)
 | _=>none
theorem Vu {f:Nat}(hk:∀o,k o=some r→P o) (e:Qu ti t x f k=some r):HF ti t x f P:=by
 unfold Qu at e;unfold HF;refine Ac (fun i e=>?_) e
 split at e
 ·rename_i fs hf;split at e
  ·rename_i fd hfd;simp only[hf,hfd];refine Ac (fun j e=>AN (fun e=>?_) e) e
   grind
  ·cases e
 ·cases e
abbrev Ds (γ:Type):=TypeId→D→(D→Option γ)→Option γ
def Ds.ok (ds:Ds γ):Prop:=∀t x k r,ds t x k=some r→k x=some r
theorem rT {c:Bool}{x:Option γ}(h:BC c x=some r):c=true∧x=some r:=by
 cases c
 ·cases h
 ·exact⟨rfl,h⟩
def Qv (ds:Ds γ) (ti:Types) (t:TypeId) (x i:AV) (k:Out→Option γ):Option γ:=
 Oj i fun n=>Cf ti t fun q=>match q.desc with
 | .slice e=>Cf ti e fun j=>(match x with
  | .v (.c (.sl id len))=>(match n with
   | .ofNat p=>BC (Nat.blt p len) (k ⟨.v (.c (.ptr id (p*j.size))),[],[]⟩)
   | .negSucc _=>none)
  | x=>uO x fun ag sz rows=>BC (AR j.desc==ag)<| BC (Nat.beq sz j.size)<| Ae rows n fun d=>ds e d fun d=>k ⟨.v (.c (.row ag sz d)),[],[]⟩)
 | .array len e=>Cf ti e fun j=>(match x with
  | .v (.c (.ptr id o))=>(match n with
   | .ofNat p=>BC (Nat.blt p len) (k ⟨.v (.c (.ptr id (o+p*j.size))),[],[]⟩)
   | .negSucc _=>none)
  | _=>none)
 | _=>none
theorem Vv {ds:Ds γ}(hd:ds.ok) {i:AV}(hk:∀o,k o=some r→P o) (e:Qv ds ti t x i k=some r):Eu ti t x i P:=by
 unfold Qv at e;unfold Eu;refine Gj (fun _ n e=>Ac (fun q e=>?_) e) e
 split at e
 ·rename_i el hq;simp only[hq];refine Ac (fun j e=>?_) e
  split at e
  ·split at e
   ·obtain⟨h1,e⟩:=rT e;exact⟨_,⟨rfl,by simpa using h1⟩,hk _ e⟩
   ·cases e
  have main:HD x fun ag sz rows=>BJ (AR j.desc==ag)<| BJ (Nat.beq sz j.size)<| ∃r_1,0≤n∧rows[n.toNat]?=some r_1∧P ⟨.v (.c (.row ag sz r_1)),[],[]⟩:=by
   refine Nl (fun ag sz rows e=>AN (AN fun e=>?_) e) e
   obtain⟨d,⟨h1,h2⟩,h3⟩:=Ng e;exact⟨d,h1,h2,hk _ (hd _ _ _ _ h3)⟩
  simp_all
 ·rename_i hq;simp only[hq];refine Ac (fun j e=>?_) e
  split at e
  ·split at e
   ·obtain⟨h1,e⟩:=rT e;simp_all
   ·cases e
  ·cases e
 ·cases e
def uQ (op:UnOp) (x:AV) (k:Out→Option γ):Option γ:=
 match op,x with
 | .not,.v (.d (.bool b))=>Ax (!b) fun q=>k ⟨.v (.d (.bool q)),[],[]⟩
 | _,_=>none
theorem oO {op:UnOp}(hk:∀o,k o=some r→P o) (e:uQ op x k=some r):XG op x P:=by
 unfold uQ at e;split at e
 ·exact⟨_,Ei _,hk _ e⟩
 ·cases e
def jY (ti:Types) (t:TypeId) (x:AV) (k:Out→Option γ):Option γ:=
 Cf ti t fun q=>match q.desc with
 | .slice _=>(match x with
  | .v (.c (.sl _ n))=>k ⟨.v (.d (.int .i64 n)),[],[]⟩
  | x=>uO x fun _ _ rows=>AO rows fun z=>k ⟨.v (.d (.int .i64 z)),[],[]⟩)
 | .string=>(match x with
  | .v (.d (.str s))=>ZX s fun z=>k ⟨.v (.d (.int .i64 z)),[],[]⟩
  | _=>none)
 | .array n _=>k ⟨.v (.d (.int .i64 n)),[],[]⟩
 | _=>none
theorem jZ {M:Aw}(hk:∀o,k o=some r→P o) (e:jY ti t x k=some r):Mp M ti t x P:=by
 unfold jY at e;unfold Mp;refine Ac (fun q e=>?_) e
 split at e
 ·rename_i hq;simp only[hq];split at e
  ·simp_all
  have main:HD x fun _ _ rows=>∃z:Int,M.lenI rows=z∧P ⟨.v (.d (.int .i64 z)),[],[]⟩:=Nl (fun _ _ rows e=>(HV M e).imp fun z h=>⟨h.1,hk _ h.2⟩) e
  simp_all
 ·rename_i hq;simp only[hq];split at e
  ·exact (oG M e).imp fun z h=>⟨h.1,hk _ h.2⟩
  ·cases e
 ·simp_all
 ·cases e
def Qw (ti:Types) (s:AL) (fs:List Field) (cs:List CV):List (Nat×Operand)→(List CV→Option γ)→Option γ
 | [],k=>k cs
 | (i,x)::r,k=>match fs[i]? with
  | some fd=>Cf ti fd.type fun j=>(match AX ti s fd.type x with
   | .v y=>BC (Nat.beq y.cells.length j.size)<| BC (Nat.ble (fd.offset+j.size) cs.length)<| Qw ti s fs (cs.take fd.offset++y.cells++cs.drop (fd.offset+j.size)) r k
   | _=>none)
  | none=>none
theorem Pq {ti:Types}{s:AL}{fs:List Field}:∀{l:List (Nat×Operand)}{cs:List CV}{k:List CV→Option γ}{P:List CV→Prop},(∀cs,k cs=some r→P cs)→Qw ti s fs cs l k=some r→PC ti s fs cs l P
 | [],_,_,_,hk,e=>hk _ e
 | (i,x)::l,cs,k,P,hk,e=>by
  unfold Qw at e;unfold PC;split at e
  ·rename_i fd hfd;simp only[hfd];refine Ac (fun j e=>?_) e
   split at e
   ·rename_i y hy;simp only[hy,DR];exact AN (AN fun e=>Pq hk e) e
   ·cases e
  ·cases e
def Me (ti:Types) (s:AL) (e:TypeId) (sz:Nat) (cs:List CV):List (Nat×Operand)→(List CV→Option γ)→Option γ
 | [],k=>k cs
 | (i,x)::r,k=>match AX ti s e x with
  | .v y=>BC (Nat.beq y.cells.length sz)<| BC (Nat.ble (i*sz+sz) cs.length)<| Me ti s e sz (cs.take (i*sz)++y.cells++cs.drop (i*sz+sz)) r k
  | _=>none
theorem Nn {ti:Types}{s:AL}{e:TypeId}{sz:Nat}:∀{l:List (Nat×Operand)}{cs:List CV}{k:List CV→Option γ}{P:List CV→Prop},(∀cs,k cs=some r→P cs)→Me ti s e sz cs l k=some r→PD ti s e sz cs l P
 | [],_,_,_,hk,h=>hk _ h
 | (i,x)::l,cs,k,P,hk,h=>by
  unfold Me at h;unfold PD;split at h
  ·rename_i y hy;simp only[hy,DR];exact AN (AN fun h=>Nn hk h) h
  ·cases h
def Qx (ti:Types) (s:AL) (t:TypeId) (parts:List (Nat×Operand)) (k:Out→Option γ):Option γ:=
 Cf ti t fun q=>match q.desc with
 | .struct fs=>BC (SO ti fs.toList)<| Qw ti s fs.toList q.zc parts fun cs=>k ⟨.v (V1.Aa true cs),[],[]⟩
 | .array _ e=>Cf ti e fun j=>Me ti s e j.size q.zc parts fun cs=>k ⟨.v (V1.Aa true cs),[],[]⟩
 | _=>none
theorem Vw {s:AL}{parts:List (Nat×Operand)}(hk:∀o,k o=some r→P o) (e:Qx ti s t parts k=some r):HH ti s t parts P:=by
 unfold Qx at e;unfold HH;refine Ac (fun q e=>?_) e
 split at e
 ·rename_i hq;simp only[hq];exact AN (fun e=>Pq (fun cs h=>hk _ h) e) e
 ·rename_i hq;simp only[hq];exact Ac (fun j e=>Nn (fun cs h=>hk _ h) e) e
 ·cases e
def Np (ti:Types) (t:TypeId) (x:AV) (f:Nat) (k:Out→Option γ):Option γ:=
 Cf ti t fun i=>match i.desc with
 | .struct fs=>(match fs[f]? with
  | some fd=>Cf ti fd.type fun j=>(match x with
   | .v y=>BC (QP y)<| BC (Nat.ble (fd.offset+j.size) y.cells.length)<| k ⟨.v (V1.Aa (AR j.desc) ((y.cells.drop fd.offset).take j.size)),[],[]⟩
   | _=>none)
  | none=>none)
 | _=>none
theorem Tj {f:Nat}(hk:∀o,k o=some r→P o) (e:Np ti t x f k=some r):Fz ti t x f P:=by
 unfold Np at e;unfold Fz;refine Ac (fun i e=>?_) e
 split at e
 ·rename_i fs hf;split at e
  ·rename_i fd hfd;simp only[hf,hfd];refine Ac (fun j e=>?_) e
   split at e
   ·simp only[DR];exact AN (AN (hk _)) e
   ·cases e
  ·cases e
 ·cases e
def K5 (x:AV) (i:Nat) (k:Out→Option γ):Option γ:=
 match x with
 | .t xs=>(match YG xs i with
  | some y=>k ⟨.v y,[],[]⟩
  | none=>none)
 | _=>none
theorem Qy {i:Nat}(hk:∀o,k o=some r→P o) (e:K5 x i k=some r):Ew x i P:=by
 unfold K5 at e;split at e
 ·split at e
  ·rename_i hy;simp only[Ew,hy];exact hk _ e
  ·cases e
 ·cases e
def K6 (ti:Types) (src dst:TypeId) (x:AV) (k:Out→Option γ):Option γ:=
 Cf ti src fun a=>Cf ti dst fun b=>match a.desc,b.desc with
 | .int _,.int q=>Oj x fun n=>AW (q.wrap n) fun z=>k ⟨.v (.d (.int q z)),[],[]⟩
 | _,_=>none
theorem Qz {src dst:TypeId}(hk:∀o,k o=some r→P o) (e:K6 ti src dst x k=some r):Ex ti src dst x P:=by
 unfold K6 at e;unfold Ex;refine Ac (fun a e=>Ac (fun b e=>?_) e) e
 split at e
 ·rename_i h1 h2;simp only[h1,h2];exact Gj (fun _ n e=>(Nf e).imp fun z h=>⟨h.1,hk _ h.2⟩) e
 ·cases e
end
end
end Go.AM
namespace Go.AM
open Go Go.RowKit
def AFq:CV→List Id
 | .ptr i _=>[i]
 | .fn _ cap=>cap
 | .lst i _ _ _=>[i]
 | .sl i _=>[i]
 | .map i=>[i]
 | .ap i _ _ _ _=>[i]
 | .ow i=>[i]
 | .op i _ _ _=>[i]
 | .yl i=>[i]
 | .bm _ i=>[i]
 | .fb i=>[i]
 | _=>[]
def uR:List Id→Nat→Id→Option Nat
 | [],_,_=>none
 | j::l,n,i=>match Id.beq j i with
  | true=>some n
  | false=>uR l (n+1) i
def kA (m:List Id) (i:Id):Id:=match uR m 0 i with
 | some j=>.ext j
 | none=>i
def D1 (h:Heap):List Id→Option (List AD)
 | []=>some []
 | i::l=>match h i with
  | some o=>(match D1 h l with
   | some r=>some (o::r)
   | none=>none)
  | none=>none
theorem Nr {h:Heap}:∀{l:List Id}{r:List AD},D1 h l=some r→l.length=r.length∧∀(j:Nat) i o,l[j]?=some i→r[j]?=some o→h i=some o
 | [],r,e=>by cases e;simp_all
 | i::l,r,e=>by
  unfold D1 at e;split at e
  ·rename_i o ho;split at e
   ·rename_i r' hr;cases e
    obtain⟨h1,h2⟩:=Nr hr;grind
   ·cases e
  ·cases e
section
variable {γ:Type}{r:γ}
def Xh (m:List Id) (fresh:Nat) (i:Id):Bool:=Id.beq (BG m fresh (kA m i)) i
theorem Tm {m:List Id}{fresh:Nat}{i:Id}(h:Xh m fresh i=true):BG m fresh (kA m i)=i:=Id.beq_iff.1 h
theorem AG {c:Bool}{x:Option γ}(h:BC c x=some r):c=true∧x=some r:=by
 cases c
 ·cases h
 ·exact⟨rfl,h⟩
theorem kB {l:List Id}(h:nodupB l=true):l.Nodup:=by
 induction l with
 | nil=>exact List.nodup_nil
 | cons i l ih=>
  unfold nodupB at h;split at h
  ·cases h
  ·rename_i hi;refine List.nodup_cons.2 ⟨fun hm=>?_,ih h⟩
   rw[HJ.2 hm]at hi;cases hi
def Xi:List Id→List Id→Bool
 | [],[]=>true
 | i::a,j::b=>(match Id.beq i j with
  | true=>Xi a b
  | false=>false)
 | _,_=>false
theorem Tn:∀{a b:List Id},Xi a b=true→a=b
 | [],[],_=>rfl
 | i::a,j::b,h=>by
  unfold Xi at h;split at h
  ·rename_i hb;rw[Id.beq_iff.1 hb,Tn h]
  ·cases h
 | [],_::_,h=>by cases h
 | _::_,[],h=>by cases h
def oP:CV→CV→Bool
 | .ptr i o,.ptr j q=>(match Id.beq i j with
  | true=>Nat.beq o q
  | false=>false)
 | .fn f c,.fn g d=>(match Nat.beq f g with
  | true=>Xi c d
  | false=>false)
 | .nilp,.nilp=>true
 | .nilf,.nilf=>true
 | _,_=>false
theorem Xj {a b:CV}(h:oP a b=true):a=b:=by
 unfold oP at h;split at h
 ·split at h
  ·rename_i hb;rw[Id.beq_iff.1 hb,Nat.eq_of_beq_eq_true h]
  ·cases h
 ·split at h
  ·rename_i hb;rw[Nat.eq_of_beq_eq_true hb,Tn h]
  ·cases h
 ·rfl
 ·rfl
 ·cases h
def To:List CV→List CV→Bool
 | [],[]=>true
 | i::a,j::b=>(match oP i j with
  | true=>To a b
  | false=>false)
 | _,_=>false
theorem Tp:∀{a b:List CV},To a b=true→a=b
 | [],[],_=>rfl
 | i::a,j::b,h=>by
  unfold To at h;split at h
  ·rename_i hb;rw[Xj hb,Tp h]
  ·cases h
 | [],_::_,h=>by cases h
 | _::_,[],h=>by cases h
def Hb (h:Heap):List Id→List Id
 | []=>[]
 | i::l=>(match h i with
  | some (.cells cs)=>(match To cs cs with
   | true=>i::Hb h l
   | false=>Hb h l)
  | _=>Hb h l)
def Q0 (ti:Types) (s:AL) (e:TypeId) (ag:Bool) (sz:Nat):Nat→List (Nat×Operand)→(List D→Option γ)→Option γ
 | _,[],k=>k []
 | n,(i,x)::l,k=>BC (Nat.beq i n)<| (match AX ti s e x with
  | .v y=>(match y.norm with
   | .d d=>BC (d.isAgg==ag)<| BC (Nat.beq d.cells.length sz)<| Q0 ti s e ag sz (n+1) l fun ds=>k (d::ds)
   | _=>none)
  | _=>none)
theorem Pr {ti:Types}{s:AL}{e:TypeId}{ag:Bool}{sz:Nat}:∀{l:List (Nat×Operand)}{n:Nat}{k:List D→Option γ}{A:List D→Prop},(∀w,k w=some r→A w)→Q0 ti s e ag sz n l k=some r→PE ti s e ag sz n l A
 | [],_,_,_,hk,h=>hk _ h
 | (i,x)::l,n,k,A,hk,h=>by
  unfold Q0 at h;unfold PE;refine AN (fun h=>?_) h
  split at h
  ·rename_i hy;simp only[hy];split at h
   ·rename_i hd;simp only[hd];exact AN (AN fun h=>Pr (fun w hw=>hk _ hw) h) h
   ·cases h
  ·cases h
def Gk (ti:Types) (s:AL) (t:TypeId) (len:Nat) (parts:List (Nat×Operand)) (k:Out→Option γ):Option γ:=
 Cf ti t fun q=>match q.desc with
 | .slice e=>Cf ti e fun j=>BC (Nat.ble (len*j.size) 16777216)<| BC (Nat.beq parts.length len)<| BC (Nat.blt 0 j.size)<| Q0 ti s e (AR j.desc) j.size 0 parts fun ds=>
   k ⟨.v (.c (.tl (AR j.desc) j.size ds)),[],[]⟩
 | _=>none
theorem ML {ti:Types}{s:AL}{t:TypeId}{len:Nat}{parts:List (Nat×Operand)}{k:Out→Option γ}{A:Out→Prop}(hk:∀o,k o=some r→A o) (h:Gk ti s t len parts k=some r):DE ti s t len parts A:=by
 unfold Gk at h;unfold DE;refine Ac (fun q h=>?_) h
 split at h
 ·rename_i hq;simp only[hq];exact Ac (fun j h=>AN (AN (AN fun h=>Pr (fun w hw=>hk _ hw) h)) h) h
 ·cases h
theorem Ff {b:Bool}(h:DC b=true):b=false:=by cases b;rfl;cases h
def Q1 (o:Oper):Bool:=
 match o.op with
 | .store ..=>o.dst.isNone
 | .mapUpdate ..=>o.dst.isNone
 | .insert ..=>o.dst.isNone
 | .defer _=>false
 | _=>true
theorem Ps {o:Oper}{K:Prop}(h:Q1 o=true) (hk:K):FK o K:=by
 unfold Q1 at h;unfold FK;split at h<;>rename_i ho<;>try simp only[ho]
 ·simp_all
 ·simp_all
 ·simp_all
 ·cases h
 ·exact hk
def kC (nt:Nat) (d:Option Tmp):Bool:=
 match d with
 | none=>true
 | some d=>Nat.blt d nt
theorem Mf {nt:Nat}{d:Option Tmp}{K:Prop}(h:kC nt d=true) (hk:K):G6 nt d K:=by
 cases d with
 | none=>exact hk
 | some d=>exact AA.2 ⟨h,hk⟩
def Tq:List (Nat×AV)→Nat→AV→List (Nat×AV)
 | [],_,_=>[]
 | x::l,t,v=>(match Nat.beq x.1 t with
  | true=>(x.1,v)::l
  | false=>x::Tq l t v)
theorem Q2:∀{l:List (Nat×AV)}{t:Nat}{v:AV},AQ l t=v→Tq l t v=l
 | [],_,_,_=>rfl
 | (k,v0)::l,t,v,h=>by
  unfold AQ at h;unfold Tq;split at h
  ·simp_all
  ·rename_i hb;simp only[hb,Q2 h]
end
end Go.AM
namespace Go.AM
open Go Go.RowKit
inductive Pl where
 | e
 | n (k:Nat) (r:Pl)
 | g (gs:List Gh) (l:List (Nat×Nat)) (r:Pl)
 | w (r:Pl)
 | b (p q:Pl)
 | o (i:Id) (t ty:Nat) (r:Pl)
def Pl.at:Pl→Bool→Pl
 | .b p q,true=>p
 | .b p q,false=>q
 | x,_=>x
def Pl.nth (p:Pl) (m:Nat):Pl:=
 match m with
 | 0=>p.at true
 | m+1=>(p.at false).nth m
structure Tk where
 gs:List Gh
 l:List (Nat×Nat)
 w:Bool
 r:Pl
def Pl.take:Pl→Tk
 | .n k r=>(match k with
  | 0=>⟨[],[],false,r⟩
  | k+1=>⟨[],[],false,.n k r⟩)
 | .g gs l r=>⟨gs,l,false,r⟩
 | .w r=>⟨[],[],true,r⟩
 | x=>⟨[],[],false,x⟩
section
variable {γ:Type}{r:γ}
def gd (a b:Nat) (x:Option γ):Option γ:=if a=b then x else none
theorem oQ {a:Nat}{x:Option γ}:gd a a x=x:=by unfold gd;rw[if_pos rfl]
theorem kD {a b:Nat}{x:Option γ}(h:gd a b x=some r):a=b∧x=some r:=by
 unfold gd at h;simp_all
def Vx (op:BinOp) (q:IntKind) (a b:Int) (pl:Pl) (k:Pl→D→Option γ):Option γ:=
 match op with
 | .add=>AW (q.wrap (a+b)) fun z=>k pl (.int q z)
 | .sub=>AW (q.wrap (a - b)) fun z=>k pl (.int q z)
 | .mul=>AW (q.wrap (a*b)) fun z=>k pl (.int q z)
 | .eql=>if a=b then k (pl.at true) (.bool true)else k (pl.at false) (.bool false)
 | .neq=>if a=b then k (pl.at true) (.bool false)else k (pl.at false) (.bool true)
 | .lss=>if a<b then k (pl.at true) (.bool true)else k (pl.at false) (.bool false)
 | .leq=>if a≤b then k (pl.at true) (.bool true)else k (pl.at false) (.bool false)
 | .gtr=>if b<a then k (pl.at true) (.bool true)else k (pl.at false) (.bool false)
 | .geq=>if b≤a then k (pl.at true) (.bool true)else k (pl.at false) (.bool false)
 | .quo=>Be (b≠0) (AW (q.wrap (Int.tdiv a b)) fun z=>k pl (.int q z))
 | .rem=>Be (b≠0) (AW (Int.tmod a b) fun z=>k pl (.int q z))
 | _=>none
section
variable {M:Aw}{op:BinOp}{pl:Pl}{k:Pl→D→Option γ}{P:D→Prop}
theorem Yw {q:IntKind}{a b:Int}(hk:∀p d,k p d=some r→P d) (h:Vx op q a b pl k=some r):Jm M op q a b P:=by
 cases op<;>simp only[Vx]at h<;>try contradiction
 ·exact⟨_,rfl,hk _ _ h⟩
 ·exact⟨_,rfl,hk _ _ h⟩
 ·exact⟨_,rfl,hk _ _ h⟩
 ·obtain⟨h1,h2⟩:=Bv h;exact⟨_,h1,rfl,hk _ _ h2⟩
 ·obtain⟨h1,h2⟩:=Bv h;exact⟨_,h1,rfl,hk _ _ h2⟩
 ·simp only[Jm,M.split_iff,M.eqI_eq];grind
 ·simp only[Jm,M.split_iff,M.eqI_eq]
  by_cases c:a=b
  ·rw[if_pos c]at h;rw[beq_iff_eq.2 c];exact hk _ _ h
  ·rw[if_neg c]at h;rw[beq_eq_false_iff_ne.2 c];exact hk _ _ h
 ·simp only[Jm,M.split_iff,M.ltI_eq];grind
 ·simp only[Jm,M.split_iff,M.leI_eq];grind
 ·simp only[Jm,M.split_iff,M.ltI_eq];grind
 ·simp only[Jm,M.split_iff,M.leI_eq];grind
def Q3 (s t:ByteArray) (k:ByteArray→Option γ):Option γ:=match Nat.ble (s.size+t.size) 9223372036854775807 with
 | true=>k (s++t)
 | false=>none
theorem kE {s t:ByteArray}{k:ByteArray→Option γ}(h:Q3 s t k=some r):∃out,s++t=out∧((s.size+t.size:Nat):Int)≤IntKind.i64.max∧k out=some r:=by
 unfold Q3 at h;split at h
 ·rename_i hb;have:=Nat.le_of_ble_eq_true hb;exact⟨_,rfl,by have:IntKind.i64.max=9223372036854775807:=rfl;omega,h⟩
 ·cases h
def Vy (op:BinOp) (a b:ByteArray) (pl:Pl) (k:Pl→D→Option γ):Option γ:=
 match op with
 | .add=>Q3 a b fun c=>k pl (.str c)
 | .eql=>if a=b then k (pl.at true) (.bool true)else k (pl.at false) (.bool false)
 | .neq=>if a=b then k (pl.at true) (.bool false)else k (pl.at false) (.bool true)
 | _=>none
theorem Yx {a b:ByteArray}(hk:∀p d,k p d=some r→P d) (h:Vy op a b pl k=some r):SM M op a b P:=by
 cases op<;>simp only[Vy]at h<;>try contradiction
 ·obtain⟨c,h1,h2,h3⟩:=kE h;exact⟨c,h1,h2,hk _ _ h3⟩
 ·simp only[SM,M.split_iff,M.eqS_eq]
  by_cases c:a=b
  ·grind
  ·rw[if_neg c]at h;rw[Bool.eq_false_iff.2 fun e=>c (Nd.1 e)];exact hk _ _ h
 ·simp only[SM,M.split_iff,M.eqS_eq]
  by_cases c:a=b
  ·rw[if_pos c]at h;rw[Nd.2 c];exact hk _ _ h
  ·rw[if_neg c]at h;rw[Bool.eq_false_iff.2 fun e=>c (Nd.1 e)];exact hk _ _ h
def Tr (op:BinOp) (b:Bool) (k:D→Option γ):Option γ:=
 match op with
 | .eql=>k (.bool b)
 | .neq=>k (.bool (DC b))
 | _=>none
theorem Nt {b:Bool}{k:D→Option γ}(hk:∀d,k d=some r→P d) (h:Tr op b k=some r):G4 op b P:=by
 unfold Tr at h;unfold G4;grind
def Vz (ti:Types) (op:BinOp) (t:TypeId) (x y:AV) (pl:Pl) (k:Pl→Out→Option γ):Option γ:=
 match x,y with
 | .v (.d (.int q a)),.v (.d (.int q' b))=>BC (decide (q=q')) (Vx op q a b pl fun p d=>k p ⟨.v (.d d),[],[]⟩)
 | .v (.d (.str a)),.v (.d (.str b))=>Vy op a b pl fun p d=>k p ⟨.v (.d d),[],[]⟩
 | .v (.d (.bool a)),.v (.d (.bool b))=>Cf ti t fun i=>(match i.desc with
  | .bool=>(match op with
   | .eql=>Ax (a==b) fun q=>k pl ⟨.v (.d (.bool q)),[],[]⟩
   | .neq=>Ax (!(a==b)) fun q=>k pl ⟨.v (.d (.bool q)),[],[]⟩
   | _=>none)
  | _=>none)
 | .v (.c (.ptr _ _)),.v (.c .nilp)=>Cf ti t fun i=>(match i.desc with
  | .pointer _=>Tr op false fun d=>k pl ⟨.v (.d d),[],[]⟩
  | _=>none)
 | .v (.c .nilp),.v (.c .nilp)=>Cf ti t fun i=>(match i.desc with
  | .pointer _=>Tr op true fun d=>k pl ⟨.v (.d d),[],[]⟩
  | _=>none)
 | .v (.c (.kv u)),.v (.c (.kv v))=>Cf ti t fun i=>(match i.desc with
  | .interface ms=>BC ms.isEmpty (match Mq u v with
   | some q=>Tr op q fun d=>k pl ⟨.v (.d d),[],[]⟩
   | none=>none)
  | _=>none)
 | _,_=>none
theorem Yy {ti:Types}{t:TypeId}{x y:AV}{k:Pl→Out→Option γ}{P:Out→Prop}(hk:∀p o,k p o=some r→P o) (e:Vz ti op t x y pl k=some r):QN M ti op t x y P:=by
 unfold Vz at e;split at e
 ·exact AN (fun e=>Yw (fun p d h=>hk _ _ h) e) e
 ·exact Yx (fun p d h=>hk _ _ h) e
 ·refine Ac (fun i e=>?_) e
  split at e
  ·rename_i hi;simp only[hi];split at e
   ·exact⟨_,MT _ _,hk _ _ e⟩
   ·exact⟨_,by rw[Ei,MT],hk _ _ e⟩
   ·cases e
  ·cases e
 ·refine Ac (fun i e=>?_) e
  split at e
  ·rename_i hi;simp only[hi];exact Nt (fun d h=>hk _ _ h) e
  ·cases e
 ·refine Ac (fun i e=>?_) e
  split at e
  ·rename_i hi;simp only[hi];exact Nt (fun d h=>hk _ _ h) e
  ·cases e
 ·refine Ac (fun i e=>?_) e
  split at e
  ·rename_i hi;simp only[hi];refine AN (fun e=>?_) e
   split at e
   ·rename_i hq;simp only[hq];exact Nt (fun d h=>hk _ _ h) e
   ·cases e
  ·cases e
 ·cases e
end
end
end Go.AM
namespace Go.AM
open Go Go.RowKit
section
variable {γ:Type}{r:γ}
def GG (f:CV→(D→List Id→Option γ)→Option γ):List CV→(List D→List Id→Option γ)→Option γ
 | [],K=>K [] []
 | c::l,K=>f c fun d is=>GG f l fun ds js=>K (d::ds) (is++js)
def CO (h:Heap):Nat→CV→(D→List Id→Option γ)→Option γ
 | 0,_,_=>none
 | n+1,c,K=>match c with
  | .d d=>(match EF d with
   | true=>none
   | false=>K d [])
  | .nilp=>K .nil []
  | .nils ag sz=>(match Nat.blt 0 sz with
   | true=>K (.list ag sz []) []
   | false=>none)
  | .ow j=>(match h j with
   | some (.tree k ag sz rows none)=>(match Jl k ag sz rows with
    | some x=>K x [j]
    | none=>none)
   | _=>none)
  | .ptr j o=>(match o with
   | 0=>(match h j with
    | some (.cells (c::cs))=>GG (CO h n) (c::cs) fun ds is=>K (.box ds) (j::is)
    | _=>none)
   | _=>none)
  | _=>none
theorem Hc {f:CV→(D→List Id→Option γ)→Option γ}{g:CV→(D→List Id→Prop)→Prop}(hf:∀c (K:D→List Id→Option γ) (P:D→List Id→Prop),(∀d is,K d is=some r→P d is)→f c K=some r→g c P):
  ∀{l:List CV} {K:List D→List Id→Option γ} {P:List D→List Id→Prop},(∀d is,K d is=some r→P d is)→GG f l K=some r→Mt g l P
 | [],_,_,hk,e=>hk _ _ e
 | c::l,_,_,hk,e=>hf c _ _ (fun _ _ e=>Hc hf (fun _ _ e=>hk _ _ e) e) e
theorem Ly {h:Heap}:∀{n:Nat}(c:CV) (K:D→List Id→Option γ) (P:D→List Id→Prop),(∀d is,K d is=some r→P d is)→CO h n c K=some r→GU h n c P
 | 0,_,_,_,_,e=>by cases e
 | n+1,c,K,P,hk,e=>by
  unfold CO at e;unfold GU;split at e
  ·grind
  ·exact hk _ _ e
  ·grind
  ·grind
  ·split at e
   ·split at e
    ·rename_i hj;simp only[hj];exact Hc (fun c K P hk e=>Ly c K P hk e) (fun _ _ e=>hk _ _ e) e
    ·cases e
   ·cases e
  ·cases e
def KB (h:Heap) (cs:List CV) (K:List D→List Id→Option γ):Option γ:=GG (CO h 3) cs K
section
variable {h:Heap}
theorem Hd {cs:List CV}{K:List D→List Id→Option γ}{P:List D→List Id→Prop}(hk:∀d is,K d is=some r→P d is) (e:KB h cs K=some r):Mu h cs P:=Hc (fun c K P hk e=>Ly c K P hk e) hk e
def Dk (h:Heap):List Id→(Heap→List Id→List (Id×AD)→Option γ)→Option γ
 | [],K=>K h [] []
 | i::l,K=>match h i with
  | some (.tree kd ag sz rows (some (k,cs)))=>BC (MS kd)<| KB h cs fun ds is=>BC (nodupB is)<| BC (ag || Nat.beq ds.length 1)<|
    O3 rows k (rowOf ag ds) fun rows'=>Dk (Az (AK h i (.tree kd ag sz rows' none)) (Aj is)) l fun h' rd wr=>K h' (i::(is++rd)) ((i,.tree kd ag sz rows' none)::(Aj is++wr))
  | _=>none
theorem He:∀{l:List Id}{h:Heap}{K:Heap→List Id→List (Id×AD)→Option γ}{P:Heap→List Id→List (Id×AD)→Prop},(∀h rd wr,K h rd wr=some r→P h rd wr)→Dk h l K=some r→GV h l P
 | [],_,_,_,hk,e=>hk _ _ _ e
 | i::l,h,K,P,hk,e=>by
  unfold Dk at e;unfold GV;split at e
  ·rename_i hi;simp only[hi];obtain⟨h1,e⟩:=AG e;refine AA.2 ⟨h1,Hd (fun ds is e=>?_) e⟩
   obtain⟨h2,e⟩:=AG e;obtain⟨h3,e⟩:=AG e;obtain⟨rows',h4,e⟩:=TO e;rw[h2,h3];exact⟨rows',h4,He (fun h' rd wr e=>hk _ _ _ e) e⟩
  ·cases e
def Xk (f:Id→List Id):List CV→List Id
 | []=>[]
 | c::l=>(match c with
  | .ow j=>f j++Xk f l
  | _=>Xk f l)
def Mg (h:Heap):Nat→Id→List Id
 | 0,_=>[]
 | n+1,i=>match h i with
  | some (.tree _ _ _ _ foc)=>(match foc with
   | some x=>Xk (Mg h n) x.2++[i]
   | none=>[])
  | _=>[]
def KC (h:Heap) (gs:List Id) (E:Heap→(Out→Option γ)→Option γ) (k:Out→Option γ):Option γ:=Dk h gs fun h' rd wr=>E h' fun out=>k ⟨out.val,rd++out.rd,wr++out.wr⟩
variable {P:Out→Prop}{k:Out→Option γ}
theorem Hg {gs:List Id}{E:Heap→(Out→Option γ)→Option γ}{F:Heap→(Out→Prop)→Prop}(hk:∀o,k o=some r→P o)
  (hE:∀h' (k:Out→Option γ) (P:Out→Prop),(∀o,k o=some r→P o)→E h' k=some r→F h' P) (e:KC h gs E k=some r):I6 h F P:=
 ⟨gs,He (fun h' rd wr e=>hE h' _ _ (fun o e=>hk _ e) e) e⟩
def evP (x:AV) (h:Heap) (K:Id→Kd→Bool→Nat→List D→Option (Nat×List CV)→Nat→Nat→Option γ):Option γ:=
 match x with
 | .v (.c (.op id sz kk o))=>(match h id with
  | some (.tree kd ag sz' rows foc)=>BC (Nat.beq sz' sz) (BC (QT kd) (K id kd ag sz' rows foc kk o))
  | _=>none)
 | .v (.c (.ow id))=>(match h id with
  | some (.tree kd ag sz rows foc)=>(match kd with
   | .box=>K id .box ag sz rows foc 0 0
   | _=>none)
  | _=>none)
 | _=>none
variable {x:AV}
theorem V0 {K:Id→Kd→Bool→Nat→List D→Option (Nat×List CV)→Nat→Nat→Option γ}{P:Id→Kd→Bool→Nat→List D→Option (Nat×List CV)→Nat→Nat→Prop}
  (hk:∀a b c d e f g i,K a b c d e f g i=some r→P a b c d e f g i) (e:evP x h K=some r):Mw x h P:=by
 unfold evP at e;unfold Mw;split at e
 ·split at e
  ·rename_i hi;simp only[hi];exact AN (AN (hk _ _ _ _ _ _ _ _)) e
  ·cases e
 ·grind
 ·cases e
abbrev rU:=Bool→Nat→TypeId→Nat→TypeId
def Q4 (ds:Ds γ) (el:rU) (ti:Types) (t:TypeId) (x:AV) (fresh:Nat) (h:Heap) (pl:Pl) (k:Pl→Out→Option γ):Option γ:=
 Cf ti t fun i=>evP x h fun id kd ag sz rows foc kk o=>match foc with
 | some (k',cs)=>gd k' kk<| BC (Nat.ble (o+i.size) cs.length) (k pl ⟨.v (V1.Aa (AR i.desc) ((cs.drop o).take i.size)),[id],[]⟩)
 | none=>DV rows kk fun d=>ds (el ag sz t o) d fun d=>BC (Nat.ble (o+i.size) d.cells.length)<| (match Bd QU ((d.cells.drop o).take i.size)with
  | true=>k pl ⟨.v (V1.Aa (AR i.desc) (((d.cells.drop o).take i.size).map CV.d)),[id],[]⟩
  | false=>BC (Nat.ble d.cells.length 32) (k pl ⟨.v (V1.Aa (AR i.desc) (((CQ fresh 0 d.cells).drop o).take i.size)),[id],(id,.tree kd ag sz rows (some (kk,CQ fresh 0 d.cells)))::CI fresh 0 d.cells⟩))
variable {ds:Ds γ}{el:rU}{ti:Types}{t:TypeId}{fresh:Nat}{pl:Pl}
theorem V2 (hd:ds.ok) {k:Pl→Out→Option γ}(hk:∀p o,k p o=some r→P o) (e:Q4 ds el ti t x fresh h pl k=some r):loadT ti t x fresh h P:=by
 unfold Q4 at e;unfold loadT;refine Ac (fun i e=>V0 (fun id kd ag sz rows foc kk o e=>?_) e) e
 split at e
 ·obtain⟨h1,e⟩:=kD e;exact⟨h1,AN (hk _ _) e⟩
 ·obtain⟨d,h1,e⟩:=E7 e;replace e:=hd _ _ _ _ e;refine⟨d,h1,AN (fun e=>?_) e⟩
  split at e
  ·rename_i h2;exact⟨true,AA.2 ⟨h2,hk _ _ e⟩⟩
  ·exact⟨false,AN (hk _ _) e⟩
def Nu (ds:Ds γ) (el:rU) (ti:Types) (t:TypeId) (x y:AV) (fresh:Nat) (h:Heap) (pl:Pl) (k:Pl→Out→Option γ):Option γ:=
 Cf ti t fun i=>match y with
 | .v y=>BC (Nat.beq y.cells.length i.size)<| evP x h fun id kd ag sz rows foc kk o=>(match foc with
  | some (k',cs)=>gd k' kk<| BC (Nat.ble (o+i.size) cs.length) (k pl ⟨.u,[id],[(id,.tree kd ag sz rows (some (kk,cs.take o++y.cells++cs.drop (o+i.size))))]⟩)
  | none=>DV rows kk fun d=>ds (el ag sz t o) d fun d=>BC (Nat.ble (o+i.size) d.cells.length)<| BC (Nat.ble d.cells.length 32)
    (k pl ⟨.u,[id],(id,.tree kd ag sz rows (some (kk,(CQ fresh 0 d.cells).take o++y.cells++(CQ fresh 0 d.cells).drop (o+i.size))))::CI fresh 0 d.cells⟩))
 | _=>none
variable {y:AV}
theorem Ts (hd:ds.ok) {k:Pl→Out→Option γ}(hk:∀p o,k p o=some r→P o) (e:Nu ds el ti t x y fresh h pl k=some r):storeT ti t x y fresh h P:=by
 unfold Nu at e;unfold storeT;refine Ac (fun i e=>?_) e
 split at e
 ·simp only[DR];refine AN (fun e=>V0 (fun id kd ag sz rows foc kk o e=>?_) e) e
  split at e
  ·obtain⟨h1,e⟩:=kD e;exact⟨h1,AN (hk _ _) e⟩
  ·obtain⟨d,h1,e⟩:=E7 e;replace e:=hd _ _ _ _ e;exact⟨d,h1,AN (AN (hk _ _)) e⟩
 ·cases e
def Nv (ti:Types) (t:TypeId) (x:AV) (f:Nat) (h:Heap) (k:Out→Option γ):Option γ:=
 Cf ti t fun i=>match i.desc with
 | .struct fs=>(match fs[f]? with
  | some fd=>Cf ti fd.type fun j=>BC (Nat.blt 0 j.size)<| evP x h fun id _ _ sz _ _ kk o=>k ⟨.v (.c (.op id sz kk (o+fd.offset))),[id],[]⟩
  | none=>none)
 | _=>none
theorem Tt {f:Nat}(hk:∀o,k o=some r→P o) (e:Nv ti t x f h k=some r):F3 ti t x f h P:=by
 unfold Nv at e;unfold F3;refine Ac (fun i e=>?_) e
 split at e
 ·rename_i hf;split at e
  ·rename_i hfd;simp only[hf,hfd];exact Ac (fun j e=>AN (fun e=>V0 (fun _ _ _ _ _ _ _ _ e=>hk _ e) e) e) e
  ·cases e
 ·cases e
def Nw (ti:Types) (t:TypeId) (x i:AV) (h:Heap) (k:Out→Option γ):Option γ:=
 Oj i fun n=>Cf ti t fun q=>match q.desc with
 | .slice e=>Cf ti e fun j=>(match x with
  | .v (.c (.ow id))=>(match h id with
   | some (.tree kd _ sz rows _)=>(match kd with
    | .row=>BC (Nat.beq sz j.size)<| Be (0≤n∧n.toNat<rows.length) (k ⟨.v (.c (.op id sz n.toNat 0)),[id],[]⟩)
    | _=>none)
   | _=>none)
  | _=>none)
 | _=>none
variable {M:Aw}
theorem Tu {i:AV}(hk:∀o,k o=some r→P o) (e:Nw ti t x i h k=some r):F4 M ti t x i h P:=by
 unfold Nw at e;unfold F4;refine Gj (fun _ n e=>Ac (fun q e=>?_) e) e
 split at e
 ·rename_i hq;simp only[hq];refine Ac (fun j e=>?_) e
  split at e
  ·split at e
   ·rename_i hi;split at e
    ·simp only[hi];refine AN (fun e=>?_) e
     obtain⟨h1,e⟩:=Bv e;exact⟨(M.lock_iff _).2 h1,hk _ e⟩
    ·cases e
   ·cases e
  ·cases e
 ·cases e
def V3 (ti:Types) (t:TypeId) (x:AV) (h:Heap) (k:Out→Option γ):Option γ:=
 Cf ti t fun q=>match x with
 | .v (.c (.ow id))=>(match h id with
  | some (.tree kd _ _ rows _)=>(match kd with
   | .row=>(match q.desc with
    | .slice _=>AO rows fun z=>k ⟨.v (.d (.int .i64 z)),[id],[]⟩
    | _=>none)
   | _=>none)
  | _=>none)
 | _=>none
theorem Yz (hk:∀o,k o=some r→P o) (e:V3 ti t x h k=some r):Jo M ti t x h P:=by
 unfold V3 at e;unfold Jo;refine Ac (fun q e=>?_) e
 split at e
 ·split at e
  ·rename_i hi;split at e
   ·split at e
    ·rename_i hq;simp only[hi,hq];exact (HV M e).imp fun z h=>⟨h.1,hk _ h.2⟩
    ·cases e
   ·cases e
  ·cases e
 ·cases e
def V4 (x:AV) (h:Heap) (ag:Bool) (sz:Nat) (K:List Id→List D→Option γ):Option γ:=
 match x with
 | .v (.c (.nils _ _))=>K [] []
 | .v (.c (.ow i))=>(match h i with
  | some (.tree kd ag' sz' rows foc)=>(match kd with
   | .row=>(match foc with
    | none=>BC (ag'==ag) (BC (Nat.beq sz' sz) (K [i] rows))
    | some _=>none)
   | _=>none)
  | _=>none)
 | _=>none
variable {K:List Id→List D→Option γ}{ag:Bool}{sz:Nat}
theorem Y0 {P:List Id→List D→Prop}(hk:∀a b,K a b=some r→P a b) (e:V4 x h ag sz K=some r):Zp x h ag sz P:=by
 unfold V4 at e;unfold Zp;split at e
 ·exact hk _ _ e
 ·split at e
  ·rename_i hi;split at e
   ·split at e
    ·simp only[hi];exact AN (AN (hk _ _)) e
    ·cases e
   ·cases e
  ·cases e
 ·cases e
def V5 (y:AV) (h:Heap) (ag:Bool) (sz:Nat) (K:List Id→List D→Option γ):Option γ:=
 match y with
 | .v (.c (.sl jj n))=>(match h jj with
  | some (.cells cs)=>BC (Nat.beq cs.length (n*sz)) (KB h cs fun ds is=>K is (rowsOf ag sz n ds))
  | _=>none)
 | .v (.c (.ow i))=>(match h i with
  | some (.tree kd ag' sz' rows foc)=>(match kd with
   | .row=>(match foc with
    | none=>BC (ag'==ag) (BC (Nat.beq sz' sz) (K [i] rows))
    | some _=>none)
   | _=>none)
  | _=>none)
 | .v (.d (.list ag' sz' ys))=>BC (ag'==ag) (BC (Nat.beq sz' sz) (Be (HY ys=true) (K [] ys)))
 | .v (.c (.tl ag' sz' ys))=>BC (ag'==ag) (BC (Nat.beq sz' sz) (Be (HY ys=true) (K [] ys)))
 | .v (.c (.nils ag' sz'))=>BC (ag'==ag) (BC (Nat.beq sz' sz) (Be (HY []=true) (K [] [])))
 | _=>none
theorem Y1 {P:List Id→List D→Prop}(hk:∀a b,K a b=some r→P a b) (e:V5 y h ag sz K=some r):Zq y h ag sz P:=by
 unfold V5 at e;unfold Zq;split at e
 ·split at e
  ·rename_i hi;simp only[hi];exact AN (fun e=>Hd (fun ds is e=>⟨_,rfl,hk _ _ e⟩) e) e
  ·cases e
 ·split at e
  ·rename_i hi;split at e
   ·split at e
    ·simp only[hi];exact AN (AN (hk _ _)) e
    ·cases e
   ·cases e
  ·cases e
 ·exact AN (AN fun e=>⟨Ky.1 (Bv e).1,hk _ _ (Bv e).2⟩) e
 ·exact AN (AN fun e=>⟨Ky.1 (Bv e).1,hk _ _ (Bv e).2⟩) e
 ·exact AN (AN fun e=>⟨Ky.1 (Bv e).1,hk _ _ (Bv e).2⟩) e
 ·cases e
def K7 (ti:Types) (t:TypeId) (x y:AV) (fresh:Nat) (h:Heap) (k:Out→Option γ):Option γ:=
 Cf ti t fun q=>match q.desc with
 | .slice e=>Cf ti e fun j=>BC (Nat.blt 0 j.size)<| V4 x h (AR j.desc) j.size fun ids rows=>V5 y h (AR j.desc) j.size fun is ys=>
   BC (nodupB (ids++is))<| Bw j.bytes rows ys fun out=>k ⟨.v (.c (.ow (.loc fresh))),ids++(is++nH y),Aj (ids++is)++[(.loc fresh,.tree .row (AR j.desc) j.size out none)]⟩
 | _=>none
theorem Q5 (hk:∀o,k o=some r→P o) (e:K7 ti t x y fresh h k=some r):Jt M ti t x y fresh h P:=by
 unfold K7 at e;unfold Jt;refine Ac (fun q e=>?_) e
 split at e
 ·rename_i hq;simp only[hq];refine Ac (fun j e=>AN (fun e=>Y0 (fun ids rows e=>Y1 (fun is ys e=>AN (fun e=>?_) e) e) e) e) e
  obtain⟨out,h1,h2,e⟩:=HW e;exact⟨(M.lock_iff _).2 h1,out,h2,hk _ e⟩
 ·cases e
def V6 (x:AV) (h:Heap) (ag:Bool) (sz:Nat) (K:List Id→List D→Option γ):Option γ:=
 match x with
 | .v (.c (.nils _ _))=>K [] []
 | .v (.c (.ow i))=>(match h i with
  | some (.tree kd ag' sz' rows foc)=>(match foc with
   | none=>(match kd with
    | .flat=>BC (ag'==ag) (BC (Nat.beq sz' sz) (K [i] rows))
    | .row=>(match rows with
     | []=>BC (ag'==ag) (BC (Nat.beq sz' sz) (K [i] []))
     | _=>none)
    | _=>none)
   | some _=>none)
  | _=>none)
 | _=>none
theorem Y2 {P:List Id→List D→Prop}(hk:∀a b,K a b=some r→P a b) (e:V6 x h ag sz K=some r):Zx x h ag sz P:=by
 unfold V6 at e;unfold Zx;split at e
 ·exact hk _ _ e
 ·split at e
  ·rename_i hi;split at e
   ·split at e
    ·simp only[hi];exact AN (AN (hk _ _)) e
    ·split at e
     ·simp only[hi];exact AN (AN (hk _ _)) e
     ·cases e
    ·cases e
   ·cases e
  ·cases e
 ·cases e
def K8 (ti:Types) (t:TypeId) (x y:AV) (fresh:Nat) (h:Heap) (k:Out→Option γ):Option γ:=
 Cf ti t fun q=>match q.desc with
 | .slice e=>Cf ti e fun j=>BC (Nat.blt 0 j.size)<| V6 x h (AR j.desc) j.size fun ids rows=>uO y fun ag sz ys=>BC (ag==AR j.desc)<| BC (Nat.beq sz j.size)<|
   Bw j.bytes rows ys fun out=>k ⟨.v (.c (.ow (.loc fresh))),ids,Aj ids++[(.loc fresh,.tree .flat (AR j.desc) j.size out none)]⟩
 | _=>none
theorem Q6 (hk:∀o,k o=some r→P o) (e:K8 ti t x y fresh h k=some r):HP M ti t x y fresh h P:=by
 unfold K8 at e;unfold HP;refine Ac (fun q e=>?_) e
 split at e
 ·rename_i hq;simp only[hq];refine Ac (fun j e=>AN (fun e=>Y2 (fun ids rows e=>Nl (fun ag sz ys e=>AN (AN fun e=>?_) e) e) e) e) e
  obtain⟨out,h1,h2,e⟩:=HW e;exact⟨(M.lock_iff _).2 h1,out,h2,hk _ e⟩
 ·cases e
def GH (ti:Types) (s:AL) (e:TypeId) (sz:Nat):Nat→List (Nat×Operand)→(List CV→Option γ)→Option γ
 | _,[],k=>k []
 | n,(i,x)::l,k=>BC (Nat.beq i n)<| match AX ti s e x with
  | .v y=>BC (Nat.beq y.cells.length sz)<| GH ti s e sz (n+1) l fun cs=>k (y.cells++cs)
  | _=>none
theorem FQ {ti:Types}{s:AL}{e:TypeId}{sz:Nat}:∀{l:List (Nat×Operand)}{n:Nat}{k:List CV→Option γ}{P:List CV→Prop},(∀c,k c=some r→P c)→GH ti s e sz n l k=some r→GS ti s e sz n l P
 | [],_,_,_,hk,h=>hk _ h
 | (i,x)::l,n,k,P,hk,h=>by
  unfold GH at h;unfold GS;refine AN (fun h=>?_) h
  split at h
  ·rename_i hy;simp only[hy];exact AN (fun h=>FQ (fun c h=>hk _ h) h) h
  ·cases h
def V7 (ys:List D) (k:List D→Option γ):Option γ:=match ys with
 | []=>k []
 | y::l=>Gf (y::l) k
theorem V8 {ys:List D}{k:List D→Option γ}(h:V7 ys k=some r):k ys=some r:=by
 unfold V7 at h;split at h
 ·exact h
 ·exact h
def Fg (ti:Types) (s:AL) (t:TypeId) (len:Nat) (parts:List (Nat×Operand)) (fresh:Nat) (h:Heap) (k:Out→Option γ):Option γ:=
 Cf ti t fun q=>match q.desc with
 | .slice e=>Cf ti e fun j=>BC (Nat.ble (len*j.size) 16777216)<| BC (Nat.beq parts.length len)<| BC (Nat.blt 0 j.size)<| GH ti s e j.size 0 parts fun cs=>
   KB h cs fun ds is=>BC (nodupB is)<| BC (Nat.ble len maxLen)<| V7 (rowsOf (AR j.desc) j.size len ds) fun ys=>k ⟨.v (.c (.ow (.loc fresh))),is,Aj is++[(.loc fresh,.tree .row (AR j.desc) j.size ys none)]⟩
 | _=>none
variable {parts:List (Nat×Operand)}
theorem LA {s:AL}{len:Nat}(hk:∀o,k o=some r→P o) (e:Fg ti s t len parts fresh h k=some r):FI ti s t len parts fresh h P:=by
 unfold Fg at e;unfold FI;refine Ac (fun q e=>?_) e
 split at e
 ·rename_i hq;simp only[hq];refine Ac (fun j e=>AN (AN (AN fun e=>FQ (fun cs e=>?_) e)) e) e
  exact Hd (fun ds is e=>AN (AN fun e=>⟨_,rfl,hk _ (V8 e)⟩) e) e
 ·cases e
def Fh (ti:Types) (s:AL) (t:TypeId) (len:Nat) (parts:List (Nat×Operand)) (fresh:Nat) (k:Out→Option γ):Option γ:=
 Cf ti t fun q=>match q.desc with
 | .slice e=>Cf ti e fun j=>BC (Nat.ble (len*j.size) 16777216)<| BC (Nat.beq parts.length len)<| BC (Nat.blt 0 j.size)<| GH ti s e j.size 0 parts fun cs=>
   k ⟨.v (.c (.sl (.loc fresh) len)),[],[(.loc fresh,.cells cs)]⟩
 | _=>none
theorem LB {s:AL}{len:Nat}(hk:∀o,k o=some r→P o) (e:Fh ti s t len parts fresh k=some r):DZ ti s t len parts fresh P:=by
 unfold Fh at e;unfold DZ;refine Ac (fun q e=>?_) e
 split at e
 ·rename_i hq;simp only[hq];exact Ac (fun j e=>AN (AN (AN fun e=>FQ (fun cs e=>hk _ e) e)) e) e
 ·cases e
def V9 (own:Bool) (ti:Types) (t:TypeId) (x y:AV) (fresh:Nat) (k:Out→Option γ):Option γ:=
 Oj x fun n=>Oj y fun m=>Cf ti t fun q=>match q.desc with
 | .slice e=>Cf ti e fun j=>BC (Nat.blt 0 j.size)<| (match zDs j.zc with
  | some ds=>Lv j.bytes (rowOf (AR j.desc) ds) n m fun rows=>(match own with
   | true=>k ⟨.v (.c (.ow (.loc fresh))),[],[(.loc fresh,.tree .row (AR j.desc) j.size rows none)]⟩
   | false=>k ⟨.v (.c (.tl (AR j.desc) j.size rows)),[],[]⟩)
  | none=>none)
 | _=>none
theorem Y3 {own:Bool}(hk:∀o,k o=some r→P o) (e:V9 own ti t x y fresh k=some r):Db M ti t x y fresh P:=by
 unfold V9 at e;unfold Db;refine Gj (fun _ n e=>Gj (fun _ m e=>Ac (fun q e=>?_) e) e) e
 split at e
 ·rename_i hq;simp only[hq];refine Ac (fun j e=>AN (fun e=>?_) e) e
  split at e
  ·rename_i hz;obtain⟨rows,h1,h2,e⟩:=Yr e;simp only[hz];refine⟨(M.lock_iff _).2 h1,rows,h2,own,?_⟩;grind
  ·cases e
 ·cases e
def oS (x:AV) (h:Heap) (K:Id→Bool→Nat→List D→Option γ):Option γ:=
 match x with
 | .v (.c (.ow id))=>(match h id with
  | some (.tree kd ag sz rows foc)=>(match kd with
   | .flat=>(match foc with
    | none=>K id ag sz rows
    | some _=>none)
   | _=>none)
  | _=>none)
 | _=>none
theorem Xl {K:Id→Bool→Nat→List D→Option γ}{P:Id→Bool→Nat→List D→Prop}(hk:∀a b c d,K a b c d=some r→P a b c d) (e:oS x h K=some r):Kp x h P:=by
 unfold oS at e;unfold Kp;grind
def kF (x:AV) (h:Heap) (K:Id→Bool→Nat→List D→Nat→Nat→Option γ):Option γ:=
 match x with
 | .v (.c (.op id sz kk o))=>(match h id with
  | some (.tree kd ag sz' rows foc)=>(match kd with
   | .flat=>(match foc with
    | none=>BC (Nat.beq sz' sz) (K id ag sz' rows kk o)
    | some _=>none)
   | _=>none)
  | _=>none)
 | _=>none
theorem Q7 {K:Id→Bool→Nat→List D→Nat→Nat→Option γ}{P:Id→Bool→Nat→List D→Nat→Nat→Prop}(hk:∀a b c d e f,K a b c d e f=some r→P a b c d e f) (e:kF x h K=some r):I7 x h P:=by
 unfold kF at e;unfold I7;split at e
 ·split at e
  ·rename_i hi;split at e
   ·split at e
    ·simp only[hi];exact AN (hk _ _ _ _ _ _) e
    ·cases e
   ·cases e
  ·cases e
 ·cases e
def Tv (ds:Ds γ) (el:rU) (ti:Types) (t:TypeId) (x:AV) (h:Heap) (k:Out→Option γ):Option γ:=
 Cf ti t fun i=>kF x h fun id ag sz rows kk o=>DV rows kk fun d=>ds (el ag sz t o) d fun d=>BC (Nat.ble (o+i.size) d.cells.length) (k ⟨.v (V1.Aa (AR i.desc) (((d.cells.drop o).take i.size).map CV.d)),[id],[]⟩)
theorem Tw (hd:ds.ok) (hk:∀o,k o=some r→P o) (e:Tv ds el ti t x h k=some r):Jw ti t x h P:=by
 refine Ac (fun i e=>Q7 (fun id ag sz rows kk o e=>?_) e) e
 obtain⟨d,h1,e⟩:=E7 e;replace e:=hd _ _ _ _ e;exact⟨d,h1,AN (hk _) e⟩
def Pt (ds:Ds γ) (el:rU) (ti:Types) (t:TypeId) (x y:AV) (h:Heap) (k:Out→Option γ):Option γ:=
 Cf ti t fun i=>match y with
 | .v y=>(match y.norm with
  | .d v=>BC (Nat.beq v.cells.length i.size)<| kF x h fun id ag sz rows kk o=>DV rows kk fun d=>ds (el ag sz t o) d fun d=>BC (Nat.ble (o+i.size) d.cells.length)<|
    O3 rows kk (rowOf ag (d.cells.take o++v.cells++d.cells.drop (o+i.size))) fun rows'=>k ⟨.u,[id],[(id,.tree .flat ag sz rows' none)]⟩
  | _=>none)
 | _=>none
theorem Q8 (hd:ds.ok) (hk:∀o,k o=some r→P o) (e:Pt ds el ti t x y h k=some r):IY ti t x y h P:=by
 refine Ac (fun i e=>?_) e
 split at e
 ·split at e
  ·rename_i hn;simp only[DR,hn];refine AN (fun e=>Q7 (fun id ag sz rows kk o e=>?_) e) e
   obtain⟨d,h1,e⟩:=E7 e;replace e:=hd _ _ _ _ e;refine⟨d,h1,AN (fun e=>?_) e⟩
   obtain⟨out,h2,e⟩:=TO e;simp_all
  ·cases e
 ·cases e
def LC (ti:Types) (t:TypeId) (x:AV) (f:Nat) (h:Heap) (k:Out→Option γ):Option γ:=
 Cf ti t fun i=>match i.desc with
 | .struct fs=>(match fs[f]? with
  | some fd=>Cf ti fd.type fun j=>BC (Nat.blt 0 j.size)<| kF x h fun id _ sz _ kk o=>k ⟨.v (.c (.op id sz kk (o+fd.offset))),[id],[]⟩
  | none=>none)
 | _=>none
theorem Q9 {f:Nat}(hk:∀o,k o=some r→P o) (e:LC ti t x f h k=some r):F5 ti t x f h P:=by
 unfold LC at e;unfold F5;refine Ac (fun i e=>?_) e
 split at e
 ·rename_i hf;split at e
  ·rename_i hfd;simp only[hf,hfd];exact Ac (fun j e=>AN (fun e=>Q7 (fun _ _ _ _ _ _ e=>hk _ e) e) e) e
  ·cases e
 ·cases e
def LF (ti:Types) (t:TypeId) (x i:AV) (h:Heap) (k:Out→Option γ):Option γ:=
 Oj i fun n=>Cf ti t fun q=>match q.desc with
 | .slice e=>Cf ti e fun j=>oS x h fun id _ sz rows=>BC (Nat.beq sz j.size)<| Be (0≤n∧n.toNat<rows.length) (k ⟨.v (.c (.op id sz n.toNat 0)),[id],[]⟩)
 | _=>none
theorem RA {i:AV}(hk:∀o,k o=some r→P o) (e:LF ti t x i h k=some r):F7 M ti t x i h P:=by
 unfold LF at e;unfold F7;refine Gj (fun _ n e=>Ac (fun q e=>?_) e) e
 split at e
 ·rename_i hq;simp only[hq];refine Ac (fun j e=>Xl (fun id ag sz rows e=>AN (fun e=>?_) e) e) e
  obtain⟨h1,e⟩:=Bv e;exact⟨(M.lock_iff _).2 h1,hk _ e⟩
 ·cases e
def RB (ti:Types) (t:TypeId) (x:AV) (h:Heap) (k:Out→Option γ):Option γ:=
 Cf ti t fun q=>match q.desc with
 | .slice _=>oS x h fun id _ _ rows=>AO rows fun z=>k ⟨.v (.d (.int .i64 z)),[id],[]⟩
 | _=>none
theorem WA (hk:∀o,k o=some r→P o) (e:RB ti t x h k=some r):Jx M ti t x h P:=by
 unfold RB at e;unfold Jx;refine Ac (fun q e=>?_) e
 split at e
 ·rename_i hq;simp only[hq];exact Xl (fun id _ _ rows e=>(HV M e).imp fun z h=>⟨h.1,hk _ h.2⟩) e
 ·cases e
def evM (x:AV) (h:Heap) (K:Id→Bool→Nat→List D→Option γ):Option γ:=
 match x with
 | .v (.c (.ow id))=>(match h id with
  | some (.tree kd ag sz rows foc)=>(match kd with
   | .fmap e=>(match ag with
    | true=>(match foc with
     | none=>K id e sz rows
     | some _=>none)
    | false=>none)
   | _=>none)
  | _=>none)
 | _=>none
theorem kG {K:Id→Bool→Nat→List D→Option γ}{P:Id→Bool→Nat→List D→Prop}(hk:∀a b c d,K a b c d=some r→P a b c d) (e:evM x h K=some r):PR x h P:=by
 unfold evM at e;unfold PR;grind
def LG (ds:Ds γ) (ti:Types) (t:TypeId) (x key:AV) (ok:Bool) (h:Heap) (pl:Pl) (k:Pl→Out→Option γ):Option γ:=
 Cf ti t fun q=>match q.desc with
 | .map kt et=>Cf ti kt fun kk=>Cf ti et fun j=>BC (I5 j)<| (match key with
  | .v (.d key)=>BC (HO kk.desc key)<| evM x h fun id e _ rows=>BC (e==AR j.desc)<| findF e key rows
    (fun y=>ds et y fun y=>match ok with
     | true=>k (pl.at true) ⟨.t [.d y,.d (.bool true)],[id],[]⟩
     | false=>k (pl.at true) ⟨.v (.d y),[id],[]⟩)
    (match ok with
     | true=>k (pl.at false) ⟨.t [V1.Aa (AR j.desc) j.zc,.d (.bool false)],[id],[]⟩
     | false=>k (pl.at false) ⟨.v (V1.Aa (AR j.desc) j.zc),[id],[]⟩)
  | _=>none)
 | _=>none
theorem RC (hd:ds.ok) {key:AV}{ok:Bool}{k:Pl→Out→Option γ}(hk:∀p o,k p o=some r→P o) (e:LG ds ti t x key ok h pl k=some r):E1 M ti t x key ok h P:=by
 unfold LG at e;unfold E1;refine Ac (fun q e=>?_) e
 split at e
 ·rename_i hq;simp only[hq];refine Ac (fun kk e=>Ac (fun j e=>AN (fun e=>?_) e) e) e
  split at e
  ·refine AN (fun e=>kG (fun id e' sz rows e=>AN (fun e=>?_) e) e) e
   rcases Pk e with⟨y,h1,e⟩ | ⟨h1,e⟩
   ·refine⟨some y,(M.lock_iff _).2 h1,?_⟩;replace e:=hd _ _ _ _ e;grind
   ·refine⟨none,(M.lock_iff _).2 h1,?_⟩;grind
  ·cases e
 ·cases e
def Ic (ti:Types) (t:TypeId) (x key y:AV) (h:Heap) (k:Out→Option γ):Option γ:=
 Cf ti t fun q=>match q.desc with
 | .map kt et=>Cf ti kt fun kk=>Cf ti et fun j=>(match key with
  | .v (.d key)=>BC (HO kk.desc key)<| (match y with
   | .v y=>(match y.norm with
    | .d d=>BC (d.isAgg==AR j.desc)<| BC (Nat.beq d.cells.length j.size)<| evM x h fun id e sz rows=>BC (e==AR j.desc)<| BC (Nat.beq sz (j.size+1))<|
      B5 key d.cells rows fun rows'=>k ⟨.u,[id],[(id,.tree (.fmap e) true sz rows' none)]⟩
    | _=>none)
   | _=>none)
  | _=>none)
 | _=>none
theorem KD {key:AV}(hk:∀o,k o=some r→P o) (e:Ic ti t x key y h k=some r):Dw M ti t x key y h P:=by
 unfold Ic at e;unfold Dw;refine Ac (fun q e=>?_) e
 split at e
 ·rename_i hq;simp only[hq];refine Ac (fun kk e=>Ac (fun j e=>?_) e) e
  split at e
  ·refine AN (fun e=>?_) e
   split at e
   ·split at e
    ·rename_i hn;simp only[DR,hn];refine AN (AN fun e=>kG (fun id e' sz rows e=>AN (AN fun e=>?_) e) e) e
     obtain⟨out,h1,e⟩:=jG e;exact⟨out,(M.lock_iff _).2 h1,hk _ e⟩
    ·cases e
   ·cases e
  ·cases e
 ·cases e
def Pu (ti:Types) (t:TypeId) (fresh:Nat) (k:Out→Option γ):Option γ:=
 Cf ti t fun q=>match q.desc with
 | .map _ et=>Cf ti et fun j=>k ⟨.v (.c (.ow (.loc fresh))),[],[(.loc fresh,.tree (.fmap (AR j.desc)) true (j.size+1) [] none)]⟩
 | _=>none
theorem RD (hk:∀o,k o=some r→P o) (e:Pu ti t fresh k=some r):FJ ti t fresh P:=by
 refine Ac (fun q e=>?_) e
 split at e
 ·rename_i hq;simp only[hq];exact Ac (fun j e=>hk _ e) e
 ·cases e
end
end
end Go.AM
namespace Go.AM
open Go Go.RowKit
section
variable {γ:Type}{r:γ}
def rV (ti:Types) (s:AL) (x:Option Operand) (d:Option γ) (k:Int→Option γ):Option γ:=
 match x with
 | none=>d
 | some x=>Oj (AX ti s 3 x) k
def RE (ti:Types) (s:AL) (t:TypeId) (x:AV) (lo hi mx:Option Operand) (k:Out→Option γ):Option γ:=
 Cf ti t fun q=>match q.desc with
 | .string=>(match x with
  | .v (.d (.str b))=>(match mx with
   | none=>(match lo with
    | none=>(match hi with
     | none=>none
     | some u=>Oj (AX ti s 3 u) fun u=>oI b 0 u fun c=>k ⟨.v (.d (.str c)),[],[]⟩)
    | some l=>Oj (AX ti s 3 l) fun l=>(match hi with
     | none=>VZ b l fun c=>k ⟨.v (.d (.str c)),[],[]⟩
     | some u=>Oj (AX ti s 3 u) fun u=>oI b l u fun c=>k ⟨.v (.d (.str c)),[],[]⟩))
   | some _=>none)
  | _=>none)
 | .slice e=>Cf ti e fun j=>match x with
  | .v (.c (.sl _ n))=>(match lo,hi,mx with
   | none,some u,none=>Oj (AX ti s 3 u) fun z=>(match z with
    | .ofNat 0=>BC (Nat.ble n 4294967296) (k ⟨.v (.d (.list (AR j.desc) j.size [])),[],[]⟩)
    | _=>none)
   | _,_,_=>none)
  | x=>uO x fun ag sz rows=>BC (AR j.desc==ag)<| BC (Nat.beq sz j.size)<| rV ti s lo
   (match hi with
    | none=>none
    | some u=>Oj (AX ti s 3 u) fun u=>(match mx with
     | none=>HX rows 0 u fun out=>k ⟨.v (.d (.list ag sz out)),[],[]⟩
     | some m=>Oj (AX ti s 3 m) fun v=>Mc rows 0 u v fun out=>k ⟨.v (.c (.tl ag sz out)),[],[]⟩))
   fun l=>(match hi with
    | none=>(match mx with
     | none=>jB rows l fun out=>k ⟨.v (.d (.list ag sz out)),[],[]⟩
     | some _=>none)
    | some u=>Oj (AX ti s 3 u) fun u=>(match mx with
     | none=>HX rows l u fun out=>k ⟨.v (.d (.list ag sz out)),[],[]⟩
     | some m=>Oj (AX ti s 3 m) fun v=>Mc rows l u v fun out=>k ⟨.v (.c (.tl ag sz out)),[],[]⟩))
 | _=>none
section
variable {x:AV}
theorem Dl {k:Int→Option γ}(h:Oj x k=some r):∃q n,x= .v (.d (.int q n))∧k n=some r:=by
 unfold Oj at h;grind
variable {k:Out→Option γ}{M:Aw}{ti:Types}{t:TypeId}{P:Out→Prop}
theorem WB {s:AL}{lo hi mx:Option Operand}(hk:∀o,k o=some r→P o) (e:RE ti s t x lo hi mx k=some r):HI M ti s t x lo hi mx P:=by
 unfold RE at e;unfold HI;refine Ac (fun q e=>?_) e
 split at e
 ·rename_i hq;simp only[hq];split at e
  ·split at e
   ·split at e
    ·split at e
     ·cases e
     ·obtain⟨q2,u,h2,e⟩:=Dl e;obtain⟨c,h3,h4,e⟩:=TP M e;simp only[MI,h2,DD];simp_all
    ·obtain⟨q1,l,h1,e⟩:=Dl e;split at e
     ·obtain⟨c,h3,h4,e⟩:=Va M e;simp only[MI,h1,DD];simp_all
     ·obtain⟨q2,u,h2,e⟩:=Dl e;obtain⟨c,h3,h4,e⟩:=TP M e;simp only[MI,h1,h2,DD];simp_all
   ·cases e
  ·cases e
 ·rename_i el hq;simp only[hq];refine Ac (fun j e=>?_) e
  split at e
  ·split at e
   ·obtain⟨q1,z,h1,e⟩:=Dl e;split at e
    ·obtain⟨h2,e⟩:=AG e;simp only[QO,h1,DD];exact AA.2 ⟨h2,rfl,hk _ e⟩
    ·cases e
   ·cases e
  split
  ·simp_all
  refine Nl (fun ag sz rows e=>AN (AN fun e=>?_) e) e
  unfold rV at e;split at e
  ·split at e
   ·cases e
   ·obtain⟨q2,u,h2,e⟩:=Dl e;simp only[MI,h2,DD];split at e
    ·obtain⟨c,h3,h4,e⟩:=Nh M e;simp_all
    ·obtain⟨q3,v,h5,e⟩:=Dl e;obtain⟨c,h3,h4,e⟩:=Lu M e;simp_all
  ·obtain⟨q1,l,h1,e⟩:=Dl e;split at e
   ·split at e
    ·obtain⟨c,h3,h4,e⟩:=Yp M e;simp only[MI,h1,DD];simp_all
    ·cases e
   ·obtain⟨q2,u,h2,e⟩:=Dl e;simp only[MI,h1,h2,DD];split at e
    ·obtain⟨c,h3,h4,e⟩:=Nh M e;simp_all
    ·obtain⟨q3,v,h5,e⟩:=Dl e;obtain⟨c,h3,h4,e⟩:=Lu M e;simp_all
 ·cases e
def kH (ds:Ds γ) (ti:Types) (t:TypeId) (x i:AV) (k:Out→Option γ):Option γ:=
 Oj i fun n=>Cf ti t fun q=>match q.desc with
 | .string=>(match x with
  | .v (.d (.str b))=>rL b n fun z=>k ⟨.v (.d (.int .u8 z)),[],[]⟩
  | _=>none)
 | .array len e=>Cf ti e fun j=>(match x with
  | .v (.d (.agg cs))=>BC (Nat.beq cs.length (len*j.size))<| Ae (rowsOf (AR j.desc) j.size len cs) n fun d=>ds e d fun d=>k ⟨.v (.d d),[],[]⟩
  | .v (.agg cs)=>BC (Nat.beq cs.length (len*j.size))<| (match n with
   | .ofNat p=>BC (Nat.blt p len) (k ⟨.v (V1.Aa (AR j.desc) ((cs.drop (p*j.size)).take j.size)),[],[]⟩)
   | .negSucc _=>none)
  | _=>none)
 | _=>none
theorem kI {ds:Ds γ}(hd:ds.ok) {i:AV}(hk:∀o,k o=some r→P o) (e:kH ds ti t x i k=some r):Fy ti t x i P:=by
 unfold kH at e;unfold Fy;refine Gj (fun _ n e=>Ac (fun q e=>?_) e) e
 split at e
 ·rename_i hq;simp only[hq];split at e
  ·obtain⟨z,h1,h2⟩:=oJ e;grind
  ·cases e
 ·rename_i hq;simp only[hq];refine Ac (fun j e=>?_) e
  split at e
  ·refine AN (fun e=>?_) e
   obtain⟨d,⟨h1,h2⟩,h3⟩:=Ng e;exact⟨d,h1,h2,hk _ (hd _ _ _ _ h3)⟩
  ·refine AN (fun e=>?_) e
   split at e
   ·obtain⟨h1,e⟩:=AG e;exact⟨_,⟨rfl,by simpa using h1⟩,hk _ e⟩
   ·cases e
  ·cases e
 ·cases e
def RG (ti:Types) (t:TypeId) (x:AV) (ok:Bool) (k:Out→Option γ):Option γ:=
 Cf ti t fun q=>match q.desc with
 | .map kt et=>Cf ti kt fun kk=>Cf ti et fun j=>BC (plainKey kk.desc)<| BC (I5 j)<| (match x with
  | .v (.c .nilm)=>(match ok with
   | true=>k ⟨.t [V1.Aa (AR j.desc) j.zc,.d (.bool false)],[],[]⟩
   | false=>k ⟨.v (V1.Aa (AR j.desc) j.zc),[],[]⟩)
  | _=>none)
 | _=>none
theorem WC {key:AV}{ok:Bool}(hk:∀o,k o=some r→P o) (e:RG ti t x ok k=some r):F0 ti t x key ok P:=by
 unfold RG at e;unfold F0;refine Ac (fun q e=>?_) e
 split at e
 ·rename_i hq;simp only[hq];refine Ac (fun kk e=>Ac (fun j e=>AN (AN fun e=>?_) e) e) e
  grind
 ·cases e
def DG:List Gh→St→(St→Option γ)→Option γ
 | [],σ,K=>K σ
 | x::l,σ,K=>match x with
  | .close i=>Dk (AJ σ.heap) [i] fun _ _ wr=>DG l ⟨σ.slots,Cg σ.heap wr,σ.next⟩ K
  | .treeS t ag sz=>BC (Nat.blt 0 sz)<| BC (J5 ag sz (AQ σ.slots t))<| DG l (J7 t ag sz σ) K
  | .treeC i j ag sz=>BC (Nat.blt 0 sz)<| (match AJ σ.heap i with
   | some (.cells cs)=>BC (Kv ag sz (Yi cs j))<| DG l (J8 i j ag sz σ) K
   | _=>none)
  | .freeze i=>(match AJ σ.heap i with
   | some (.tree kd ag sz rows foc)=>(match foc with
    | none=>BC (uH kd)<| DG l (TE i (.list ag sz rows) σ) K
    | some _=>none)
   | _=>none)
  | .unC i j=>(match AJ σ.heap i with
   | some (.cells cs)=>DG l ⟨σ.slots,Cq σ.heap i (.cells (JF cs j .un)),σ.next⟩ K
   | _=>none)
  | .flatten i=>(match AJ σ.heap i with
   | some (.tree kd ag sz rows foc)=>(match kd with
    | .row=>(match foc with
     | none=>DG l ⟨σ.slots,Cq σ.heap i (.tree .flat ag sz rows none),σ.next⟩ K
     | some _=>none)
    | _=>none)
   | _=>none)
  | .move i=>(match AJ σ.heap i with
   | some (.tree kd ag sz rows foc)=>(match foc with
    | none=>DG l (VT i (.tree kd ag sz rows none) σ) K
    | some _=>none)
   | _=>none)
  | .fnlS t f cs=>(match AQ σ.slots t with
   | .v (.c (.nils _ _))=>DG l (Ma t f cs σ) K
   | _=>none)
  | .cloz t=>(match AQ σ.slots t with
   | .v (.c (.fn f Cn))=>BC (nodupB Cn)<| (match Ge (AJ σ.heap) Cn with
    | some cs=>DG l ⟨(t,.v (.c (.fz f cs)))::σ.slots,Cg σ.heap (Aj Cn),σ.next⟩ K
    | none=>none)
   | _=>none)
theorem C7:∀{l:List Gh}{σ:St}{K:St→Option γ}{P:St→Prop},(∀σ,K σ=some r→P σ)→DG l σ K=some r→gh l σ P
 | [],_,_,_,hk,e=>hk _ e
 | x::l,σ,K,P,hk,e=>by
  unfold DG at e;unfold gh;split at e
  ·exact He (fun _ _ wr e=>C7 hk e) e
  ·exact AN (AN fun e=>C7 hk e) e
  ·refine AN (fun e=>?_) e
   split at e
   ·rename_i hi;simp only[hi];exact AN (fun e=>C7 hk e) e
   ·cases e
  ·split at e
   ·rename_i hi;split at e
    ·simp only[hi];exact AN (fun e=>C7 hk e) e
    ·cases e
   ·cases e
  ·split at e
   ·rename_i hi;simp only[hi];exact C7 hk e
   ·cases e
  ·split at e
   ·rename_i hi;split at e
    ·split at e
     ·simp only[hi];exact C7 hk e
     ·cases e
    ·cases e
   ·cases e
  ·split at e
   ·rename_i hi;split at e
    ·simp only[hi];exact C7 hk e
    ·cases e
   ·cases e
  ·split at e
   ·rename_i hi;simp only[hi];exact C7 hk e
   ·cases e
  ·split at e
   ·rename_i hi;obtain⟨h1,e⟩:=AG e;simp only[hi];refine AA.2 ⟨h1,?_⟩;split at e
    ·rename_i hb;simp only[hb];exact C7 hk e
    ·cases e
   ·cases e
def Tx:List FC→List Id
 | []=>[]
 | .p i::l=>i::Tx l
 | _::l=>Tx l
def rX:CV→List Id
 | .fz _ cs=>Tx cs
 | c=>AFq c
def RI:List CV→List Id
 | []=>[]
 | c::cs=>rX c++RI cs
def rY:V1→List Id
 | .d _=>[]
 | .c x=>rX x
 | .agg cs=>RI cs
def Cj:List V1→List Id
 | []=>[]
 | x::xs=>rY x++Cj xs
def ABc:AV→List Id
 | .u=>[]
 | .v x=>rY x
 | .t xs=>Cj xs
 | .df _ cs _=>Tx cs
def rZ:List (Nat×AV)→List Id
 | []=>[]
 | x::l=>ABc x.2++rZ l
def ABd:Option AD→List Id
 | some (.rnd _ sl)=>rZ sl
 | some (.cells cs)=>RI cs
 | some (.tree _ _ _ _ foc)=>(match foc with
  | some x=>RI x.2
  | none=>[])
 | some (.fnl _ cs _)=>Tx cs
 | _=>[]
def Ck (h:Heap):Nat→List Id→List Id→List Id
 | 0,_,acc=>acc
 | _+1,[],acc=>acc
 | n+1,i::t,acc=>match EW i acc with
  | true=>Ck h n t acc
  | false=>Ck h n (ABd (h i)++t) (acc++[i])
def kJ:AD→AD→Bool
 | .cells _,.cells _=>true
 | .tree ..,.tree ..=>true
 | .arr ..,.arr ..=>true
 | .map ..,.map ..=>true
 | .pmap ..,.pmap ..=>true
 | .rnd ..,.rnd ..=>true
 | .rnd ..,.rndX _=>true
 | .rndX _,.rndX _=>true
 | _,.gone=>true
 | _,_=>false
def RJ:List AD→List AD→Bool
 | [],[]=>true
 | a::al,b::bs=>match kJ a b with
  | true=>RJ al bs
  | false=>false
 | _,_=>false
theorem kK {a b:AD}(h:kJ a b=true):sameKind a b:=by
 unfold kJ at h;split at h
 ·trivial
 ·trivial
 ·trivial
 ·trivial
 ·trivial
 ·trivial
 ·trivial
 ·trivial
 ·cases a<;>trivial
 ·cases h
theorem Pv:∀{a b:List AD},RJ a b=true→Bi a b
 | [],[],_=>trivial
 | a::al,b::bs,h=>by
  unfold RJ at h;split at h
  ·rename_i hk;exact⟨kK hk,Pv h⟩
  ·cases h
 | [],_::_,h=>by cases h
 | _::_,[],h=>by cases h
abbrev ZZ (γ:Type):=FuncId→List V1→List AD→(Nat→U3→Option γ)→Option γ
abbrev sA:=FuncId→List V1→List AD→U3→Prop
def TrC (P:Program) (I:Inv):sA:=fun f args pre x=>C0 P I f args pre x.res x.post x.new
def ZZ.Om (T:sA) (call:ZZ γ):Prop:=∀f args pre k r,call f args pre k=some r→∃i res post new,T f args pre ⟨res,post,new⟩∧k i ⟨res,post,new⟩=some r
abbrev ZZ.ok (P:Program) (I:Inv) (call:ZZ γ):Prop:=call.Om (TrC P I)
def KE (call:ZZ γ) (f:FuncId) (xs:List V1) (m:List Id) (fresh:Nat) (h:Heap) (pl:Pl) (k:Pl→AV→List (Id×AD)→Option γ):Option γ:=
 match D1 h m with
 | none=>none
 | some objs=>BC (Bd (v1P (Xh m fresh)) xs)<| BC (Bd (Nb (Xh m fresh)) objs)<| BC (nodupB m)<|
   call f (xs.map (V1.A0 (kA m))) (objs.map (AD.A0 (kA m))) fun i ret=>
    BC (RJ (objs.map (AD.A0 (kA m))) ret.post)<| BC (Nat.ble ret.new.length 31)<|
     k (pl.nth i) (ret.res.A0 (BG m fresh)) (MQ m (BG m fresh) ret.post++Cl fresh (BG m fresh) 0 ret.new)
variable {call:ZZ γ}{fresh:Nat}{h:Heap}{pl:Pl}
theorem JP {T:sA}(hc:call.Om T) {f:FuncId}{xs:List V1}{m:List Id}{k:Pl→AV→List (Id×AD)→Option γ}(e:KE call f xs m fresh h pl k=some r):
  ∃(targs:List V1) (pre:List AD) (res:AV) (post new:List AD) (p:Pl),T f targs pre ⟨res,post,new⟩∧xs=targs.map (V1.A0 (BG m fresh))∧m.length=pre.length∧m.Nodup∧
   (∀(j:Nat) i o,m[j]?=some i→pre[j]?=some o→h i=some (o.A0 (BG m fresh)))∧Bi pre post∧new.length≤31∧k p (res.A0 (BG m fresh)) (MQ m (BG m fresh) post++Cl fresh (BG m fresh) 0 new)=some r:=by
 unfold KE at e;split at e
 ·cases e
 ·rename_i objs ho;obtain⟨h1,e⟩:=AG e;obtain⟨h2,e⟩:=AG e;obtain⟨h3,e⟩:=AG e;obtain⟨i,res,post,new,ht,e⟩:=hc _ _ _ _ _ e;obtain⟨h4,e⟩:=AG e;obtain⟨h5,e⟩:=AG e;obtain⟨g1,g2⟩:=Nr ho;refine⟨_,_,res,post,new,_,ht,?_,by simpa using g1,kB h3,fun j i o hm hp=>?_,Pv h4,Nat.le_of_ble_eq_true h5,e⟩
  ·rw[List.map_map];rw[BE]at h1;exact (Bz fun x hx=>VW (fun i hi=>Tm hi) (h1 x hx)).symm
  ·rw[List.getElem?_map,Option.map_eq_some_iff]at hp;obtain⟨o',ho',rfl⟩:=hp;rw[BE]at h2;rw[Mb (p:=Xh m fresh) (fun i hi=>Tm hi) (h2 o' (List.mem_of_getElem? ho'))]
   exact g2 j i o' hm ho'
def Nx:AV→Option (FuncId×List V1×List V1)
 | .v (.c (.fn n cap))=>some (n,[],cap.map fun i=>V1.c (.ptr i 0))
 | .v (.c (.bm n i))=>some (n,[V1.c (.ptr i 0)],[])
 | .v (.c (.fz n cs))=>some (n,[],cs.map YF)
 | _=>none
def sC (w:Bool) (l:List AV):Option (List V1):=match w with
 | true=>It l
 | false=>G5 l
def LH:List CV→List CV→Option γ→Option γ
 | [],[],k=>k
 | a::l,b::m,k=>(match a,b with
  | .d (.int q z),.d (.int q' z')=>BC (decide (q=q')) (Be (z'=z) (LH l m k))
  | .ow i,.ow j=>BC (Id.beq i j) (LH l m k)
  | a,b=>BC (oP a b) (LH l m k))
 | _,_,_=>none
theorem Ie:∀{a b:List CV}{k:Option γ},LH a b k=some r→a=b∧k=some r
 | [],[],_,e=>⟨rfl,e⟩
 | a::l,b::m,k,e=>by
  unfold LH at e;split at e
  ·obtain⟨h1,e⟩:=AG e;obtain⟨h2,e⟩:=Bv e;obtain⟨h3,e⟩:=Ie e;simp_all
  ·obtain⟨h1,e⟩:=AG e;obtain⟨h3,e⟩:=Ie e;rw[Id.beq_iff.1 h1,h3];exact⟨rfl,e⟩
  ·obtain⟨h1,e⟩:=AG e;obtain⟨h3,e⟩:=Ie e;rw[Xj h1,h3];exact⟨rfl,e⟩
 | [],_::_,_,e=>by cases e
 | _::_,[],_,e=>by cases e
def Ig (h:Heap) (ids vs rd:List Id):List (Id×AD)→(List (Id×AD)→Option γ)→Option γ
 | [],K=>K []
 | x::l,K=>(match EW x.1 ids with
  | true=>(match EW x.1 rd with
   | true=>(match h x.1,x.2 with
    | some (.cells a),.cells b=>BC (To a b) (Ig h ids vs rd l K)
    | _,_=>none)
   | false=>none)
  | false=>(match EW x.1 vs with
   | true=>(match EW x.1 rd with
    | true=>(match h x.1,x.2 with
     | some (.cells a),.cells b=>LH a b (Ig h ids vs rd l K)
     | _,_=>none)
    | false=>none)
   | false=>Ig h ids vs rd l fun wr=>K (x::wr)))
theorem Tz (i:Id) (b:List Id):∀a:List Id,EW i (a++b)=(match EW i a with
  | true=>true
  | false=>EW i b)
 | []=>rfl
 | j::a=>by
  show (match Id.beq i j with | true=>true | false=>EW i (a++b))=(match (match Id.beq i j with | true=>true | false=>EW i a)with | true=>true | false=>EW i b)
  cases Id.beq i j with
  | true=>rfl
  | false=>exact Tz i b a
theorem Gl {h:Heap}{ids vs rd:List Id}:∀{wr:List (Id×AD)}{K:List (Id×AD)→Option γ}{A:List (Id×AD)→Prop},(∀w,K w=some r→A w)→Ig h ids vs rd wr K=some r→NI h (ids++vs) rd wr A
 | [],_,_,hk,e=>hk _ e
 | x::l,K,A,hk,e=>by
  obtain⟨i,o⟩:=x;unfold Ig at e;unfold NI;simp only[Tz]at e ⊢;cases h1:EW i ids with
  | true=>
   simp only[h1]at e ⊢;cases h2:EW i rd with
   | false=>simp_all
   | true=>
    simp only[h2]at e ⊢;split at e
    ·rename_i hb;obtain⟨h3,e⟩:=AG e;exact⟨by rw[hb,Tp h3],Gl hk e⟩
    ·cases e
  | false=>
   simp only[h1]at e ⊢;cases h4:EW i vs with
   | true=>
    simp only[h4]at e ⊢;cases h2:EW i rd with
    | false=>simp_all
    | true=>
     simp only[h2]at e ⊢;split at e
     ·rename_i hb;obtain⟨h3,e⟩:=Ie e;exact⟨by rw[hb,h3],Gl hk e⟩
     ·cases e
   | false=>
    simp only[h4]at e ⊢;exact Gl (fun w hw=>hk _ hw) e
def Mh (call:ZZ γ) (ti:Types) (c:Call) (f:Operand) (w:Bool) (kl:List (Nat×Nat)) (fresh:Nat) (s:AL) (h:Heap) (pl:Pl) (k:Pl→Out→Option γ):Option γ:=
 match Nx (AX ti s 0 f)with
 | some (n,xs1,bs)=>(match sC w (Bn ti s c.args.toList c.argTypes.toList)with
  | some xs=>KE call n (xs1++(xs++bs)) (Ck h 100 (Cj (xs1++(xs++bs))) []) fresh h pl fun p v wr=>
    Ig h (Hb h (Ck h 100 (Cj (xs1++(xs++bs))) [])) (kl.map fun x=>.ext x.1) (Ck h 100 (Cj (xs1++(xs++bs))) []) wr fun wr=>k p ⟨v,Ck h 100 (Cj (xs1++(xs++bs))) [],wr⟩
  | none=>none)
 | none=>none
theorem UA {f:AV}{args:List AV}{K:Out→Prop}{n:FuncId}{xs1 bs:List V1}{w:Bool}{xs:List V1}(h1:Nx f=some (n,xs1,bs)) (h2:sC w args=some xs) (h3:Jn M.P M.I n (xs1++(xs++bs)) fresh h K):HG M f args fresh h K:=by
 have hb:∀K:List V1→Prop,K xs→Fw args K:=fun K hk=>by
  cases w with
  | true=>exact⟨false,by show (match It args with | some xs=>K xs | none=>False);rw[show It args=some xs from h2];exact hk⟩
  | false=>exact⟨true,by show withArgs args K;unfold withArgs;rw[show G5 args=some xs from h2];exact hk⟩
 unfold Nx at h1;unfold HG;split at h1
 ·cases h1;exact hb _ ((M.lock_iff _).2 h3)
 ·cases h1;rw[List.append_nil]at h3;exact hb _ ((M.lock_iff _).2 h3)
 ·cases h1;exact hb _ ((M.lock_iff _).2 h3)
 ·cases h1
theorem Ny (hc:call.ok M.P M.I) {o:Oper}{c:Call}{f:Operand}(ho:o.op= .call c) (hf:c.callee= .value f) {w:Bool}{kl:List (Nat×Nat)}{s:AL}{k:Pl→Out→Option γ}(hk:∀p o,k p o=some r→P o)
  (e:Mh call ti c f w kl fresh s h pl k=some r):Dg M ti o fresh s h P:=by
 unfold Mh at e;split at e
 ·rename_i n xs1 bs h1;split at e
  ·rename_i xs h2;generalize Ck h 100 (Cj (xs1++(xs++bs))) []=m at e;obtain⟨targs,pre,res,post,new,p,g1,g2,g3,g4,g5,g6,g7,e⟩:=JP hc e;unfold Dg;rw[ho];simp only[];rw[hf];refine .inr (.inr ⟨Hb h m++kl.map fun x=>.ext x.1,?_⟩)
   unfold Ag;rw[ho];simp only[];rw[hf];exact UA h1 h2 ⟨m,targs,pre,res,post,new,g1,g2,g3,g4,g5,g6,g7,Gl (fun wr hw=>hk _ _ hw) e⟩
  ·cases e
 ·cases e
def RL (call:ZZ γ) (ti:Types) (o:Oper) (c:Call) (f:Operand) (gs:List Gh) (fresh:Nat) (σ:St) (pl:Pl) (K:Pl→St→Option γ):Option γ:=
 DG gs ⟨σ.slots,σ.heap,fresh⟩ fun σ'=>BC (Nat.beq σ'.next fresh)<| (match AX ti (AQ σ'.slots) 0 f with
  | .v (.c (.fn n cap))=>(match G5 (Bn ti (AQ σ'.slots) c.args.toList c.argTypes.toList)with
   | some xs=>KE call n (xs++cap.map fun i=>V1.c (.ptr i 0)) (Ck (AJ σ'.heap) 100 (Cj (xs++cap.map fun i=>V1.c (.ptr i 0))) []) fresh (AJ σ'.heap) pl fun p v wr=>K p ⟨Cr σ'.slots o.dst v,Cg σ'.heap wr,σ'.next⟩
   | none=>none)
  | _=>none)
theorem WD (hc:call.ok M.P M.I) {o:Oper}{c:Call}{f:Operand}(ho:o.op= .call c) (hf:c.callee= .value f) {gs:List Gh}{σ:St}{K:Pl→St→Option γ}{P:St→Prop}(hk:∀p o,K p o=some r→P o)
  (e:RL call ti o c f gs fresh σ pl K=some r):PV M ti o fresh σ P:=by
 unfold RL at e;unfold PV;rw[ho];simp only[];rw[hf];simp only[];obtain⟨σ',hw,e⟩:=B9 (C7 (P:=fun σ'=>_=some r) (fun σ h=>h) e)
 obtain⟨h1,e⟩:=AG e;refine⟨σ',hw,Nat.eq_of_beq_eq_true h1,?_⟩;split at e
 ·rename_i n cap h2;rw[h2];simp only[];unfold withArgs;split at e
  ·rename_i xs h3;rw[h3];obtain⟨targs,pre,res,post,new,p,g1,g2,g3,g4,g5,g6,g7,e⟩:=JP hc e;refine⟨_,targs,pre,fun a b c=>a=res∧b=post∧c=new,g1,g2,g3,g4,g5,?_⟩
   grind
  ·cases e
 ·cases e
end
end
end Go.AM
namespace Go.AM
open Go Go.RowKit
section
variable {γ:Type}{r:γ}
def RM:List FC→List FC
 | []=>[]
 | .d _::l=>.h::RM l
 | c::l=>c::RM l
def RN:List FC→List D
 | []=>[]
 | .d x::l=>x::RN l
 | _::l=>RN l
def noH:List FC→Bool
 | []=>true
 | .h::_=>false
 | _::l=>noH l
theorem Mi:∀{l:List FC},noH l=true→fill (RM l) (RN l)=l
 | [],_=>rfl
 | .d x::l,h=>by show FC.d x::fill (RM l) (RN l)=_;rw[Mi (l:=l) h]
 | .p i::l,h=>by show FC.p i::fill (RM l) (RN l)=_;rw[Mi (l:=l) h]
 | .h::_,h=>by cases h
def kL:List D→D
 | [x]=>x
 | ds=>.agg ds
def WE:List D→Bool
 | [x]=>DC x.isAgg
 | _=>true
theorem Lz:∀{ds:List D},WE ds=true→(kL ds).cells=ds
 | [],_=>rfl
 | [x],h=>by cases x<;>first | rfl | cases h
 | _::_::_,_=>rfl
def ABe:FC→FC→Bool
 | .p i,.p j=>Id.beq i j
 | .h,.h=>true
 | _,_=>false
def L1:List FC→List FC→Bool
 | [],[]=>true
 | a::l,b::m=>(match ABe a b with
  | true=>L1 l m
  | false=>false)
 | _,_=>false
theorem Hh:∀{l m:List FC},L1 l m=true→l=m
 | [],[],_=>rfl
 | a::l,b::m,h=>by
  unfold L1 at h;split at h
  ·rename_i hb;rw[Hh h];unfold ABe at hb;split at hb
   ·rw[Id.beq_iff.1 hb]
   ·rfl
   ·cases hb
  ·cases h
 | [],_::_,h=>by cases h
 | _::_,[],h=>by cases h
def ABf (f:Nat):TypeId:=100000+f
def kM (x:AV) (h:Heap) (K:Id→Nat→List FC→List D→Option γ):Option γ:=
 match x with
 | .v (.c (.ow id))=>(match h id with
  | some (.fnl f cs rows)=>K id f cs rows
  | _=>none)
 | _=>none
section
variable {x:AV}{h:Heap}
theorem RQ {K:Id→Nat→List FC→List D→Option γ}{P:Id→Nat→List FC→List D→Prop}(hk:∀a b c d,K a b c d=some r→P a b c d) (e:kM x h K=some r):withFn x h P:=by
 unfold kM at e;unfold withFn;grind
def RR (ds:Ds γ) (ti:Types) (t:TypeId) (x:AV) (h:Heap) (k:Out→Option γ):Option γ:=
 Cf ti t fun i=>match x with
 | .v (.c (.op id sz kk o))=>(match h id with
  | some (.fnl f cs rows)=>BC (Nat.beq sz 1)<| BC (Nat.beq o 0)<| BC (Nat.beq i.size 1)<| BC (AR i.desc==false)<| DV rows kk fun d=>ds (ABf f) d fun d=>k ⟨.v (.c (.fz f (fill cs d.cells))),[id],[]⟩
  | _=>none)
 | _=>none
variable {P:Out→Prop}{ti:Types}{t:TypeId}{k:Out→Option γ}
theorem WG {ds:Ds γ}(hd:ds.ok) (hk:∀o,k o=some r→P o) (e:RR ds ti t x h k=some r):HQ ti t x h P:=by
 unfold RR at e;unfold HQ;refine Ac (fun i e=>?_) e
 split at e
 ·split at e
  ·rename_i hi;simp only[hi];refine AN (AN (AN (AN fun e=>?_))) e
   obtain⟨d,h1,e⟩:=E7 e;exact⟨d,h1,hk _ (hd _ _ _ _ e)⟩
  ·cases e
 ·cases e
def Nz (ti:Types) (t:TypeId) (x i:AV) (h:Heap) (k:Out→Option γ):Option γ:=
 Oj i fun n=>Cf ti t fun q=>match q.desc with
 | .slice e=>Cf ti e fun j=>kM x h fun id _ _ rows=>BC (Nat.beq j.size 1)<| Be (0≤n∧n.toNat<rows.length) (k ⟨.v (.c (.op id 1 n.toNat 0)),[id],[]⟩)
 | _=>none
variable {M:Aw}
theorem UB {i:AV}(hk:∀o,k o=some r→P o) (e:Nz ti t x i h k=some r):GA M ti t x i h P:=by
 unfold Nz at e;unfold GA;refine Gj (fun _ n e=>Ac (fun q e=>?_) e) e
 split at e
 ·rename_i hq;simp only[hq];refine Ac (fun j e=>RQ (fun id _ _ rows e=>AN (fun e=>?_) e) e) e
  obtain⟨h1,e⟩:=Bv e;exact⟨(M.lock_iff _).2 h1,hk _ e⟩
 ·cases e
def WH (ti:Types) (t:TypeId) (x:AV) (h:Heap) (k:Out→Option γ):Option γ:=
 Cf ti t fun q=>match q.desc with
 | .slice _=>kM x h fun id _ _ rows=>AO rows fun z=>k ⟨.v (.d (.int .i64 z)),[id],[]⟩
 | _=>none
theorem Y4 (hk:∀o,k o=some r→P o) (e:WH ti t x h k=some r):Jy M ti t x h P:=by
 unfold WH at e;unfold Jy;refine Ac (fun q e=>?_) e
 split at e
 ·rename_i hq;simp only[hq];exact RQ (fun id _ _ rows e=>(HV M e).imp fun z h=>⟨h.1,hk _ h.2⟩) e
 ·cases e
def WI (x:AV) (h:Heap) (f:Nat) (cs:List FC) (K:List Id→List D→Option γ):Option γ:=
 match x with
 | .v (.c (.nils _ _))=>K [] []
 | .v (.c (.ow i))=>(match h i with
  | some (.fnl f' cs' rows)=>BC (Nat.beq f' f)<| BC (L1 cs' cs)<| K [i] rows
  | _=>none)
 | _=>none
theorem Y5 {f:Nat}{cs:List FC}{K:List Id→List D→Option γ}{P:List Id→List D→Prop}(hk:∀a b,K a b=some r→P a b) (e:WI x h f cs K=some r):Z2 x h f cs P:=by
 unfold WI at e;unfold Z2;split at e
 ·exact hk _ _ e
 ·split at e
  ·rename_i hi;obtain⟨h1,e⟩:=AG e;obtain⟨h2,e⟩:=AG e;simp only[hi];exact⟨Nat.eq_of_beq_eq_true h1,Hh h2,hk _ _ e⟩
  ·cases e
 ·cases e
def LI (ti:Types) (t:TypeId) (x y:AV) (fresh:Nat) (h:Heap) (k:Out→Option γ):Option γ:=
 Cf ti t fun q=>match q.desc with
 | .slice e=>Cf ti e fun j=>BC (Nat.beq j.size 1)<| kM y h fun id f cs ys=>WI x h f cs fun ids rows=>BC (nodupB (id::ids))<|
   Bw j.bytes rows ys fun out=>k ⟨.v (.c (.ow (.loc fresh))),id::ids,Aj (id::ids)++[(.loc fresh,.fnl f cs out)]⟩
 | _=>none
theorem RT {y:AV}{fresh:Nat}(hk:∀o,k o=some r→P o) (e:LI ti t x y fresh h k=some r):E3 M ti t x y fresh h P:=by
 unfold LI at e;unfold E3;refine Ac (fun q e=>?_) e
 split at e
 ·rename_i hq;simp only[hq];refine Ac (fun j e=>AN (fun e=>RQ (fun id f cs ys e=>Y5 (fun ids rows e=>AN (fun e=>?_) e) e) e) e) e
  obtain⟨out,h1,h2,e⟩:=HW e;exact⟨(M.lock_iff _).2 h1,out,h2,hk _ e⟩
 ·cases e
def Xm (f:Nat) (cs:List FC):List CV→(List D→Option γ)→Option γ
 | [],k=>k []
 | c::l,k=>match c with
  | .fz g ps=>BC (Nat.beq g f)<| BC (L1 (RM ps) cs)<| BC (noH ps)<| BC (WE (RN ps))<| Xm f cs l fun rows=>k (kL (RN ps)::rows)
  | _=>none
theorem UC {f:Nat}{cs:List FC}:∀{l:List CV}{k:List D→Option γ},Xm f cs l k=some r→∃rows:List D,l=rows.map (fun r:D=>CV.fz f (fill cs r.cells))∧k rows=some r
 | [],_,e=>⟨[],rfl,e⟩
 | c::l,k,e=>by
  unfold Xm at e;split at e
  ·rename_i g ps;obtain⟨h1,e⟩:=AG e;obtain⟨h2,e⟩:=AG e;obtain⟨h3,e⟩:=AG e;obtain⟨h4,e⟩:=AG e;obtain⟨rows,hr,e⟩:=UC e;refine⟨_,?_,e⟩;rw[List.map_cons,hr,Lz h4,←Hh h2,Mi h3,Nat.eq_of_beq_eq_true h1]
  ·cases e
def Fi (ti:Types) (s:AL) (t:TypeId) (len:Nat) (parts:List (Nat×Operand)) (fresh:Nat) (k:Out→Option γ):Option γ:=
 Cf ti t fun q=>match q.desc with
 | .slice e=>Cf ti e fun j=>BC (Nat.ble (len*j.size) 16777216)<| BC (Nat.beq parts.length len)<| BC (Nat.blt 0 j.size)<| GH ti s e j.size 0 parts fun xs=>
   BC (Nat.ble len maxLen)<| BC (Nat.beq j.size 1)<| (match xs with
   | .fz f ps::l=>Xm f (RM ps) (.fz f ps::l) fun rows=>k ⟨.v (.c (.ow (.loc fresh))),[],[(.loc fresh,.fnl f (RM ps) rows)]⟩
   | _=>none)
 | _=>none
theorem LJ {s:AL}{len:Nat}{parts:List (Nat×Operand)}{fresh:Nat}(hk:∀o,k o=some r→P o) (e:Fi ti s t len parts fresh k=some r):De ti s t len parts fresh P:=by
 unfold Fi at e;unfold De;refine Ac (fun q e=>?_) e
 split at e
 ·rename_i hq;simp only[hq];refine Ac (fun j e=>AN (AN (AN fun e=>FQ (fun xs e=>?_) e)) e) e
  refine AN (AN fun e=>?_) e
  split at e
  ·obtain⟨rows,hr,e⟩:=UC e;grind
  ·cases e
 ·cases e
def N0 (ti:Types) (t:TypeId) (x i:AV) (k:Out→Option γ):Option γ:=
 Oj i fun n=>Cf ti t fun q=>match q.desc with
 | .array len e=>Cf ti e fun j=>(match x with
  | .v (.c (.ptr id o))=>Be (0≤n∧n<len) (k ⟨.v (.c (.ap id o j.size n.toNat 0)),[],[]⟩)
  | _=>none)
 | _=>none
theorem UD {i:AV}(hk:∀o,k o=some r→P o) (e:N0 ti t x i k=some r):Eu ti t x i P:=by
 unfold N0 at e;unfold Eu;refine Gj (fun _ n e=>Ac (fun q e=>?_) e) e
 split at e
 ·rename_i hq;simp only[hq];refine Ac (fun j e=>?_) e
  split at e
  ·obtain⟨h1,e⟩:=Bv e;simp_all
  ·cases e
 ·cases e
def FE:List Nat→Nat→Bool
 | [],_=>false
 | a::l,k=>match Nat.beq k a with
  | true=>true
  | false=>FE l k
theorem Xn:∀{l:List Nat}{k:Nat},FE l k=true→k∈l
 | a::l,k,h=>by
  unfold FE at h;split at h
  ·simp_all
  ·exact List.mem_cons_of_mem _ (Xn h)
def sD (f j:Nat):List (Nat×List Nat)→List (Nat×List Nat)
 | []=>[(f,[j])]
 | (g,l)::r=>match Nat.beq f g with
  | true=>(g,l++[j])::r
  | false=>(g,l)::sD f j r
def kN:Nat→List CV→List (Nat×List Nat)→List (Nat×List Nat)
 | _,[],a=>a
 | j,c::cs,a=>match c with
  | .fn f _=>kN (j+1) cs (sD f j a)
  | _=>kN (j+1) cs a
def kO (f:Nat) (cs:List CV) (j:Nat):Bool:=
 match cs[j]? with
 | some c=>(match c with
  | .fn g l=>(match l with
   | []=>Nat.beq g f
   | _::_=>false)
  | _=>false)
 | none=>false
theorem kP {f:Nat}{cs:List CV}{j:Nat}(h:kO f cs j=true):cs[j]?=some (.fn f []):=by
 unfold kO at h;split at h
 ·rename_i c hc;split at h
  ·split at h
   ·simp_all
   ·cases h
  ·cases h
 ·cases h
def RU (cs:List CV) (kk:Nat):List (Nat×List Nat)→Pl→(Pl→CV→Option γ)→Option γ
 | [],_,_=>none
 | (f,l)::t,pl,K=>BC (Bd (kO f cs) l)<| if FE l kk=true then K (pl.at true) (.fn f [])else RU cs kk t (pl.at false) K
theorem Pw {cs:List CV}{kk:Nat}:∀{l:List (Nat×List Nat)}{pl:Pl}{K:Pl→CV→Option γ},RU cs kk l pl K=some r→∃p c,cs[kk]?=some c∧K p c=some r
 | [],_,_,e=>by cases e
 | (f,l)::t,pl,K,e=>by
  unfold RU at e;obtain⟨h1,e⟩:=AG e;split at e
  ·rename_i hm;exact⟨_,_,kP (BE.1 h1 _ (Xn hm)),e⟩
  ·exact Pw e
def ABg:AV→Bool
 | .v (.c (.ap _ _ _ _ _))=>true
 | _=>false
def RV (ds:Ds γ) (ti:Types) (t:TypeId) (x:AV) (h:Heap) (pl:Pl) (k:Pl→Out→Option γ):Option γ:=
 Cf ti t fun i=>match x with
 | .v (.c (.ap id base sz kk o))=>(match h id with
  | some (.cells cs)=>(match Ki (cs.drop base)with
   | some l=>DV (rowsOf true sz (l.length / sz) l) kk fun d=>ds t d fun d=>BC (Nat.ble (o+i.size) d.cells.length) (k pl ⟨.v (V1.Aa (AR i.desc) (((d.cells.drop o).take i.size).map CV.d)),[id],[]⟩)
   | none=>BC (Nat.beq i.size 1)<| BC (Nat.beq sz 1)<| BC (Nat.beq base 0)<| BC (Nat.beq o 0)<| RU cs kk (kN 0 cs []) pl fun p c=>k p ⟨.v (V1.Aa (AR i.desc) [c]),[id],[]⟩)
  | _=>none)
 | _=>none
theorem WJ {ds:Ds γ}(hd:ds.ok) {pl:Pl}{k:Pl→Out→Option γ}(hk:∀p o,k p o=some r→P o) (e:RV ds ti t x h pl k=some r):D7 ti t x h P:=by
 unfold RV at e;unfold D7;refine Ac (fun i e=>?_) e
 split at e
 ·split at e
  ·rename_i hi;simp only[hi];split at e
   ·rename_i hl;simp only[hl];obtain⟨d,h1,e⟩:=E7 e;obtain⟨h2,e⟩:=AG (hd _ _ _ _ e);exact⟨_,d,Nat.ble_eq_true_of_le (Nat.div_mul_le_self _ _),h1,AA.2 ⟨h2,hk _ _ e⟩⟩
   ·rename_i hl;simp only[hl];obtain⟨h1,e⟩:=AG e;obtain⟨h2,e⟩:=AG e;obtain⟨h3,e⟩:=AG e;obtain⟨h4,e⟩:=AG e;obtain⟨p,c,hc,e⟩:=Pw e;refine AA.2 ⟨h1,AA.2 ⟨h2,c,?_,hk _ _ e⟩⟩;simp_all
  ·cases e
 ·cases e
end
end
end Go.AM
namespace Go.AM
open Go Go.RowKit
section
variable {γ:Type}{r:γ}
def Sok (P:Program) (ti:Types) (sok:TypeId→Bool):Prop:=∀t i fs,sok t=true→ti t=some i→i.desc= .struct fs→Zs P t fs.toList
structure EnvO (γ:Type) where
 ds:Ds γ
 el:rU
 own:Bool
 sok:TypeId→Bool
 call:ZZ γ
 /-- Are lists that begin frozen? -/
 frz:Bool:=false
 /-- Are literal lists frozen, though others are its own? -/
 nolit:Bool:=false
 /-- Does it defer closures? -/
 cl:Bool:=false
structure EnvO.ok (P:Program) (I:Inv) (ti:Types) (E:EnvO γ):Prop where
 ds:E.ds.ok
 sok:Sok P ti E.sok
 call:E.call.ok P I
def uS (x:AV) (h:Heap):Option Id:=
 match x with
 | .v (.c (.op i _ _ _))=>(match h i with
  | some (.tree _ _ _ _ foc)=>(match foc with
   | some _=>some i
   | none=>none)
  | _=>none)
 | _=>none
def oT (x:AV) (h:Heap) (pl:Pl):List Id×Pl:=
 match uS x h with
 | some i=>(match pl.take.w with
  | true=>(Mg h 9 i,pl.take.r)
  | false=>([],pl.take.r))
 | none=>([],pl)
def kQ (h:Heap):AV→List Id
 | .v (.c (.ow i))=>Mg h 9 i
 | .v (.c (.sl j _))=>(match h j with
  | some (.cells cs)=>Xk (Mg h 9) cs
  | _=>[])
 | _=>[]
def sG:AV→Bool
 | .v (.c (.sl _ _))=>true
 | _=>false
def oU:CV→Bool
 | .nils _ _=>true
 | _=>false
def oV (own:Bool) (ti:Types) (t:TypeId) (x y:AV) (h:Heap):Option Bool:=
 match Kn x h with
 | true=>some false
 | false=>(match ti t with
  | some q=>(match q.desc with
   | .slice e=>(match ti e with
    | some j=>(match Z8 oU j.zc with
     | true=>(match Li x with
      | true=>(match Li y || sG y with
       | true=>some true
       | false=>some false)
      | false=>(match JA x with
       | true=>(match sG y with
        | true=>some true
        | false=>(match Li y with
         | true=>some true
         | false=>(match own with
          | true=>some false
          | false=>none)))
       | false=>none))
     | false=>(match Li x || Li y with
      | true=>some true
      | false=>(match JA x with
       | true=>(match own with
        | true=>some true
        | false=>none)
       | false=>none)))
    | none=>none)
   | _=>none)
  | none=>none)
def Xo (ti:Types) (s:AL) (e:TypeId):List (Nat×Operand)→Bool
 | []=>true
 | (_,x)::l=>(match AX ti s e x with
  | .v y=>(match y.norm with
   | .d _=>Xo ti s e l
   | _=>false)
  | _=>false)
def kR (ti:Types) (s:AL) (e:TypeId):List (Nat×Operand)→Bool
 | []=>false
 | (_,x)::l=>(match qX (AX ti s e x)with
  | true=>true
  | false=>kR ti s e l)
def sH (ti:Types) (t:TypeId):TypeId:=
 match ti t with
 | some q=>(match q.desc with
  | .slice e=>e
  | _=>0)
 | none=>0
def LK (ti:Types) (t:TypeId) (x y:AV) (k:Out→Option γ):Option γ:=
 Cf ti t fun q=>match q.desc with
 | .slice e=>Cf ti e fun j=>BC (Nat.blt 0 j.size)<| uO y fun ag sz ys=>BC (AR j.desc==ag)<| BC (Nat.beq sz j.size)<|
  (match x with
  | .v (.c (.nils _ _))=>Bw j.bytes [] ys fun out=>k ⟨.v (.d (.list (AR j.desc) j.size out)),[],[]⟩
  | .v (.c (.tl ag' sz' rows))=>BC (AR j.desc==ag')<| BC (Nat.beq sz' j.size)<| Bw j.bytes rows ys fun out=>k ⟨.v (.d (.list (AR j.desc) j.size out)),[],[]⟩
  | _=>none)
 | _=>none
theorem RX {M:Aw}{ti:Types}{t:TypeId}{x y:AV}{fresh:Nat}{h:Heap}{k:Out→Option γ}{P:Out→Prop}(hk:∀o,k o=some r→P o) (e:LK ti t x y k=some r):Fx M ti t x y fresh h P:=by
 unfold LK at e;unfold Fx;refine Ac (fun q e=>?_) e
 split at e
 ·rename_i hq;simp only[hq];refine Ac (fun j e=>AN (fun e=>Nl (fun ag sz ys e=>AN (AN fun e=>?_) e) e) e) e
  split at e
  ·obtain⟨out,h1,h2,e⟩:=HW e;exact⟨(M.lock_iff _).2 h1,out,h2,false,hk _ e⟩
  ·refine AN (AN fun e=>?_) e
   obtain⟨out,h1,h2,e⟩:=HW e;exact⟨(M.lock_iff _).2 h1,out,h2,false,hk _ e⟩
  ·cases e
 ·cases e
def uT (ti:Types) (t:TypeId):Bool:=
 match ti t with
 | some q=>(match q.desc with
  | .array _ _=>true
  | _=>false)
 | none=>false
def Iu (E:EnvO γ) (ti:Types) (o:Oper) (fresh:Nat) (s:AL) (h:Heap) (pl:Pl) (k:Pl→Out→Option γ):Option γ:=
 match o.op with
 | .load t x=>(match QS (AX ti s 0 x)with
  | true=>(match Kn (AX ti s 0 x) h with
   | true=>Tv E.ds E.el ti t (AX ti s 0 x) h (k pl)
   | false=>(match Lh (AX ti s 0 x) h with
    | true=>RR E.ds ti t (AX ti s 0 x) h (k pl)
    | false=>KC h (oT (AX ti s 0 x) h pl).1 (fun h' k'=>Q4 E.ds E.el ti t (AX ti s 0 x) fresh h' pl (fun _=>k')) (k (oT (AX ti s 0 x) h pl).2)))
  | false=>BC (DC (Sm (AX ti s 0 x) h))<| (match ABg (AX ti s 0 x)with
   | true=>RV E.ds ti t (AX ti s 0 x) h pl k
   | false=>Qs ti t (AX ti s 0 x) h (k pl)))
 | .store t x y=>(match QS (AX ti s 0 x)with
  | true=>(match Kn (AX ti s 0 x) h with
   | true=>Pt E.ds E.el ti t (AX ti s 0 x) (AX ti s t y) h (k pl)
   | false=>KC h (oT (AX ti s 0 x) h pl).1 (fun h' k'=>Nu E.ds E.el ti t (AX ti s 0 x) (AX ti s t y) fresh h' pl (fun _=>k')) (k (oT (AX ti s 0 x) h pl).2))
  | false=>BC (DC (Sm (AX ti s 0 x) h))<| Qt ti t (AX ti s 0 x) (AX ti s t y) h (k pl))
 | .fieldAddr t x f=>(match QS (AX ti s 0 x)with
  | true=>(match Kn (AX ti s 0 x) h with
   | true=>LC ti t (AX ti s 0 x) f h (k pl)
   | false=>Nv ti t (AX ti s 0 x) f h (k pl))
  | false=>Qu ti t (AX ti s 0 x) f (k pl))
 | .indexAddr t x i=>(match QS (AX ti s t x)with
  | true=>(match Kn (AX ti s t x) h with
   | true=>LF ti t (AX ti s t x) (AX ti s 3 i) h (k pl)
   | false=>(match Lh (AX ti s t x) h with
    | true=>Nz ti t (AX ti s t x) (AX ti s 3 i) h (k pl)
    | false=>Nw ti t (AX ti s t x) (AX ti s 3 i) h (k pl)))
  | false=>(match pl.take.w&&uT ti t with
   | true=>N0 ti t (AX ti s t x) (AX ti s 3 i) (k pl.take.r)
   | false=>Qv E.ds ti t (AX ti s t x) (AX ti s 3 i) (k pl)))
 | .nilCheck x=>BC (DC (QS (AX ti s 0 x)))<| (match AX ti s 0 x with
  | .v (.c (.ptr i q))=>k pl ⟨.v (.c (.ptr i q)),[],[]⟩
  | _=>none)
 | .buildSlice t len parts=>(match qS ti s parts.toList with
  | true=>Fi ti s t len parts.toList fresh (k pl)
  | false=>(match Xo ti s (sH ti t) parts.toList with
  | true=>(match (E.own&&DC E.nolit)&&DC (kR ti s (sH ti t) parts.toList)with
   | true=>Fg ti s t len parts.toList fresh h (k pl)
   | false=>Gk ti s t len parts.toList (k pl))
  | false=>Fh ti s t len parts.toList fresh (k pl)))
 | .slice t x lo hi mx=>BC (DC (QS (AX ti s t x)))<| RE ti s t (AX ti s t x) lo hi mx (k pl)
 | .makeSlice t x y=>V9 E.own ti t (AX ti s 3 x) (AX ti s 3 y) fresh (k pl)
 | .lookup t x y ok=>(match QS (AX ti s t x)with
  | true=>BC (DC (Zz (AX ti s t x) h))<| LG E.ds ti t (AX ti s t x) (AX ti s 0 y) ok h pl k
  | false=>BC (DC (AAd (AX ti s t x)))<| RG ti t (AX ti s t x) ok (k pl))
 | .mapUpdate t x y z=>BC (DC (Zz (AX ti s t x) h))<| Ic ti t (AX ti s t x) (AX ti s 0 y) (AX ti s 0 z) h (k pl)
 | .insert t x y z=>Ic ti t (AX ti s t x) (AX ti s 0 y) (AX ti s 0 z) h (k pl)
 | .makeMap t rm=>(match rm with
  | none=>(match Z1 ti t with
   | true=>none
   | false=>(match PT ti t with
    | true=>none
    | false=>Pu ti t fresh (k pl)))
  | some _=>none)
 | .binOp op t x y _=>(match Zt (AX ti s t x)with
  | true=>none
  | false=>(match QS (AX ti s t x)with
   | true=>none
   | false=>Vz ti op t (AX ti s t x) (AX ti s t y) pl k))
 | .convert a b x=>(match Zu (AX ti s a x)with
  | true=>K6 ti a b (AX ti s a x) (k pl)
  | false=>none)
 | .pick c a b=>zO (AX ti s 0 c) fun q=>if q=true then k (pl.at true) ⟨AX ti s o.type a,[],[]⟩else k (pl.at false) ⟨AX ti s o.type b,[],[]⟩
 | .index t x i=>kH E.ds ti t (AX ti s t x) (AX ti s 3 i) (k pl)
 | .move x=>k pl ⟨AX ti s o.type x,[],[]⟩
 | .assign x=>k pl ⟨AX ti s o.type x,[],[]⟩
 | .alloc t=>Cf ti t fun i=>k pl ⟨ptrTo fresh,[],[(.loc fresh,.cells i.zc)]⟩
 | .box t x=>(match AX ti s t x with
  | .v y=>k pl ⟨ptrTo fresh,[],[(.loc fresh,.cells y.cells)]⟩
  | _=>none)
 | .unOp op _ x=>uQ op (AX ti s o.type x) (k pl)
 | .makeFunc fn first captured=>(match fn,first.toList with
  | .func f,[]=>(match Cn (captured.toList.map (AX ti s 0))with
   | some l=>k pl ⟨.v (.c (.fn f l)),[],[]⟩
   | none=>none)
  | .func f,[x]=>(match captured.toList,AX ti s 0 x with
   | [],.v (.c (.ptr i 0))=>k pl ⟨.v (.c (.bm f i)),[],[]⟩
   | _,_=>none)
  | _,_=>none)
 | .build t parts=>Qx ti s t parts.toList (k pl)
 | .field t x f=>Np ti t (AX ti s t x) f (k pl)
 | .extract x i=>K5 (AX ti s 0 x) i (k pl)
 | .call c=>(match c.callee with
  | .builtin .len=>(match c.args.toList,c.argTypes.toList with
   | [x],[t]=>(match QS (AX ti s t x)with
    | true=>(match Kn (AX ti s t x) h with
     | true=>RB ti t (AX ti s t x) h (k pl)
     | false=>(match Lh (AX ti s t x) h with
      | true=>WH ti t (AX ti s t x) h (k pl)
      | false=>V3 ti t (AX ti s t x) h (k pl)))
    | false=>jY ti t (AX ti s t x) (k pl))
   | _,_=>none)
  | .builtin .append=>(match c.args.toList,c.argTypes.toList with
   | [x,y],[t,t']=>BC (Nat.beq t t')<| (match Lh (AX ti s t' y) h with
    | true=>LI ti t (AX ti s t x) (AX ti s t y) fresh h (k pl)
    | false=>(match (match E.frz&&JA (AX ti s t x)with
     | true=>none
     | false=>oV E.own ti t (AX ti s t x) (AX ti s t y) h)with
    | some true=>KC h (kQ h (AX ti s t x)++kQ h (AX ti s t y)) (fun h' k'=>K7 ti t (AX ti s t x) (AX ti s t y) fresh h' k') (k pl)
    | some false=>K8 ti t (AX ti s t x) (AX ti s t y) fresh h (k pl)
    | none=>BC (DC (Z6 (AX ti s t' y)))<| LK ti t (AX ti s t x) (AX ti s t y) (k pl)))
   | _,_=>none)
  | _=>none)
 | _=>none
theorem GI {M:Aw}{E:EnvO γ}{ti:Types}(hE:E.ok M.P M.I ti) {o:Oper}{fresh:Nat}{s:AL}{h:Heap}{pl:Pl}{k:Pl→Out→Option γ}{P:Out→Prop}(hk:∀p o,k p o=some r→P o) (e:Iu E ti o fresh s h pl k=some r):Dg M ti o fresh s h P:=by
 have dsok:=hE.ds;unfold Iu at e;unfold Dg;split at e<;>rename_i ho<;>first | (cases e;done) | simp only[ho]
 ·split at e
  ·rename_i h1;split at e
   ·rename_i h2;simp only[h1,h2];exact Tw dsok (hk _) e
   ·rename_i h2;simp only[h1,h2];split at e
    ·rename_i h3;simp only[h3];exact WG dsok (hk _) e
    rename_i h3;simp only[h3];exact Hg (F:=fun h'=>loadT ti _ _ fresh h') (hk _) (fun h' k' P' hk' e=>V2 dsok (fun _=>hk') e) e
  ·rename_i h1;obtain⟨h3,e⟩:=AG e;simp only[h1,Ff h3];show Ag M ti o fresh s h _;unfold Ag;simp only[ho];split at e
   ·exact WJ dsok hk e
   ·exact Pp (hk _) e
 ·split at e
  ·rename_i h1;split at e
   ·rename_i h2;simp only[h1,h2];exact Q8 dsok (hk _) e
   ·rename_i h2;simp only[h1,h2];exact Hg (F:=fun h'=>storeT ti _ _ _ fresh h') (hk _) (fun h' k' P' hk' e=>Ts dsok (fun _=>hk') e) e
  ·rename_i h1;obtain⟨h3,e⟩:=AG e;simp only[h1,Ff h3];show Ag M ti o fresh s h _;unfold Ag;simp only[ho];exact Vt (hk _) e
 ·split at e
  ·rename_i h1;split at e
   ·rename_i h2;simp only[h1,h2];exact Q9 (hk _) e
   ·rename_i h2;simp only[h1,h2];exact Tt (hk _) e
  ·rename_i h1;simp only[h1];show Ag M ti o fresh s h _;unfold Ag;simp only[ho];exact Vu (hk _) e
 ·split at e
  ·rename_i h1;split at e
   ·rename_i h2;simp only[h1,h2];exact RA (hk _) e
   ·rename_i h2;simp only[h1,h2];split at e
    ·rename_i h3;simp only[h3];exact UB (hk _) e
    ·rename_i h3;simp only[h3];exact Tu (hk _) e
  ·rename_i h1;simp only[h1];show Ag M ti o fresh s h _;unfold Ag;simp only[ho];split at e
   ·exact UD (hk _) e
   ·exact Vv dsok (hk _) e
 ·obtain⟨h3,e⟩:=AG e;simp only[Ff h3];show Ag M ti o fresh s h _;unfold Ag;grind
 ·split at e
  ·rename_i h3;simp only[h3];exact LJ (hk _) e
  rename_i h3;simp only[h3];split at e
  ·split at e
   ·refine⟨true,[],?_⟩;show FI _ _ _ _ _ _ _ _;exact LA (fun o e=>by simpa using hk _ _ e) e
   ·refine⟨false,?_⟩;show Ag M ti o fresh s h _;unfold Ag;simp only[ho];exact⟨true,ML (hk _) e⟩
  ·refine⟨false,?_⟩;show Ag M ti o fresh s h _;unfold Ag;simp only[ho];exact⟨false,LB (hk _) e⟩
 ·obtain⟨h3,e⟩:=AG e;simp only[Ff h3];show Ag M ti o fresh s h _;unfold Ag;simp only[ho];exact WB (hk _) e
 ·exact Y3 (hk _) e
 ·split at e
  ·rename_i h1;obtain⟨h3,e⟩:=AG e;simp only[h1,Ff h3];exact RC dsok hk e
  ·rename_i h1;obtain⟨h3,e⟩:=AG e;simp only[h1,Ff h3];show Ag M ti o fresh s h _;unfold Ag;simp only[ho];exact WC (hk _) e
 ·obtain⟨h3,e⟩:=AG e;simp only[Ff h3];exact KD (hk _) e
 ·exact KD (hk _) e
 ·split at e
  ·split at e
   ·cases e
   ·rename_i h3;split at e
    ·cases e
    ·rename_i h4;simp only[h3,h4];exact RD (hk _) e
  ·cases e
 ·split at e
  ·cases e
  ·rename_i h1;split at e
   ·cases e
   ·rename_i h2;simp only[h1,h2];show Ag M ti o fresh s h _;unfold Ag;simp only[ho];exact Yy hk e
 ·split at e
  ·rename_i h1;simp only[h1];show Ag M ti o fresh s h _;unfold Ag;simp only[ho];exact Qz (hk _) e
  ·cases e
 ·show Ag M ti o fresh s h _;unfold Ag;simp only[ho];refine uP (fun q e=>?_) e
  cases q with
  | true=>rw[if_pos rfl]at e;exact hk _ _ e
  | false=>rw[if_neg Bool.false_ne_true]at e;exact hk _ _ e
 ·show Ag M ti o fresh s h _;unfold Ag;simp only[ho];exact kI dsok (hk _) e
 ·show Ag M ti o fresh s h _;unfold Ag;grind
 ·show Ag M ti o fresh s h _;unfold Ag;grind
 ·show Ag M ti o fresh s h _;unfold Ag;simp only[ho];exact Ac (fun _ e=>hk _ _ e) e
 ·show Ag M ti o fresh s h _;unfold Ag;simp only[ho];split at e
  ·rename_i hy;simp only[hy,DR];exact hk _ _ e
  ·cases e
 ·show Ag M ti o fresh s h _;unfold Ag;simp only[ho];exact oO (hk _) e
 ·show Ag M ti o fresh s h _;unfold Ag;grind
 ·show Ag M ti o fresh s h _;unfold Ag;simp only[ho];exact Vw (hk _) e
 ·show Ag M ti o fresh s h _;unfold Ag;simp only[ho];exact Tj (hk _) e
 ·show Ag M ti o fresh s h _;unfold Ag;simp only[ho];exact Qy (hk _) e
 ·split at e
  ·rename_i hcal;simp only[hcal];split at e
   ·rename_i h1 h2;simp only[h1,h2];split at e
    ·rename_i h3;split at e
     ·rename_i h4;simp only[h3,h4];exact WA (hk _) e
     ·rename_i h4;simp only[h3,h4];split at e
      ·rename_i h5;simp only[h5];exact Y4 (hk _) e
      rename_i h5;simp only[h5];exact⟨false,Yz (hk _) e⟩
    ·rename_i h3;simp only[h3];show Ag M ti o fresh s h _;unfold Ag;simp only[ho,hcal,h1,h2];exact jZ (hk _) e
   ·cases e
  ·rename_i hcal;simp only[hcal];split at e
   ·rename_i h1 h2;simp only[h1,h2];obtain⟨h4,e⟩:=AG e;split at e
    ·rename_i h3;simp only[h3];exact AA.2 ⟨h4,RT (hk _) e⟩
    rename_i h3;simp only[h3];split at e
    ·refine⟨true,AA.2 ⟨h4,?_⟩⟩;exact⟨true,Hg (F:=fun h'=>Jt M ti _ _ _ fresh h') (hk _) (fun h' k' P' hk' e=>Q5 hk' e) e⟩
    ·refine⟨true,AA.2 ⟨h4,?_⟩⟩;exact⟨false,Q6 (hk _) e⟩
    ·obtain⟨h5,e⟩:=AG e;refine⟨false,?_⟩;simp only[Ff h5];show Ag M ti o fresh s h _;unfold Ag;simp only[ho,hcal,h1,h2];exact AA.2 ⟨h4,RX (hk _) e⟩
   ·cases e
  ·cases e
end
end Go.AM
namespace Go.AM
open Go Go.RowKit
section
variable {γ:Type}{r:γ}
def told (σ:St) (c:Operand) (q:Bool):St:=
 match c with
 | .tmp t=>⟨Tq σ.slots t (.v (.d (.bool q))),σ.heap,σ.next⟩
 | _=>σ
theorem Xp {σ:St}{ti:Types}{c:Operand}{q:Bool}(h:AX ti (AQ σ.slots) 0 c= .v (.d (.bool q))):told σ c q=σ:=by
 unfold told;split
 ·rw[Q2 h]
 ·rfl
def Bm:List Bool→Nat
 | []=>1
 | b::t=>(match b with
  | true=>2*Bm t+1
  | false=>2*Bm t)
theorem Ih:∀t:List Bool,1≤Bm t
 | []=>Nat.le_refl _
 | b::t=>by have:=Ih t;cases b<;>simp only[Bm]<;>omega
theorem GJ:∀{s t:List Bool},Bm s=Bm t→s=t
 | [],[],_=>rfl
 | [],b::t,h=>by have:=Ih t;cases b<;>simp only[Bm]at h<;>omega
 | b::s,[],h=>by have:=Ih s;cases b<;>simp only[Bm]at h<;>omega
 | a::s,b::t,h=>by
  cases a<;>cases b<;>simp only[Bm]at h
  ·rw[GJ (s:=s) (t:=t) (by omega)]
  ·omega
  ·omega
  ·rw[GJ (s:=s) (t:=t) (by omega)]
def Px:Nat→Nat→List Bool
 | 0,_=>[]
 | f+1,p=>match Nat.ble p 1 with
  | true=>[]
  | false=>Nat.beq (p % 2) 1::Px f (p / 2)
variable {M:Aw}{ti:Types}{nt:Nat}{body:Code}
end
end Go.AM
namespace Go.AM
open Go Go.RowKit
def opened (σ:St) (i:Id) (kd:Kd) (ag:Bool) (sz:Nat) (rows:List D) (k:Nat) (r:D):St:=
 ⟨σ.slots,Cg σ.heap ((i,.tree kd ag sz rows (some (k,CQ σ.next 0 r.cells)))::CI σ.next 0 r.cells),σ.next+32⟩
theorem Y6 {σ:St}(i:Id) {kd:Kd}(hkd:kd.IT=false) {ag:Bool}{sz:Nat}{rows:List D}(hi:AJ σ.heap i=some (.tree kd ag sz rows none)) {k:Nat}{r:D}(hr:rows[k]?=some r) (hn:Nat.ble r.cells.length 32=true):
  BP σ (opened σ i kd ag sz rows k r):=by
 rintro C a w ⟨g,R⟩
 obtain⟨g',R',_⟩:=R.mL hkd hi hr (fresh:=σ.next) (fun c _=>Nat.le_add_right _ _) (Nat.le_of_ble_eq_true hn)
 refine⟨g',?_⟩;have R2:=R'.Af (F':=fun n=>σ.next+32≤n) (fun n hn=>⟨by omega,by omega⟩)
 have e:AJ (opened σ i kd ag sz rows k r).heap=Az (AK (AJ σ.heap) i (.tree kd ag sz rows (some (k,CQ σ.next 0 r.cells)))) (CI σ.next 0 r.cells):=by
  simp only[opened,Ce];rfl
 show AY C _ (AQ σ.slots) (AJ (opened σ i kd ag sz rows k r).heap) g' a w;rw[e];exact R2
end Go.AM
namespace Go.AM
open Go Go.RowKit
noncomputable section
variable {γ:Type}{r:γ}
def N1 (E:EnvO γ) (ti:Types) (o:Oper) (fresh:Nat) (σ:St) (pl:Pl) (K:Pl→St→Option γ):Option γ:=
 match Z9 ti o (AQ σ.slots) (AJ σ.heap)with
 | none=>Iu E ti o fresh (AQ σ.slots) (AJ σ.heap) pl fun p out=>K p ⟨Cr σ.slots o.dst out.val,Cg σ.heap out.wr,σ.next⟩
 | some b=>(match pl.take.gs with
  | []=>(match b with
   | false=>Iu E ti o fresh (AQ σ.slots) (AJ σ.heap) pl.take.r fun p out=>K p ⟨Cr σ.slots o.dst out.val,Cg σ.heap out.wr,σ.next⟩
   | true=>Iu E ti o fresh (AQ σ.slots) (AJ σ.heap) pl.take.r fun p out=>K p ⟨Cr σ.slots o.dst out.val,Cg σ.heap out.wr,fresh⟩)
  | g::gs=>DG (g::gs) ⟨σ.slots,σ.heap,fresh⟩ fun σ'=>BC (Nat.beq σ'.next fresh)<| Iu E ti o fresh (AQ σ'.slots) (AJ σ'.heap) pl.take.r fun p out=>K p ⟨Cr σ'.slots o.dst out.val,Cg σ'.heap out.wr,σ'.next⟩)
def RY (E:EnvO γ) (ti:Types) (nt:Nat) (o:Oper) (fresh:Nat) (σ:St) (pl:Pl) (K:Pl→St→Option γ):Option γ:=
 BC (Q1 o)<| BC (kC nt o.dst)<| (match Qe ti o (AQ σ.slots) (AJ σ.heap)with
  | some (e,rows)=>BC (MV ti o)<| Yq rows (K (pl.at true) ⟨Cr σ.slots o.dst (.v (.d (.bool e))),σ.heap,σ.next⟩) (K (pl.at false) ⟨Cr σ.slots o.dst (.v (.d (.bool (DC e)))),σ.heap,σ.next⟩)
  | none=>(match o.op with
   | .call c=>(match c.callee with
    | .value f=>(match pl.take.gs with
     | []=>Mh E.call ti c f pl.take.w pl.take.l fresh (AQ σ.slots) (AJ σ.heap) pl.take.r fun p out=>K p ⟨Cr σ.slots o.dst out.val,Cg σ.heap out.wr,σ.next⟩
     | g::gs=>RL E.call ti o c f (g::gs) fresh σ pl.take.r K)
    | _=>N1 E ti o fresh σ pl K)
   | _=>N1 E ti o fresh σ pl K))
section
variable {o:Oper}{fresh:Nat}{σ:St}{pl:Pl}{K:Pl→St→Option γ}{P:St→Prop}
theorem Py {M:Aw}{E:EnvO γ}{ti:Types}(hE:E.ok M.P M.I ti) (hK:∀p σ,K p σ=some r→P σ) (e:N1 E ti o fresh σ pl K=some r):
  match Z9 ti o (AQ σ.slots) (AJ σ.heap)with
    | none=>Dg M ti o fresh (AQ σ.slots) (AJ σ.heap) fun out=>P ⟨Cr σ.slots o.dst out.val,Cg σ.heap out.wr,σ.next⟩
    | some b=>match b with
     | true=>M.lock fun _=>Yb M ti o fresh σ P
     | false=>M.lock fun _=>AAh M ti o fresh σ P∨Yb M ti o fresh σ P:=by
 unfold N1 at e
 have ghs:∀{g:Gh} {gs:List Gh} {p:Pl},(DG (g::gs) ⟨σ.slots,σ.heap,fresh⟩ fun σ'=>BC (Nat.beq σ'.next fresh)<| Iu E ti o fresh (AQ σ'.slots) (AJ σ'.heap) p fun p out=>K p ⟨Cr σ'.slots o.dst out.val,Cg σ'.heap out.wr,σ'.next⟩)=some r→Yb M ti o fresh σ P:=by
  intro g gs p e;obtain⟨σ',hw,e⟩:=B9 (C7 (P:=fun σ'=>_=some r) (fun σ h=>h) e)
  obtain⟨h1,e⟩:=AG e;exact⟨σ',hw,Nat.eq_of_beq_eq_true h1,GI hE (fun p out h=>hK _ _ h) e⟩
 split at e
 ·rename_i hg
  try rw[hg]
  exact GI hE (fun p out h=>hK _ _ h) e
 ·rename_i b hg
  try rw[hg]
  split at e
  ·cases b with
   | false=>exact (M.lock_iff _).2 (.inl (GI hE (fun p out h=>hK _ _ h) e))
   | true=>exact (M.lock_iff _).2 ⟨⟨σ.slots,σ.heap,fresh⟩,fun _ _ _ h=>h,rfl,GI hE (fun p out h=>hK _ _ h) e⟩
  ·cases b with
   | false=>exact (M.lock_iff _).2 (.inr (ghs e))
   | true=>exact (M.lock_iff _).2 (ghs e)
theorem WK {M:Aw}{E:EnvO γ}{ti:Types}(hE:E.ok M.P M.I ti) {nt:Nat}(hK:∀p σ,K p σ=some r→P σ) (e:RY E ti nt o fresh σ pl K=some r):NK M ti nt o fresh σ P:=by
 unfold RY at e;obtain⟨h1,e⟩:=AG e;obtain⟨h2,e⟩:=AG e;unfold NK;refine Ps h1 (Mf h2 ?_);split at e
 ·rename_i b rows hn;rw[hn];obtain⟨h3,e⟩:=AG e;obtain⟨g0,g1⟩:=jC e;exact AA.2 ⟨h3,fun _=>hK _ _ g0,fun hr=>⟨hK _ _ (g1 hr),hK _ _ g0⟩⟩
 ·rename_i hn;rw[hn];simp only[];split at e
  ·rename_i c ho;split at e
   ·rename_i f hf;have hv:Dy o=true:=by unfold Dy;simp_all
    rw[hv];split at e
    ·exact (M.lock_iff _).2 (.inl (Ny hE.call ho hf (fun p out h=>hK _ _ h) e))
    ·exact (M.lock_iff _).2 (.inr (.inl (WD hE.call ho hf hK e)))
   ·rename_i hf
    have hv:Dy o=false:=by
     unfold Dy;simp_all
    rw[hv];exact Py hE hK e
  ·rename_i ho
   by_cases hp:∃x,o.op= .panic x
   ·obtain⟨x,hp⟩:=hp;exfalso;unfold N1 at e;have hg:Z9 ti o (AQ σ.slots) (AJ σ.heap)=none:=by unfold Z9;rw[hp]
    rw[hg]at e;simp only[]at e;unfold Iu at e;simp_all
   have hv:Dy o=false:=by
    unfold Dy;simp_all
   rw[hv];exact Py hE hK e
def KF (ops:Array Oper) (o:Oper) (σ:St) (pl:Pl) (K1 K0:Pl→St→Option γ):Option γ:=
 match o.guard with
 | none=>K1 pl σ
 | some (j,want)=>(match (ops[j]?).bind (·.dst)with
  | none=>none
  | some d=>(match AQ σ.slots d with
   | .v (.d (.bool c))=>(match want with
    | true=>if c=true then K1 (pl.at true) ⟨Tq σ.slots d (.v (.d (.bool true))),σ.heap,σ.next⟩else K0 (pl.at false) ⟨Tq σ.slots d (.v (.d (.bool false))),σ.heap,σ.next⟩
    | false=>if c=true then K0 (pl.at true) ⟨Tq σ.slots d (.v (.d (.bool true))),σ.heap,σ.next⟩else K1 (pl.at false) ⟨Tq σ.slots d (.v (.d (.bool false))),σ.heap,σ.next⟩)
   | .t []=>K0 pl σ
   | _=>none))
theorem L2 {ops:Array Oper}{K1 K0:Pl→St→Option γ}{P1 P0:St→Prop}(h1:∀p,K1 p σ=some r→P1 σ) (h0:∀p,K0 p σ=some r→P0 σ) (e:KF ops o σ pl K1 K0=some r):guarded ops o σ P1 P0:=by
 unfold KF at e;unfold guarded;split at e
 ·grind
 ·rename_i j want hg;simp only[hg];split at e
  ·cases e
  ·rename_i d hd;simp only[hd];split at e
   ·rename_i c hs;simp only[hs];cases want<;>cases c<;>simp only[if_true,Bool.false_eq_true,if_false,Q2 hs]at e ⊢
    ·exact h1 _ e
    ·exact h0 _ e
    ·exact h0 _ e
    ·exact h1 _ e
   ·grind
   ·cases e
def RZ (E:EnvO γ) (ti:Types) (x:Operand) (fresh:Nat) (σ:St) (K:St→Option γ):Option γ:=
 BC E.cl<| match AX ti (AQ σ.slots) 0 x,AQ σ.slots DT with
 | .v (.c (.fz f ps)),.df g cs rows=>BC (Nat.beq f g)<| BC (L1 (RM ps) cs)<| BC (noH ps)<| BC (WE (RN ps))<| K ⟨Cr σ.slots (some DT) (.df g cs (kL (RN ps)::rows)),σ.heap,fresh⟩
 | _,_=>none
theorem WL {M:Aw}{E:EnvO γ}(hcl:E.cl=true→M.cl=true) {ti:Types}{x:Operand}{K:St→Option γ}(hK:∀σ,K σ=some r→P σ) (e:RZ E ti x fresh σ K=some r):Qf M ti x fresh σ P:=by
 unfold RZ at e;obtain⟨h0,e⟩:=AG e;split at e
 ·rename_i f ps g cs rows hx hd;obtain⟨h1,e⟩:=AG e;obtain⟨h2,e⟩:=AG e;obtain⟨h3,e⟩:=AG e;obtain⟨h4,e⟩:=AG e;refine (M.lock_iff _).2 ⟨⟨σ.slots,σ.heap,fresh⟩,BP.refl _,rfl,g,cs,rows,_,?_,hd,hcl h0,hK _ e⟩;rw[hx,Lz h4,←Hh h2,Mi h3,Nat.eq_of_beq_eq_true h1]
 ·cases e
def LL (E:EnvO γ) (ti:Types) (nt:Nat) (ops:Array Oper) (base:Nat):List Oper→Nat→Pl→St→(Pl→St→Option γ)→Option γ
 | [],i,pl,σ,K=>K pl ⟨σ.slots,σ.heap,base+32*i⟩
 | o::l,i,pl,σ,K=>KF ops o σ pl (fun pl σ=>match JB o with
   | some x=>RZ E ti x (base+32*i) σ fun σ2=>LL E ti nt ops base l (i+1) pl σ2 K
   | none=>RY E ti nt o (base+32*i) σ pl fun pl σ2=>LL E ti nt ops base l (i+1) pl σ2 K)
   (fun pl σ=>BC (kC nt o.dst) (LL E ti nt ops base l (i+1) pl ⟨Cr σ.slots o.dst (.t []),σ.heap,σ.next⟩ K))
theorem Ii {M:Aw}{E:EnvO γ}{ti:Types}(hE:E.ok M.P M.I ti) (hcl:E.cl=true→M.cl=true) {nt:Nat}{ops:Array Oper}{base:Nat}{K:Pl→St→Option γ}{P:St→Prop}(hK:∀p σ,K p σ=some r→P σ):
  ∀(l:List Oper) (i:Nat) (pl:Pl) (σ:St),LL E ti nt ops base l i pl σ K=some r→CG M ti nt ops base l i σ P
 | [],_,_,_,e=>hK _ _ e
 | o::l,i,pl,σ,e=>by
  unfold LL at e;unfold CG
  exact L2 (P1:=fun σ1=>match JB o with
    | some x=>Qf M ti x (base+32*i) σ1 fun σ2=>CG M ti nt ops base l (i+1) σ2 P
    | none=>NK M ti nt o (base+32*i) σ1 fun σ2=>CG M ti nt ops base l (i+1) σ2 P) (P0:=fun σ1=>G6 nt o.dst (CG M ti nt ops base l (i+1) ⟨Cr σ1.slots o.dst (.t []),σ1.heap,σ1.next⟩ P))
   (fun p e=>by
    split at e
    ·exact WL hcl (fun σ2 e=>Ii hE hcl hK l (i+1) _ σ2 e) e
    ·exact WK hE (fun p σ2 e=>Ii hE hcl hK l (i+1) p σ2 e) e) (fun p e=>by
    obtain⟨h1,e⟩:=AG e;exact Mf h1 (Ii hE hcl hK l (i+1) p _ e)) e
def N2 (E:EnvO γ) (ti:Types) (o:Oper) (fresh:Nat) (s:AL) (h:Heap) (pl:Pl) (k:Pl→Out→Option γ):Option γ:=
 match o.op with
 | .call c=>(match c.callee with
  | .value f=>Mh E.call ti c f pl.take.w pl.take.l fresh s h pl.take.r k
  | _=>Iu E ti o fresh s h pl k)
 | _=>Iu E ti o fresh s h pl k
theorem UE {M:Aw}{E:EnvO γ}{ti:Types}(hE:E.ok M.P M.I ti) {s:AL}{h:Heap}{k:Pl→Out→Option γ}{P:Out→Prop}(hk:∀p o,k p o=some r→P o) (e:N2 E ti o fresh s h pl k=some r):Dg M ti o fresh s h P:=by
 unfold N2 at e;split at e
 ·rename_i c ho;split at e
  ·rename_i f hf;exact Ny hE.call ho hf hk e
  ·exact GI hE hk e
 ·exact GI hE hk e
def KG (E:EnvO γ) (ti:Types) (nt:Nat) (ops:Array Oper) (base:Nat):List Oper→Nat→Pl→St→List Fp→(Pl→St→List Fp→Option γ)→Option γ
 | [],i,pl,σ,fps,K=>K pl ⟨σ.slots,σ.heap,base+32*i⟩ fps
 | o::l,i,pl,σ,fps,K=>KF ops o σ pl (fun pl σ=>BC (Q1 o)<| BC (kC nt o.dst)<| N2 E ti o (base+32*i) (AQ σ.slots) (AJ σ.heap) pl fun pl out=>
    KG E ti nt ops base l (i+1) pl ⟨Cr σ.slots o.dst out.val,Cg σ.heap out.wr,σ.next⟩ (fps++[(out.rd,out.wr.map (·.1))]) K)
   (fun pl σ=>BC (kC nt o.dst) (KG E ti nt ops base l (i+1) pl ⟨Cr σ.slots o.dst (.t []),σ.heap,σ.next⟩ (fps++[([],[])]) K))
theorem JQ {M:Aw}{E:EnvO γ}{ti:Types}(hE:E.ok M.P M.I ti) {nt:Nat}{ops:Array Oper}{base:Nat}{K:Pl→St→List Fp→Option γ}{P:St→List Fp→Prop}(hK:∀p σ fps,K p σ fps=some r→P σ fps):
  ∀(l:List Oper) (i:Nat) (pl:Pl) (σ:St) (fps:List Fp),KG E ti nt ops base l i pl σ fps K=some r→D9 M ti nt ops base l i σ fps P
 | [],_,_,_,_,e=>hK _ _ _ e
 | o::l,i,pl,σ,fps,e=>by
  unfold KG at e;unfold D9
  refine L2 (P1:=fun σ1=>FK o<| G6 nt o.dst<| Dg M ti o (base+32*i) (AQ σ1.slots) (AJ σ1.heap) fun out=>D9 M ti nt ops base l (i+1) ⟨Cr σ1.slots o.dst out.val,Cg σ1.heap out.wr,σ1.next⟩ (fps++[(out.rd,out.wr.map (·.1))]) P)
   (P0:=fun σ1=>G6 nt o.dst (D9 M ti nt ops base l (i+1) ⟨Cr σ1.slots o.dst (.t []),σ1.heap,σ1.next⟩ (fps++[([],[])]) P)) (fun p e=>?_) (fun p e=>?_) e
  ·obtain⟨h1,e⟩:=AG e;obtain⟨h2,e⟩:=AG e;exact Ps h1 (Mf h2 (UE hE (fun p out e=>JQ hE hK l (i+1) p _ _ e) e))
  ·obtain⟨h1,e⟩:=AG e;exact Mf h1 (JQ hE hK l (i+1) p _ _ e)
abbrev Ra (γ:Type):=Pl→Ct→St→Option γ
structure EnvP (γ:Type) extends EnvO γ where
 has:Nat→Bool
 rest:Nat→Tk→St→Option γ
def kS (ds:Ds γ) (pl:Pl) (σ:St) (K:Pl→St→Option γ):Option γ:=
 match pl with
 | .o i t ty q=>(match AJ σ.heap i,AQ σ.slots t with
  | some (.tree kd ag sz rows foc),.v (.d (.int _ z))=>(match foc with
   | none=>BC (DC kd.IT)<| DV rows z.toNat fun d=>ds ty d fun d=>BC (Nat.ble d.cells.length 32)<| K q (opened σ i kd ag sz rows z.toNat d)
   | some _=>none)
  | _,_=>none)
 | pl=>K pl σ
theorem kT {ds:Ds γ}(hd:ds.ok) (e:kS ds pl σ K=some r):∃p σ',BP σ σ'∧K p σ'=some r:=by
 unfold kS at e;split at e
 ·split at e
  ·rename_i hi ht;split at e
   ·obtain⟨h1,e⟩:=AG e;obtain⟨d,h2,e⟩:=E7 e;obtain⟨h3,e⟩:=AG (hd _ _ _ _ e);exact⟨_,_,Y6 _ (Ff h1) hi h2 h3,e⟩
   ·cases e
  ·cases e
 ·exact⟨_,_,BP.refl _,e⟩
def Rb (E:EnvP γ) (q:Nat) (eb:Pl→St→Ra γ→Option γ) (K:Ra γ):Ra γ:=fun pl e σ=>match e with
 | .normal=>(match E.has q with
  | true=>(match pl.take.w with
   | true=>eb pl.take.r σ K
   | false=>E.rest q pl.take σ)
  | false=>kS E.ds pl σ fun pl σ=>eb pl σ K)
 | .exit id=>K pl (.exit id) σ
 | .ret=>K pl .ret σ
def Rc (id:Nat) (K:Ra γ):Ra γ:=fun pl e σ=>match e with
 | .normal=>K pl .normal σ
 | .exit id'=>(match Nat.beq id' id with
  | true=>K pl .normal σ
  | false=>K pl (.exit id') σ)
 | .ret=>K pl .ret σ
def Mj (E:EnvP γ) (p:Nat) (K:Ra γ):Ra γ:=fun pl e σ=>match e with
 | .normal=>E.rest p pl.take σ
 | .exit id=>K pl (.exit id) σ
 | .ret=>K pl .ret σ
def Bp (E:EnvP γ) (ti:Types) (nt:Nat):Code→Nat→Pl→St→Ra γ→Option γ
 | .skip,_,pl,σ,K=>K pl .normal σ
 | .region _ ops draw,_,pl,σ,K=>(match draw with
  | false=>LL E.toEnvO ti nt ops σ.next ops.toList 0 pl σ fun pl σ'=>K pl .normal σ'
  | true=>KG E.toEnvO ti nt ops σ.next ops.toList 0 pl σ [] fun pl σ' fps=>BC (iQ ops fps) (K pl .normal σ'))
 | .seq a b,p,pl,σ,K=>Bp E ti nt a (2*p) pl σ (Rb E (2*p+1) (fun pl σ K=>Bp E ti nt b (2*p+1) pl σ K) K)
 | .cond c a b,p,pl,σ,K=>zO (AX ti (AQ σ.slots) 0 c) fun q=>if q=true then Bp E ti nt a (2*p) (pl.at true) (told σ c true) K else Bp E ti nt b (2*p+1) (pl.at false) (told σ c false) K
 | .block id c,p,pl,σ,K=>Bp E ti nt c (2*p) pl σ (Rc id K)
 | .loop _,p,pl,σ,_=>E.rest p pl.take σ
 | .exit id,_,pl,σ,K=>K pl (.exit id) σ
 | .ret,_,pl,σ,K=>K pl .ret σ
 | _,_,_,_,_=>none
def kU (E:EnvP γ) (ti:Types) (nt:Nat) (c:Code) (p:Nat) (pl:Pl) (σ:St) (K:Ra γ):Option γ:=
 match c with
 | .loop b=>Bp E ti nt b (2*p) pl σ (Mj E p K)
 | c=>Bp E ti nt c p pl σ K
def oW (E:EnvP γ) (ti:Types) (nt:Nat):Code→Nat→Ra γ→Bool→Option (Code×Nat×Ra γ)
 | .seq a b,p,K,d=>(match d with
  | false=>some (a,2*p,Rb E (2*p+1) (fun pl σ K=>Bp E ti nt b (2*p+1) pl σ K) K)
  | true=>some (b,2*p+1,K))
 | .cond _ a b,p,K,d=>(match d with
  | false=>some (a,2*p,K)
  | true=>some (b,2*p+1,K))
 | .block id c,p,K,d=>(match d with
  | false=>some (c,2*p,Rc id K)
  | true=>none)
 | .loop c,p,K,d=>(match d with
  | false=>some (c,2*p,Mj E p K)
  | true=>none)
 | _,_,_,_=>none
def DH (E:EnvP γ) (ti:Types) (nt:Nat) (body:Code) (K:Ra γ):List Bool→Option (Code×Nat×Ra γ)
 | []=>some (body,1,K)
 | b::t=>(match DH E ti nt body K t with
  | some x=>oW E ti nt x.1 x.2.1 x.2.2 b
  | none=>none)
def Gm (E:EnvP γ) (ti:Types) (nt:Nat) (body:Code) (K:Ra γ) (way:List Bool) (pl:Pl) (σ:St):Option γ:=
 match DH E ti nt body K way with
 | some x=>kU E ti nt x.1 x.2.1 pl σ x.2.2
 | none=>none
end
variable {M:Aw}{ti:Types}{nt:Nat}{E:Nat→EnvP γ}{body:Code}{Kf:Nat→Ra γ}
def uU (E:Nat→EnvP γ) (ti:Types) (nt:Nat) (body:Code) (Kf:Nat→Ra γ) (r:γ) (n:Nat):Prop:=
 ∀wy tk σ,(E n).rest (Bm wy) tk σ=some r→∃m σ' way pl,m<n∧BP σ σ'∧Bm way=Bm wy∧Gm (E m) ti nt body (Kf m) way pl σ'=some r
theorem Dm {N:Nat}(hE:∀m,m≤N→(E m).toEnvO.ok M.P M.I ti) (hcl:∀m,(E m).cl=true→M.cl=true) (hr:∀m,m≤N→uU E ti nt body Kf r m):
  ∀(c:Code) (way:List Bool) (n:Nat) (Ko:Nat→Ra γ) (KP:Ct→St→Prop),n≤N→(∀m,m≤n→DH (E m) ti nt body (Kf m) way=some (c,Bm way,Ko m))→(∀m p e σ,m≤n→Ko m p e σ=some r→KP e σ)→
   (∀pl σ,Bp (E n) ti nt c (Bm way) pl σ (Ko n)=some r→exec M ti nt (BK ti M nt) c σ KP)∧(∀pl σ,kU (E n) ti nt c (Bm way) pl σ (Ko n)=some r→exec M ti nt (BK ti M nt) c σ KP)
 | .skip,way,n,Ko,KP,hn,h1,h2=>⟨fun pl σ e=>h2 n _ _ _ (Nat.le_refl _) e,fun pl σ e=>h2 n _ _ _ (Nat.le_refl _) e⟩
 | .exit id,way,n,Ko,KP,hn,h1,h2=>⟨fun pl σ e=>h2 n _ _ _ (Nat.le_refl _) e,fun pl σ e=>h2 n _ _ _ (Nat.le_refl _) e⟩
 | .ret,way,n,Ko,KP,hn,h1,h2=>⟨fun pl σ e=>h2 n _ _ _ (Nat.le_refl _) e,fun pl σ e=>h2 n _ _ _ (Nat.le_refl _) e⟩
 | .region id ops draw,way,n,Ko,KP,hn,h1,h2=>by
  have main:∀pl σ,Bp (E n) ti nt (.region id ops draw) (Bm way) pl σ (Ko n)=some r→exec M ti nt (BK ti M nt) (.region id ops draw) σ KP:=by
   intro pl σ e;cases draw with
   | false=>exact Ii (hE n hn) (hcl n) (fun p σ' e=>h2 n _ _ _ (Nat.le_refl _) e) _ _ _ _ e
   | true=>
    refine JQ (hE n hn) (fun p σ' fps e=>?_) _ _ _ _ _ e
    obtain⟨g1,e⟩:=AG e;exact⟨(M.lock_iff _).2 g1,h2 n _ _ _ (Nat.le_refl _) e⟩
  exact⟨main,main⟩
 | .cond c a b,way,n,Ko,KP,hn,h1,h2=>by
  have main:∀pl σ,Bp (E n) ti nt (.cond c a b) (Bm way) pl σ (Ko n)=some r→exec M ti nt (BK ti M nt) (.cond c a b) σ KP:=by
   intro pl σ e;have e':zO (AX ti (AQ σ.slots) 0 c) (fun q=>if q=true then Bp (E n) ti nt a (2*Bm way) (pl.at true) (told σ c true) (Ko n)else Bp (E n) ti nt b (2*Bm way+1) (pl.at false) (told σ c false) (Ko n))=some r:=e
   show PB (AX ti (AQ σ.slots) 0 c) _;generalize ho:AX ti (AQ σ.slots) 0 c=x at e';unfold zO at e';split at e'
   rotate_left
   ·cases e'
   rename_i q;have e:(if q=true then Bp (E n) ti nt a (2*Bm way) (pl.at true) (told σ c true) (Ko n)else Bp (E n) ti nt b (2*Bm way+1) (pl.at false) (told σ c false) (Ko n))=some r:=e'
   cases q with
   | true=>
    rw[if_pos rfl,Xp ho]at e;exact (Dm hE hcl hr a (false::way) n Ko KP hn (fun m hm=>by show (match DH (E m) ti nt body (Kf m) way with | some x=>_ | none=>_)=_;rw[h1 m hm];rfl) h2).1 _ σ e
   | false=>
    rw[if_neg Bool.false_ne_true,Xp ho]at e;exact (Dm hE hcl hr b (true::way) n Ko KP hn (fun m hm=>by show (match DH (E m) ti nt body (Kf m) way with | some x=>_ | none=>_)=_;rw[h1 m hm];rfl) h2).1 _ σ e
  exact⟨main,main⟩
 | .block id c,way,n,Ko,KP,hn,h1,h2=>by
  have main:∀pl σ,Bp (E n) ti nt (.block id c) (Bm way) pl σ (Ko n)=some r→exec M ti nt (BK ti M nt) (.block id c) σ KP:=by
   intro pl σ e;refine (Dm hE hcl hr c (false::way) n (fun m=>Rc id (Ko m)) _ hn (fun m hm=>by show (match DH (E m) ti nt body (Kf m) way with | some x=>_ | none=>_)=_;rw[h1 m hm];rfl) (fun m p e σ hm he=>?_)).1 pl σ e
   cases e with
   | normal=>exact h2 m _ _ _ hm he
   | ret=>exact h2 m _ _ _ hm he
   | exit id'=>
    simp only[Rc]at he;grind
  exact⟨main,main⟩
 | .loop c,way,n,Ko,KP,hn,h1,h2=>by
  have at':∀k,k≤n→∀pl σ σ1,BP σ σ1→kU (E k) ti nt (.loop c) (Bm way) pl σ1 (Ko k)=some r→exec M ti nt (BK ti M nt) (.loop c) σ KP:=by
   intro k hk pl σ σ1 hw e;refine (M.lock_iff _).2 (.inl ⟨fun j σ=>j≤n∧∃pl,Bp (E j) ti nt c (2*Bm way) pl σ (Mj (E j) (Bm way) (Ko j))=some r,k,⟨σ1,hw,hk,pl,e⟩,?_⟩)
   rintro j σ2 ⟨hj,pl2,e2⟩
   refine (Dm hE hcl hr c (false::way) j (fun m=>Mj (E m) (Bm way) (Ko m)) _ (Nat.le_trans hj hn) (fun m hm=>by show (match DH (E m) ti nt body (Kf m) way with | some x=>_ | none=>_)=_;rw[h1 m (Nat.le_trans hm hj)];rfl) (fun m p e σ hm he=>?_)).1 pl2 σ2 e2
   cases e with
   | exit id=>exact h2 m _ _ _ (Nat.le_trans hm hj) he
   | ret=>exact h2 m _ _ _ (Nat.le_trans hm hj) he
   | normal=>
    obtain⟨m',σ',way',pl',g1,g2,g3,g4⟩:=hr m (Nat.le_trans (Nat.le_trans hm hj) hn) way _ σ he;obtain rfl:=GJ g3;unfold Gm at g4;rw[h1 m' (Nat.le_trans (Nat.le_of_lt g1) (Nat.le_trans hm hj))]at g4;exact⟨m',σ',Nat.lt_of_lt_of_le g1 hm,g2,Nat.le_trans (Nat.le_of_lt g1) (Nat.le_trans hm hj),pl',g4⟩
  refine⟨fun pl σ e=>?_,fun pl σ e=>at' n (Nat.le_refl _) pl σ σ (fun _ _ _ h=>h) e⟩
  obtain⟨m',σ',way',pl',g1,g2,g3,g4⟩:=hr n hn way _ σ e;obtain rfl:=GJ g3;unfold Gm at g4;grind
 | .seq a b,way,n,Ko,KP,hn,h1,h2=>by
  have hb:∀m,m≤n→DH (E m) ti nt body (Kf m) (true::way)=some (b,2*Bm way+1,Ko m):=fun m hm=>by show (match DH (E m) ti nt body (Kf m) way with | some x=>_ | none=>_)=_;rw[h1 m hm];rfl
  have main:∀pl σ,Bp (E n) ti nt (.seq a b) (Bm way) pl σ (Ko n)=some r→exec M ti nt (BK ti M nt) (.seq a b) σ KP:=by
   intro pl σ e;refine (M.lock_iff _).2 (.inr ⟨fun σ''=>exec M ti nt (BK ti M nt) b σ'' KP,?_,fun _ h=>h⟩)
   refine (Dm hE hcl hr a (false::way) n (fun m=>Rb (E m) (2*Bm way+1) (fun pl σ K=>Bp (E m) ti nt b (2*Bm way+1) pl σ K) (Ko m)) _ hn (fun m hm=>by show (match DH (E m) ti nt body (Kf m) way with | some x=>_ | none=>_)=_;rw[h1 m hm];rfl) (fun m p e σ hm he=>?_)).1 pl σ e
   cases e with
   | exit id=>exact h2 m _ _ _ hm he
   | ret=>exact h2 m _ _ _ hm he
   | normal=>
    have go:∀p,Bp (E m) ti nt b (2*Bm way+1) p σ (Ko m)=some r→∃σ'',BP σ σ''∧exec M ti nt (BK ti M nt) b σ'' KP:=fun p he=>
     ⟨σ,fun _ _ _ h=>h,(Dm hE hcl hr b (true::way) m Ko KP (Nat.le_trans hm hn) (fun k hk=>hb k (Nat.le_trans hk hm)) (fun k p e σ hk=>h2 k p e σ (Nat.le_trans hk hm))).1 p σ he⟩
    simp only[Rb]at he;split at he
    ·split at he
     ·exact go _ he
     ·obtain⟨m',σ',way',pl',g1,g2,g3,g4⟩:=hr m (Nat.le_trans hm hn) (true::way) _ σ he;obtain rfl:way'=true::way:=GJ g3;unfold Gm at g4;rw[hb m' (Nat.le_trans (Nat.le_of_lt g1) hm)]at g4;exact⟨σ',g2,(Dm hE hcl hr b (true::way) m' Ko KP (Nat.le_trans (Nat.le_trans (Nat.le_of_lt g1) hm) hn) (fun k hk=>hb k (Nat.le_trans hk (Nat.le_trans (Nat.le_of_lt g1) hm))) (fun k p e σ hk=>h2 k p e σ (Nat.le_trans hk (Nat.le_trans (Nat.le_of_lt g1) hm)))).2 pl' σ' g4⟩
    ·obtain⟨p1,σ1,hw,he⟩:=kT (hE m (Nat.le_trans hm hn)).ds he;exact⟨σ1,hw,(Dm hE hcl hr b (true::way) m Ko KP (Nat.le_trans hm hn) (fun k hk=>hb k (Nat.le_trans hk hm)) (fun k p e σ hk=>h2 k p e σ (Nat.le_trans hk hm))).1 p1 σ1 he⟩
  exact⟨main,main⟩
 | .rangeFunc ..,_,_,_,_,_,_,_=>⟨fun _ _ e=>(by cases e),fun _ _ e=>(by cases e)⟩
 | .scope _,_,_,_,_,_,_,_=>⟨fun _ _ e=>(by cases e),fun _ _ e=>(by cases e)⟩
 | .label _,_,_,_,_,_,_,_=>⟨fun _ _ e=>(by cases e),fun _ _ e=>(by cases e)⟩
 | .goto _,_,_,_,_,_,_,_=>⟨fun _ _ e=>(by cases e),fun _ _ e=>(by cases e)⟩
 | .refuse _,_,_,_,_,_,_,_=>⟨fun _ _ e=>(by cases e),fun _ _ e=>(by cases e)⟩
end
end Go.AM
namespace Go.AM
open Go Go.RowKit
section
variable {γ:Type}{r:γ}
def UF (ti:Types) (σ:St):List ResultVar→Option (List V1)
 | []=>some []
 | x::l=>(match (match x with
  | .tmp t=>some (AQ σ.slots t)
  | .cell a t=>Qs ti t (AQ σ.slots a) (AJ σ.heap) fun out=>some out.val)with
  | some (.v y)=>(match UF ti σ l with
   | some xs=>some (y.norm::xs)
   | none=>none)
  | _=>none)
theorem N3 {ti:Types}{σ:St}:∀{l:List ResultVar}{xs:List V1}{P:List V1→Prop},UF ti σ l=some xs→P xs→FO ti σ l P
 | [],_,_,e,hP=>by cases e;exact hP
 | .tmp t::l,xs,P,e,hP=>by
  unfold UF at e;unfold FO;simp only[]at e;split at e
  ·rename_i y hy;split at e
   ·rename_i ys hys;cases e
    rw[Option.some.inj hy];exact N3 hys hP
   ·cases e
  ·cases e
 | .cell a t::l,xs,P,e,hP=>by
  unfold UF at e;unfold FO;simp only[]at e;split at e
  ·rename_i y hy;split at e
   ·rename_i ys hys;cases e
    refine Pp (fun out ho=>?_) hy
    rw[Option.some.inj ho];exact N3 hys hP
   ·cases e
  ·cases e
def D2:List Id→List Id
 | []=>[]
 | i::l=>(match i with
  | .loc _=>i::D2 l
  | .ext _=>D2 l)
def GK:Nat→Nat→List Id
 | _,0=>[]
 | j,n+1=>.ext j::GK (j+1) n
def N4 (nm:List Id) (i:Id):Id:=match i with
 | .ext j=>.ext j
 | .loc _=>(match uR nm 0 i with
  | some k=>.loc k
  | none=>i)
def L3 (nm:List Id) (N:Nat) (i:Id):Bool:=Id.beq (Cu nm N (N4 nm i)) i
theorem LM {h:Heap}{N:Nat}{nm:List Id}:∀{n j:Nat}{ps:List AD},D1 h (GK j n)=some ps→Bd (Nb (L3 nm N)) ps=true→E6 h (Cu nm N) (ps.map (AD.A0 (N4 nm))) j
 | 0,j,ps,e,_=>by cases e;trivial
 | n+1,j,ps,e,hb=>by
  unfold GK D1 at e;split at e
  ·rename_i o ho;split at e
   ·rename_i r' hr;cases e
    unfold Bd at hb;split at hb
    ·rename_i h1;show (match NX (o.A0 (N4 nm))with | true=>_ | false=>_)
     split
     ·exact LM hr hb
     ·exact⟨by rw[Mb (p:=L3 nm N) (fun i hi=>Id.beq_iff.1 hi) h1];exact ho,LM hr hb⟩
    ·cases hb
   ·cases e
  ·cases e
theorem UG {h:Heap}{N:Nat}{nm:List Id}:∀{l:List Id}{ns:List AD},D1 h l=some ns→Bd (Nb (L3 nm N)) ns=true→Ll h (Cu nm N) (ns.map (AD.A0 (N4 nm))) l
 | [],ns,e,_=>by cases e;trivial
 | i::l,ns,e,hb=>by
  unfold D1 at e;split at e
  ·rename_i o ho;split at e
   ·rename_i r' hr;cases e
    unfold Bd at hb;split at hb
    ·rename_i h1;exact⟨by rw[Mb (p:=L3 nm N) (fun i hi=>Id.beq_iff.1 hi) h1];exact ho,UG hr hb⟩
    ·cases hb
   ·cases e
  ·cases e
theorem LN {post:List AD}:∀l:List Id,Fe post (D2 l)
 | []=>trivial
 | .loc _::l=>LN l
 | .ext _::l=>LN l
inductive Lf where
 | I (z:Int)
 | B (b:Bool)
 | S (s:ByteArray)
 | L (l:List D)
def UH:List Id→List Id→Bool
 | [],[]=>true
 | i::a,j::b=>(match Id.beq i j with
  | true=>UH a b
  | false=>false)
 | _,_=>false
theorem N5:∀{a b:List Id},UH a b=true→a=b
 | [],[],_=>rfl
 | i::a,j::b,h=>by
  unfold UH at h;split at h
  ·rename_i hb;rw[Id.beq_iff.1 hb,N5 h]
  ·cases h
 | [],_::_,h=>by cases h
 | _::_,[],h=>by cases h
def ABh:IntKind→IntKind→Bool:=fun a b=>decide (a=b)
def eqZ:Int→Int→Bool
 | .ofNat a,.ofNat b=>Nat.beq a b
 | .negSucc a,.negSucc b=>Nat.beq a b
 | _,_=>false
theorem uV {a b:Int}(h:eqZ a b=true):a=b:=by
 cases a<;>cases b<;>simp only[eqZ]at h
 ·simp_all
 ·cases h
 ·cases h
 simp_all
def eqU:List UInt8→List UInt8→Bool
 | [],[]=>true
 | a::l,b::m=>(match Nat.beq a.toNat b.toNat with
  | true=>eqU l m
  | false=>false)
 | _,_=>false
theorem kV:∀{a b:List UInt8},eqU a b=true→a=b
 | [],[],_=>rfl
 | a::l,b::m,h=>by
  unfold eqU at h;split at h
  ·rename_i hb;rw[UInt8.toNat_inj.1 (Nat.eq_of_beq_eq_true hb),kV h]
  ·cases h
 | [],_::_,h=>by cases h
 | _::_,[],h=>by cases h
theorem oX {a b:ByteArray}(h:eqU a.data.toList b.data.toList=true):a=b:=by
 obtain⟨a⟩:=a;obtain⟨b⟩:=b;rw[show a=b from Array.ext' (kV h)]
def DI (b:Bool) (x:Option (List Lf)):Option (List Lf):=match b with
 | true=>x
 | false=>none
theorem Ar {b:Bool}{x:Option (List Lf)}{l:List Lf}(h:DI b x=some l):b=true∧x=some l:=by
 cases b
 ·cases h
 ·exact⟨rfl,h⟩
def kW:List CV→Option (List D)
 | []=>some []
 | .d x::r=>(match kW r with
  | some l=>some (x::l)
  | none=>none)
 | _::_=>none
theorem N6:∀l:List D,kW (l.map CV.d)=some l
 | []=>rfl
 | x::l=>by show (match kW (l.map CV.d)with | some l=>some (x::l) | none=>none)=_;rw[N6 l]
end
end Go.AM
namespace Go.AM
open Go Go.RowKit
section
variable {γ:Type}{r:γ}
def Ip {α β:Type}:List α→List β→List (α×β)
 | a::l,b::m=>(a,b)::Ip l m
 | _,_=>[]
inductive Ty where
 | I
 | B
 | S
 | L
def Xq (ρ:Type):List Ty→Type
 | []=>Option ρ
 | .I::l=>Int→Xq ρ l
 | .B::l=>Bool→Xq ρ l
 | .S::l=>ByteArray→Xq ρ l
 | .L::l=>List D→Xq ρ l
def WM:(l:List Ty)→Xq γ l→List Lf→Option γ
 | [],x,[]=>x
 | .I::l,f,.I z::r=>WM l (f z) r
 | .B::l,f,.B z::r=>WM l (f z) r
 | .S::l,f,.S z::r=>WM l (f z) r
 | .L::l,f,.L z::r=>WM l (f z) r
 | _,_,_=>none
def Hi:(l:List Ty)→(List Lf→Option γ)→Xq γ l
 | [],f=>f []
 | .I::l,f=>fun z=>Hi l fun r=>f (.I z::r)
 | .B::l,f=>fun z=>Hi l fun r=>f (.B z::r)
 | .S::l,f=>fun z=>Hi l fun r=>f (.S z::r)
 | .L::l,f=>fun z=>Hi l fun r=>f (.L z::r)
theorem EB:∀{l:List Ty}{f:List Lf→Option γ}{v:List Lf},WM l (Hi l f) v=some r→f v=some r
 | [],f,[],h=>h
 | .I::l,f,.I z::v,h=>EB (l:=l) (f:=fun r=>f (.I z::r)) (v:=v) h
 | .B::l,f,.B z::v,h=>EB (l:=l) (f:=fun r=>f (.B z::r)) (v:=v) h
 | .S::l,f,.S z::v,h=>EB (l:=l) (f:=fun r=>f (.S z::r)) (v:=v) h
 | .L::l,f,.L z::v,h=>EB (l:=l) (f:=fun r=>f (.L z::r)) (v:=v) h
 | [],_,_::_,h=>by cases h
 | .I::_,_,[],h=>by cases h
 | .B::_,_,[],h=>by cases h
 | .S::_,_,[],h=>by cases h
 | .L::_,_,[],h=>by cases h
 | .I::_,_,.B _::_,h=>by cases h
 | .I::_,_,.S _::_,h=>by cases h
 | .I::_,_,.L _::_,h=>by cases h
 | .B::_,_,.I _::_,h=>by cases h
 | .B::_,_,.S _::_,h=>by cases h
 | .B::_,_,.L _::_,h=>by cases h
 | .S::_,_,.I _::_,h=>by cases h
 | .S::_,_,.B _::_,h=>by cases h
 | .S::_,_,.L _::_,h=>by cases h
 | .L::_,_,.I _::_,h=>by cases h
 | .L::_,_,.B _::_,h=>by cases h
 | .L::_,_,.S _::_,h=>by cases h
class Res (ρ:Type) where
 pack:ρ→List Lf
 unp:List Lf→Option (ρ×List Lf)
 law:∀{l p q},unp l=some (p,q)→l=pack p++q
instance:Res Unit:=⟨fun _=>[],fun l=>some ((),l),fun h=>by cases h;rfl⟩
instance:Res Int:=⟨fun z=>[.I z],fun l=>match l with | .I z::q=>some (z,q) | _=>none,fun h=>by split at h<;>cases h;rfl⟩
instance:Res Bool:=⟨fun z=>[.B z],fun l=>match l with | .B z::q=>some (z,q) | _=>none,fun h=>by split at h<;>cases h;rfl⟩
instance:Res ByteArray:=⟨fun z=>[.S z],fun l=>match l with | .S z::q=>some (z,q) | _=>none,fun h=>by split at h<;>cases h;rfl⟩
instance:Res (List D):=⟨fun z=>[.L z],fun l=>match l with | .L z::q=>some (z,q) | _=>none,fun h=>by split at h<;>cases h;rfl⟩
instance {α β:Type} [Res α] [Res β]:Res (α×β):=⟨fun p=>Res.pack p.1++Res.pack p.2,fun l=>match (Res.unp l:Option (α×List Lf))with
  | some (a,l)=>(match (Res.unp l:Option (β×List Lf))with
    | some (b,l)=>some ((a,b),l)
    | none=>none)
  | none=>none,fun h=>by
    split at h
    · rename_i ha
      split at h
      · rename_i hb
        cases h
        rw[Res.law ha,Res.law hb,List.append_assoc]
      · cases h
    · cases h⟩
def oY (ρ:Type) [Res ρ] (l:List Lf):Option ρ:=match (Res.unp l:Option (ρ×List Lf))with
 | some (p,[])=>some p
 | _=>none
theorem Pz {ρ:Type} [Res ρ] {l:List Lf}{p:ρ}(h:oY ρ l=some p):l=Res.pack p:=by
 unfold oY at h;split at h
 ·rename_i hu;cases h
  rw[Res.law hu,List.append_nil]
 ·cases h
theorem N7 {l:List (Id×AD)}:∀{is:List Id}{os:List AD},D1 (AJ l) is=some os→Lk l is=some (Ip is os)
 | [],os,h=>by cases h;rfl
 | i::is,os,h=>by
  unfold D1 at h;split at h
  ·rename_i o ho;split at h
   ·rename_i r' hr;cases h
    unfold Lk;rw[ho,N7 hr];rfl
   ·cases h
  ·cases h
theorem P2 (l:List (Nat×AV)):∀ks:List Nat,HS l ks=Ip ks (ks.map (AQ l))
 | []=>rfl
 | k::ks=>by show (k,AQ l k)::HS l ks=(k,AQ l k)::Ip ks (ks.map (AQ l));rw[P2 l ks]
def Y7:List AV→Option (List V1)
 | []=>some []
 | .v x::l=>(match Y7 l with
  | some m=>some (x::m)
  | none=>none)
 | _::_=>none
theorem Rd:∀l:List V1,Y7 (l.map AV.v)=some l
 | []=>rfl
 | x::l=>by show (match Y7 (l.map AV.v)with | some m=>some (x::m) | none=>none)=_;rw[Rd l]
def Y8:(l:List Ty)→Xq γ l→(List Lf→γ→Prop)→Prop
 | [],x,P=>∀p,x=some p→P [] p
 | .I::l,f,P=>∀z,Y8 l (f z) fun v p=>P (.I z::v) p
 | .B::l,f,P=>∀z,Y8 l (f z) fun v p=>P (.B z::v) p
 | .S::l,f,P=>∀z,Y8 l (f z) fun v p=>P (.S z::v) p
 | .L::l,f,P=>∀z,Y8 l (f z) fun v p=>P (.L z::v) p
theorem KH:∀{l:List Ty}{f:Xq γ l}{P:List Lf→γ→Prop}{v:List Lf}{p:γ},Y8 l f P→WM l f v=some p→P v p
 | [],_,_,[],_,h,e=>h _ e
 | .I::l,f,P,.I z::v,_,h,e=>KH (l:=l) (f:=f z) (P:=fun v p=>P (.I z::v) p) (v:=v) (h z) e
 | .B::l,f,P,.B z::v,_,h,e=>KH (l:=l) (f:=f z) (P:=fun v p=>P (.B z::v) p) (v:=v) (h z) e
 | .S::l,f,P,.S z::v,_,h,e=>KH (l:=l) (f:=f z) (P:=fun v p=>P (.S z::v) p) (v:=v) (h z) e
 | .L::l,f,P,.L z::v,_,h,e=>KH (l:=l) (f:=f z) (P:=fun v p=>P (.L z::v) p) (v:=v) (h z) e
 | [],_,_,_::_,_,_,h=>by cases h
 | .I::_,_,_,[],_,_,h=>by cases h
 | .B::_,_,_,[],_,_,h=>by cases h
 | .S::_,_,_,[],_,_,h=>by cases h
 | .L::_,_,_,[],_,_,h=>by cases h
 | .I::_,_,_,.B _::_,_,_,h=>by cases h
 | .I::_,_,_,.S _::_,_,_,h=>by cases h
 | .I::_,_,_,.L _::_,_,_,h=>by cases h
 | .B::_,_,_,.I _::_,_,_,h=>by cases h
 | .B::_,_,_,.S _::_,_,_,h=>by cases h
 | .B::_,_,_,.L _::_,_,_,h=>by cases h
 | .S::_,_,_,.I _::_,_,_,h=>by cases h
 | .S::_,_,_,.B _::_,_,_,h=>by cases h
 | .S::_,_,_,.L _::_,_,_,h=>by cases h
 | .L::_,_,_,.I _::_,_,_,h=>by cases h
 | .L::_,_,_,.B _::_,_,_,h=>by cases h
 | .L::_,_,_,.S _::_,_,_,h=>by cases h
def P3 (f:Func):Code:=match f.body with
 | some c=>c
 | none=>.skip
def Iv:(l:List Ty)→Xq γ l
 | []=>none
 | .I::l=>fun _=>Iv l
 | .B::l=>fun _=>Iv l
 | .S::l=>fun _=>Iv l
 | .L::l=>fun _=>Iv l
theorem UI:∀{l:List Ty}{v:List Lf},WM l (Iv (γ:=γ) l) v≠some r
 | l,v,h=>by
  have:Iv (γ:=γ) l=Hi l fun _=>none:=by
   clear h
   induction l with
   | nil=>rfl
   | cons t l ih=>cases t<;>(funext z;exact ih)
  rw[this]at h;cases EB h
theorem Xr:∀{l:List AV}{xs:List V1},Y7 l=some xs→xs.length=l.length
 | [],xs,h=>by cases h;rfl
 | .v x::l,xs,h=>by
  unfold Y7 at h;split at h
  ·rename_i m hm;cases h;simp[Xr hm]
  ·cases h
end
end Go.AM
namespace Go.AM
open Go Go.RowKit
noncomputable section
variable {γ:Type}{r:γ}
inductive Sj where
 | int (k:IntKind)
 | bool
 | str
 | list (ag:Bool) (sz:Nat)
 | tl (ag:Bool) (sz:Nat)
 | ci (k:IntKind) (z:Int)
 | cb (b:Bool)
 | cs (s:ByteArray)
 | el (ag:Bool) (sz:Nat)
 | nils (ag:Bool) (sz:Nat)
 | nilp
 | nilm
 | nilf
 | un
 | ptr (i:Id) (o:Nat)
 | ow (i:Id)
 | fn (f:Nat) (cap:List Id)
 | bm (f:Nat) (i:Id)
 | fb (i:Id)
inductive mT where
 | p (i:Id)
 | h
 | d (s:Sj)
inductive Hj where
 | one (s:Sj)
 | agg (l:List Sj)
 | mix (l:List Sj)
 | fz (f:Nat) (l:List mT)
 | rp (l:List Sj)
 | df (f:Nat) (l:List mT)
inductive Iw where
 | c (l:List Sj)
 | t (k:Kd) (ag:Bool) (sz:Nat)
 | gone
 | te (k:Kd) (ag:Bool) (sz:Nat)
 | n (f:Nat) (l:List mT)
abbrev Sj.z:Sj:=.int .i64
abbrev Sj.y:Sj:=.int .u8
abbrev Sj.k (z:Int):Sj:=.ci .i64 z
abbrev Sj.q (n:Nat):Sj:=.list true n
abbrev Sj.f (n:Nat):Sj:=.list false n
abbrev Hj.z:Hj:=.one .z
abbrev Hj.y:Hj:=.one .y
abbrev Hj.b:Hj:=.one .bool
abbrev Hj.s:Hj:=.one .str
abbrev Hj.k (z:Int):Hj:=.one (.k z)
abbrev Hj.q (n:Nat):Hj:=.one (.q n)
abbrev Hj.f (n:Nat):Hj:=.one (.f n)
abbrev Hj.p (i:Id) (n:Nat):Hj:=.one (.ptr i n)
abbrev Hj.w (i:Id):Hj:=.one (.ow i)
abbrev Iw.l (ag:Bool) (sz:Nat):Iw:=.t .row ag sz
abbrev Id.e (n:Nat):Id:=.ext n
abbrev Id.o (n:Nat):Id:=.loc n
abbrev Sj.w (n:Nat):Sj:=.ow (.ext n)
abbrev Sj.x (n:Nat):Sj:=.ow (.loc n)
abbrev Sj.a (n:Nat):Sj:=.ptr (.ext n) 0
abbrev Sj.s:Sj:=.str
abbrev Hj.u (n:Nat):Hj:=.one (.ptr (.loc n) 0)
abbrev Hj.v (n:Nat):Hj:=.one (.ptr (.ext n) 0)
abbrev Iw.m17:Iw:=.t (.fmap true) true 17
abbrev Iw.m2:Iw:=.t (.fmap true) true 2
abbrev Iw.i2:Iw:=.t (.fmap false) true 2
abbrev Iw.l4:Iw:=.l true 4
abbrev Iw.l16:Iw:=.l true 16
abbrev Iw.l2:Iw:=.l true 2
abbrev Iw.l9:Iw:=.l true 9
abbrev Iw.f1:Iw:=.l false 1
abbrev Iw.o:Iw:=.gone
def uW:Kd→Kd→Bool
 | .row,.row=>true
 | .flat,.flat=>true
 | .box,.box=>true
 | .map,.map=>true
 | .fmap a,.fmap b=>a==b
 | _,_=>false
theorem Xs {a b:Kd}(h:uW a b=true):a=b:=by
 cases a<;>cases b<;>first | rfl | (cases h;done) | (rw[eq_of_beq (show (_==_)=true from h)])
def Y9:Sj→CV→Option (List Lf)
 | .int k,.d (.int k' z)=>DI (ABh k k') (some [.I z])
 | .bool,.d (.bool b)=>some [.B b]
 | .str,.d (.str s)=>some [.S s]
 | .list ag sz,.d (.list ag' sz' l)=>DI (ag==ag') (DI (Nat.beq sz sz') (some [.L l]))
 | .tl ag sz,.tl ag' sz' l=>DI (ag==ag') (DI (Nat.beq sz sz') (some [.L l]))
 | .ci k z,.d (.int k' z')=>DI (ABh k k') (DI (eqZ z z') (some []))
 | .cb b,.d (.bool b')=>DI (b==b') (some [])
 | .cs s,.d (.str s')=>DI (eqU s.data.toList s'.data.toList) (some [])
 | .el ag sz,.d (.list ag' sz' [])=>DI (ag==ag') (DI (Nat.beq sz sz') (some []))
 | .nils ag sz,.nils ag' sz'=>DI (ag==ag') (DI (Nat.beq sz sz') (some []))
 | .nilp,.nilp=>some []
 | .nilm,.nilm=>some []
 | .nilf,.nilf=>some []
 | .un,.un=>some []
 | .ptr i o,.ptr i' o'=>DI (Id.beq i i') (DI (Nat.beq o o') (some []))
 | .ow i,.ow i'=>DI (Id.beq i i') (some [])
 | .fn f c,.fn f' c'=>DI (Nat.beq f f') (DI (UH c c') (some []))
 | .bm f i,.bm f' i'=>DI (Nat.beq f f') (DI (Id.beq i i') (some []))
 | .fb i,.fb i'=>DI (Id.beq i i') (some [])
 | _,_=>none
def oZ:Sj→List Lf→Option (CV×List Lf)
 | .int k,.I z::r=>some (.d (.int k z),r)
 | .bool,.B b::r=>some (.d (.bool b),r)
 | .str,.S s::r=>some (.d (.str s),r)
 | .list ag sz,.L l::r=>some (.d (.list ag sz l),r)
 | .tl ag sz,.L l::r=>some (.tl ag sz l,r)
 | .ci k z,r=>some (.d (.int k z),r)
 | .cb b,r=>some (.d (.bool b),r)
 | .cs s,r=>some (.d (.str s),r)
 | .el ag sz,r=>some (.d (.list ag sz []),r)
 | .nils ag sz,r=>some (.nils ag sz,r)
 | .nilp,r=>some (.nilp,r)
 | .nilm,r=>some (.nilm,r)
 | .nilf,r=>some (.nilf,r)
 | .un,r=>some (.un,r)
 | .ptr i o,r=>some (.ptr i o,r)
 | .ow i,r=>some (.ow i,r)
 | .fn f c,r=>some (.fn f c,r)
 | .bm f i,r=>some (.bm f i,r)
 | .fb i,r=>some (.fb i,r)
 | _,_=>none
theorem KI {s:Sj}{c:CV}{l:List Lf}(h:Y9 s c=some l) (rest:List Lf):oZ s (l++rest)=some (c,rest):=by
 unfold Y9 at h;split at h
 ·obtain⟨h1,h⟩:=Ar h;cases h
  rw[show _=_ from of_decide_eq_true h1];rfl
 ·cases h;rfl
 ·cases h;rfl
 ·obtain⟨h1,h⟩:=Ar h;obtain⟨h2,h⟩:=Ar h;cases h
  rw[eq_of_beq h1,Nat.eq_of_beq_eq_true h2];rfl
 ·obtain⟨h1,h⟩:=Ar h;obtain⟨h2,h⟩:=Ar h;cases h
  rw[eq_of_beq h1,Nat.eq_of_beq_eq_true h2];rfl
 ·obtain⟨h1,h⟩:=Ar h;obtain⟨h2,h⟩:=Ar h;cases h
  rw[show _=_ from of_decide_eq_true h1,uV h2];rfl
 ·obtain⟨h1,h⟩:=Ar h;cases h
  rw[eq_of_beq h1];rfl
 ·obtain⟨h1,h⟩:=Ar h;cases h
  rw[oX h1];rfl
 ·obtain⟨h1,h⟩:=Ar h;obtain⟨h2,h⟩:=Ar h;cases h
  rw[eq_of_beq h1,Nat.eq_of_beq_eq_true h2];rfl
 ·obtain⟨h1,h⟩:=Ar h;obtain⟨h2,h⟩:=Ar h;cases h
  rw[eq_of_beq h1,Nat.eq_of_beq_eq_true h2];rfl
 ·cases h;rfl
 ·cases h;rfl
 ·cases h;rfl
 ·cases h;rfl
 ·obtain⟨h1,h⟩:=Ar h;obtain⟨h2,h⟩:=Ar h;cases h
  rw[Id.beq_iff.1 h1,Nat.eq_of_beq_eq_true h2];rfl
 ·obtain⟨h1,h⟩:=Ar h;cases h
  rw[Id.beq_iff.1 h1];rfl
 ·obtain⟨h1,h⟩:=Ar h;obtain⟨h2,h⟩:=Ar h;cases h
  rw[Nat.eq_of_beq_eq_true h1,N5 h2];rfl
 ·obtain⟨h1,h⟩:=Ar h;obtain⟨h2,h⟩:=Ar h;cases h
  rw[Nat.eq_of_beq_eq_true h1,Id.beq_iff.1 h2];rfl
 ·obtain⟨h1,h⟩:=Ar h;cases h
  rw[Id.beq_iff.1 h1];rfl
 ·cases h
def uX:mT→FC→Option (List Lf)
 | .p i,.p j=>DI (Id.beq i j) (some [])
 | .h,.h=>some []
 | .d s,.d x=>Y9 s (.d x)
 | _,_=>none
def uY:mT→List Lf→Option (FC×List Lf)
 | .p i,r=>some (.p i,r)
 | .h,r=>some (.h,r)
 | .d s,r=>(match oZ s r with
  | some (.d x,r)=>some (.d x,r)
  | _=>none)
theorem kX {s:mT}{c:FC}{l:List Lf}(h:uX s c=some l) (rest:List Lf):uY s (l++rest)=some (c,rest):=by
 unfold uX at h;split at h
 ·obtain⟨h1,h⟩:=Ar h;cases h
  rw[Id.beq_iff.1 h1];rfl
 ·cases h;rfl
 ·unfold uY;simp only[];rw[KI h]
 ·cases h
def P4:List mT→List FC→Option (List Lf)
 | [],[]=>some []
 | s::ss,c::cs=>(match uX s c with
  | some l=>(match P4 ss cs with
   | some m=>some (l++m)
   | none=>none)
  | none=>none)
 | _,_=>none
def P5:List mT→List Lf→Option (List FC×List Lf)
 | [],r=>some ([],r)
 | s::ss,r=>(match uY s r with
  | some (c,r)=>(match P5 ss r with
   | some (cs,r)=>some (c::cs,r)
   | none=>none)
  | none=>none)
theorem Ij:∀{s:List mT}{c:List FC}{l:List Lf},P4 s c=some l→∀rest,P5 s (l++rest)=some (c,rest)
 | [],[],l,h,rest=>by cases h;rfl
 | s::ss,c::cs,l,h,rest=>by
  unfold P4 at h;split at h
  ·rename_i a ha;split at h
   ·rename_i b hb;cases h
    unfold P5;rw[List.append_assoc,kX ha];simp only[];rw[Ij hb]
   ·cases h
  ·cases h
 | [],_::_,_,h,_=>by cases h
 | _::_,[],_,h,_=>by cases h
def JR:List Sj→List CV→Option (List Lf)
 | [],[]=>some []
 | s::ss,c::cs=>(match Y9 s c with
  | some l=>(match JR ss cs with
   | some m=>some (l++m)
   | none=>none)
  | none=>none)
 | _,_=>none
def JS:List Sj→List Lf→Option (List CV×List Lf)
 | [],r=>some ([],r)
 | s::ss,r=>(match oZ s r with
  | some (c,r)=>(match JS ss r with
   | some (cs,r)=>some (c::cs,r)
   | none=>none)
  | none=>none)
theorem GL:∀{s:List Sj}{c:List CV}{l:List Lf},JR s c=some l→∀rest,JS s (l++rest)=some (c,rest)
 | [],[],l,h,rest=>by cases h;rfl
 | s::ss,c::cs,l,h,rest=>by
  unfold JR at h;split at h
  ·rename_i a ha;split at h
   ·rename_i b hb;cases h
    unfold JS;rw[List.append_assoc,KI ha];simp only[];rw[GL hb]
   ·cases h
  ·cases h
 | [],_::_,_,h,_=>by cases h
 | _::_,[],_,h,_=>by cases h
def Xt:Hj→AV→Option (List Lf)
 | .one s,.v (.d (.agg _))=>none
 | .one s,.v (.d x)=>Y9 s (.d x)
 | .one s,.v (.c (.d _))=>none
 | .one s,.v (.c x)=>Y9 s x
 | .agg ss,.v (.d (.agg cs))=>JR ss (cs.map CV.d)
 | .mix ss,.v (.agg cs)=>JR ss cs
 | .fz f ss,.v (.c (.fz g cs))=>DI (Nat.beq f g) (P4 ss cs)
 | .rp ss,.v (.c (.rp cs))=>JR ss (cs.map CV.d)
 | .df f ss,.df g cs rows=>DI (Nat.beq f g) (match P4 ss cs with
  | some a=>some (a++[.L rows])
  | none=>none)
 | _,_=>none
def Ix:Hj→List Lf→Option (AV×List Lf)
 | .one s,r=>(match oZ s r with
  | some (.d x,r)=>some (.v (.d x),r)
  | some (c,r)=>some (.v (.c c),r)
  | none=>none)
 | .agg ss,r=>(match JS ss r with
  | some (cs,r)=>(match kW cs with
   | some ds=>some (.v (.d (.agg ds)),r)
   | none=>none)
  | none=>none)
 | .mix ss,r=>(match JS ss r with
  | some (cs,r)=>some (.v (.agg cs),r)
  | none=>none)
 | .fz f ss,r=>(match P5 ss r with
  | some (cs,r)=>some (.v (.c (.fz f cs)),r)
  | none=>none)
 | .rp ss,r=>(match JS ss r with
  | some (cs,r)=>(match kW cs with
   | some ds=>some (.v (.c (.rp ds)),r)
   | none=>none)
  | none=>none)
 | .df f ss,r=>(match P5 ss r with
  | some (cs,.L rows::r)=>some (.df f cs rows,r)
  | _=>none)
theorem P6 {s:Hj}{c:AV}{l:List Lf}(h:Xt s c=some l) (rest:List Lf):Ix s (l++rest)=some (c,rest):=by
 unfold Xt at h;split at h
 ·cases h
 ·unfold Ix;simp only[];rw[KI h]
 ·cases h
 ·rename_i x hx;unfold Ix;simp only[];rw[KI h];cases x<;>first | rfl | exact absurd rfl (hx _)
 ·unfold Ix;simp only[];rw[GL h];simp only[];rw[N6]
 ·unfold Ix;simp only[];rw[GL h]
 ·obtain⟨h1,h⟩:=Ar h;unfold Ix;simp only[];rw[Ij h,Nat.eq_of_beq_eq_true h1]
 ·unfold Ix;simp only[];rw[GL h];simp only[];rw[N6]
 ·obtain⟨h1,h⟩:=Ar h;split at h
  ·rename_i a ha;cases h
   unfold Ix;simp only[];rw[List.append_assoc,Ij ha,Nat.eq_of_beq_eq_true h1];rfl
  ·cases h
 ·cases h
def LO:List Hj→List AV→Option (List Lf)
 | [],[]=>some []
 | s::ss,c::cs=>(match Xt s c with
  | some l=>(match LO ss cs with
   | some m=>some (l++m)
   | none=>none)
  | none=>none)
 | _,_=>none
def Dn:List Hj→List Lf→Option (List AV×List Lf)
 | [],r=>some ([],r)
 | s::ss,r=>(match Ix s r with
  | some (c,r)=>(match Dn ss r with
   | some (cs,r)=>some (c::cs,r)
   | none=>none)
  | none=>none)
theorem FA:∀{s:List Hj}{c:List AV}{l:List Lf},LO s c=some l→∀rest,Dn s (l++rest)=some (c,rest)
 | [],[],l,h,rest=>by cases h;rfl
 | s::ss,c::cs,l,h,rest=>by
  unfold LO at h;split at h
  ·rename_i a ha;split at h
   ·rename_i b hb;cases h
    unfold Dn;rw[List.append_assoc,P6 ha];simp only[];rw[FA hb]
   ·cases h
  ·cases h
 | [],_::_,_,h,_=>by cases h
 | _::_,[],_,h,_=>by cases h
def kY:Iw→AD→Option (List Lf)
 | .c s,.cells cs=>JR s cs
 | .t k ag sz,.tree k' ag' sz' rows none=>DI (uW k k') (DI (ag==ag') (DI (Nat.beq sz sz') (some [.L rows])))
 | .gone,.gone=>some []
 | .te k ag sz,.tree k' ag' sz' [] none=>DI (uW k k') (DI (ag==ag') (DI (Nat.beq sz sz') (some [])))
 | .n f ss,.fnl g cs rows=>DI (Nat.beq f g) (match P4 ss cs with
  | some a=>some (a++[.L rows])
  | none=>none)
 | _,_=>none
def Xu:Iw→List Lf→Option (AD×List Lf)
 | .c s,r=>(match JS s r with
  | some (cs,r)=>some (.cells cs,r)
  | none=>none)
 | .t k ag sz,.L l::r=>some (.tree k ag sz l none,r)
 | .gone,r=>some (.gone,r)
 | .te k ag sz,r=>some (.tree k ag sz [] none,r)
 | .n f ss,r=>(match P5 ss r with
  | some (cs,.L rows::r)=>some (.fnl f cs rows,r)
  | _=>none)
 | _,_=>none
theorem ZA {s:Iw}{c:AD}{l:List Lf}(h:kY s c=some l) (rest:List Lf):Xu s (l++rest)=some (c,rest):=by
 unfold kY at h;split at h
 ·unfold Xu;simp only[];rw[GL h]
 ·obtain⟨h1,h⟩:=Ar h;obtain⟨h2,h⟩:=Ar h;obtain⟨h3,h⟩:=Ar h;cases h
  rw[Xs h1,eq_of_beq h2,Nat.eq_of_beq_eq_true h3];rfl
 ·cases h;rfl
 ·obtain⟨h1,h⟩:=Ar h;obtain⟨h2,h⟩:=Ar h;obtain⟨h3,h⟩:=Ar h;cases h
  rw[Xs h1,eq_of_beq h2,Nat.eq_of_beq_eq_true h3];rfl
 ·obtain⟨h1,h⟩:=Ar h;split at h
  ·rename_i a ha;cases h
   unfold Xu;simp only[];rw[List.append_assoc,Ij ha,Nat.eq_of_beq_eq_true h1];rfl
  ·cases h
 ·cases h
def Gp:List Iw→List AD→Option (List Lf)
 | [],[]=>some []
 | s::ss,o::os=>(match kY s o with
  | some l=>(match Gp ss os with
   | some m=>some (l++m)
   | none=>none)
  | none=>none)
 | _,_=>none
def DP:List Iw→List Lf→Option (List AD×List Lf)
 | [],r=>some ([],r)
 | s::ss,r=>(match Xu s r with
  | some (c,r)=>(match DP ss r with
   | some (os,r)=>some (c::os,r)
   | none=>none)
  | none=>none)
theorem Cy:∀{s:List Iw}{c:List AD}{l:List Lf},Gp s c=some l→∀rest,DP s (l++rest)=some (c,rest)
 | [],[],l,h,rest=>by cases h;rfl
 | s::ss,c::cs,l,h,rest=>by
  unfold Gp at h;split at h
  ·rename_i a ha;split at h
   ·rename_i b hb;cases h
    unfold DP;rw[List.append_assoc,ZA ha];simp only[];rw[Cy hb]
   ·cases h
  ·cases h
 | [],_::_,_,h,_=>by cases h
 | _::_,[],_,h,_=>by cases h
def uZ:Sj→List Ty→List Ty
 | .int _,l=>.I::l
 | .bool,l=>.B::l
 | .str,l=>.S::l
 | .list _ _,l=>.L::l
 | .tl _ _,l=>.L::l
 | _,l=>l
def kZ:List mT→List Ty→List Ty
 | [],l=>l
 | s::ss,l=>(match s with
  | .d c=>uZ c (kZ ss l)
  | _=>kZ ss l)
def UJ:List Sj→List Ty→List Ty
 | [],l=>l
 | s::ss,l=>uZ s (UJ ss l)
def Hk:List Hj→List Ty→List Ty
 | [],l=>l
 | s::ss,l=>(match s with
  | .one c=>uZ c (Hk ss l)
  | .agg cs=>UJ cs (Hk ss l)
  | .mix cs=>UJ cs (Hk ss l)
  | .fz _ cs=>kZ cs (Hk ss l)
  | .rp cs=>UJ cs (Hk ss l)
  | .df _ cs=>kZ cs (.L::Hk ss l))
def Iy:List Iw→List Ty
 | []=>[]
 | s::ss=>(match s with
  | .c l=>UJ l (Iy ss)
  | .t _ _ _=>.L::Iy ss
  | .gone=>Iy ss
  | .te _ _ _=>Iy ss
  | .n _ cs=>kZ cs (.L::Iy ss))
class Rz (ρ:Type) where
 elim:{γ:Type}→ρ→(Nat→List Lf→Option γ)→Option γ
 make:Nat→List Lf→Option ρ
 alt:ρ→Nat
 pack:ρ→List Lf
 law:∀{γ:Type} {p:ρ} {k:Nat→List Lf→Option γ},elim p k=k (alt p) (pack p)
 law2:∀{i:Nat} {l:List Lf} {p:ρ},make i l=some p→alt p=i∧pack p=l
instance rzOf {ρ:Type} [Res ρ]:Rz ρ:=⟨fun p k=>k 0 (Res.pack p),fun i l=>match i with
 | 0=>oY ρ l
 | _+1=>none,fun _=>0,Res.pack,rfl,fun {i l p} h=>by
  cases i with
  | zero=>exact⟨rfl,(Pz h).symm⟩
  | succ i=>cases h⟩
instance rzSum {α β:Type} [Res α] [Rz β]:Rz (α ⊕ β):=⟨fun p k=>match p with
 | .inl a=>k 0 (Res.pack a)
 | .inr b=>Rz.elim b fun i l=>k (i+1) l,fun i l=>match i with
 | 0=>(match oY α l with
  | some a=>some (.inl a)
  | none=>none)
 | i+1=>(match Rz.make i l with
  | some b=>some (.inr b)
  | none=>none),fun p=>match p with
 | .inl _=>0
 | .inr b=>Rz.alt b+1,fun p=>match p with
 | .inl a=>Res.pack a
 | .inr b=>Rz.pack b,fun {γ p k}=>by
  cases p with
  | inl a=>rfl
  | inr b=>exact Rz.law,fun {i l p} h=>by
  cases i with
  | zero=>
   simp only[]at h;split at h
   ·rename_i a ha;cases h;exact⟨rfl,(Pz ha).symm⟩
   ·cases h
  | succ i=>
   simp only[]at h;split at h
   ·rename_i b hb;cases h
    obtain⟨h1,h2⟩:=Rz.law2 hb;exact⟨by show Rz.alt b+1=_;rw[h1],h2⟩
   ·cases h⟩
structure Br (γ:Type) where
 p:Nat
 ks:List Nat
 is:List Id
 nx:Nat
 sk:List Hj
 hk:List Iw
 app:Nat→Xq γ (Hk sk (Iy hk))
 pl:Pl
def Br.st (s:Br γ) (lv:List Lf):Option St:=
 match Dn s.sk lv with
 | some (vs,lv)=>(match DP s.hk lv with
  | some (os,_)=>some ⟨Ip s.ks vs,Ip s.is os,s.nx⟩
  | none=>none)
 | none=>none
def KJ (ks:List Nat) (is:List Id) (n:Nat) (l:List (Nat×Nat)) (σ:St):Option (List AV×List AD):=
 match D1 (AJ σ.heap) (is.map (Pg l))with
 | none=>none
 | some os=>BC (UH ((is.map (Pg l)).map (DU l)) is)<| BC (Bd (uJ (KA l n)) (ks.map (AQ σ.slots)))<| BC (Bd (fun x:Id×AD=>match KA l n x.1 with | true=>Nb (KA l n) x.2 | false=>false) (Ip (is.map (Pg l)) os))<|
   some ((ks.map (AQ σ.slots)).map (AV.A0 (DU l)),os.map (AD.A0 (DU l)))
theorem P7 (l:List (Nat×Nat)):∀(ks:List Nat) (vs:List AV),Yn l (Ip ks vs)=Ip ks (vs.map (AV.A0 (DU l)))
 | [],_=>rfl
 | _::_,[]=>rfl
 | k::ks,v::vs=>by show (k,v.A0 (DU l))::Yn l (Ip ks vs)=_;rw[P7 l ks vs];rfl
theorem P8 (l:List (Nat×Nat)):∀(ks:List Id) (vs:List AD),O2 l (Ip ks vs)=Ip (ks.map (DU l)) (vs.map (AD.A0 (DU l)))
 | [],_=>rfl
 | _::_,[]=>rfl
 | k::ks,v::vs=>by show (DU l k,v.A0 (DU l))::O2 l (Ip ks vs)=_;rw[P8 l ks vs];rfl
theorem UK {p:AV→Bool}(l:List (Nat×AV)):∀ks:List Nat,Bd p (ks.map (AQ l))=true→Bd (fun x:Nat×AV=>p x.2) (Ip ks (ks.map (AQ l)))=true
 | [],_=>rfl
 | k::ks,h=>by
  unfold List.map Bd at h;split at h
  ·rename_i hk;show (match p (AQ l k)with | true=>_ | false=>_)=true
   rw[hk];exact UK l ks h
  ·cases h
section
variable {n:Nat}{σ:St}{os:List AD}
theorem N8 {ks:List Nat}{is:List Id}{l:List (Nat×Nat)}{vs:List AV}(h:KJ ks is n l σ=some (vs,os)):∃σ',BP σ σ'∧σ'=⟨Ip ks vs,Ip is os,n⟩:=by
 unfold KJ at h;split at h
 ·cases h
 ·rename_i os' ho;obtain⟨h0,h⟩:=AG h;obtain⟨h1,h⟩:=AG h;obtain⟨h2,h⟩:=AG h;cases h
  refine JL (K:=fun σ'=>σ'=_) (ks:=ks) (is:=is.map (Pg l)) (n:=n) (l:=l) ?_
  unfold TK;rw[N7 ho,P2];refine AA.2 ⟨UK _ _ h1,AA.2 ⟨h2,?_⟩⟩;rw[P7,P8,N5 h0]
def Br.run (s:Br γ) (n:Nat) (l:List (Nat×Nat)) (σ:St):Option (Option γ):=
 match KJ s.ks s.is s.nx l σ with
 | some (vs,os)=>(match LO s.sk vs with
  | some a=>(match Gp s.hk os with
   | some b=>some (WM _ (s.app n) (a++b))
   | none=>none)
  | none=>none)
 | none=>none
theorem Br.zL {s:Br γ}{l:List (Nat×Nat)}(h:s.run n l σ=some (some r)):∃lv σ',WM _ (s.app n) lv=some r∧s.st lv=some σ'∧BP σ σ':=by
 unfold Br.run at h;split at h
 ·rename_i vs os hk;split at h
  ·rename_i a ha;split at h
   ·rename_i b hb;obtain⟨σ',hw,rfl⟩:=N8 hk;refine⟨_,_,Option.some.inj h,?_,hw⟩;unfold Br.st;rw[FA ha];simp only[];rw[←List.append_nil b,Cy hb]
   ·cases h
  ·cases h
 ·cases h
def JT:List (Br γ)→Nat→Nat→List (Nat×Nat)→St→Option γ
 | [],_,_,_,_=>none
 | s::l,n,p,rn,σ=>(match Nat.beq s.p p with
  | true=>(match s.run n rn σ with
   | some x=>x
   | none=>JT l n p rn σ)
  | false=>JT l n p rn σ)
theorem QA:∀{l:List (Br γ)}{n p:Nat}{rn:List (Nat×Nat)}{σ:St},JT l n p rn σ=some r→∃s∈l,s.p=p∧s.run n rn σ=some (some r)
 | s::l,n,p,rn,σ,h=>by
  have rest:JT l n p rn σ=some r→∃s'∈s::l,s'.p=p∧s'.run n rn σ=some (some r):=fun h=>by
   obtain⟨s',h1,h2⟩:=QA h;grind
  unfold JT at h;split at h
  ·rename_i hb;split at h
   ·simp_all
   ·exact rest h
  ·exact rest h
 | [],_,_,_,_,h=>by cases h
def sJ:List (Br γ)→Nat→Bool
 | [],_=>false
 | s::l,p=>(match Nat.beq s.p p with
  | true=>true
  | false=>sJ l p)
def WN (ss:List (Br γ)) (n p:Nat) (tk:Tk) (σ:St):Option γ:=DG tk.gs σ fun σ'=>JT ss n p tk.l σ'
theorem ZB {ss:List (Br γ)}{p:Nat}{tk:Tk}(h:WN ss n p tk σ=some r):∃σ1,BP σ σ1∧∃s∈ss,s.p=p∧s.run n tk.l σ1=some (some r):=by
 obtain⟨σ1,hw,h⟩:=B9 (C7 (P:=fun σ'=>JT ss n p tk.l σ'=some r) (fun σ h=>h) h)
 exact⟨σ1,hw,QA h⟩
inductive AFu where
 | one (s:Hj)
 | tup (l:List Hj)
structure Fj where
 res:AFu
 post:List Iw
 new:List Iw
def UL (s:Fj) (x:U3):Option (List Lf):=
 match s.res,x.res with
 | .one a,.v y=>(match Xt a (.v y)with
  | some l=>(match Gp s.post x.post with
   | some m=>(match Gp s.new x.new with
    | some n=>some (l++(m++n))
    | none=>none)
   | none=>none)
  | none=>none)
 | .tup xs1,.t ys=>(match LO xs1 (ys.map AV.v)with
  | some l=>(match Gp s.post x.post with
   | some m=>(match Gp s.new x.new with
    | some n=>some (l++(m++n))
    | none=>none)
   | none=>none)
  | none=>none)
 | _,_=>none
def Iz (s:Fj) (lv:List Lf):Option U3:=
 match s.res with
 | .one a=>(match Ix a lv with
  | some (y,lv)=>(match DP s.post lv with
   | some (os,lv)=>(match DP s.new lv with
    | some (ns,_)=>some ⟨y,os,ns⟩
    | none=>none)
   | none=>none)
  | none=>none)
 | .tup xs1=>(match Dn xs1 lv with
  | some (ys,lv)=>(match Y7 ys with
   | some xs=>(match DP s.post lv with
    | some (os,lv)=>(match DP s.new lv with
     | some (ns,_)=>some ⟨.t xs,os,ns⟩
     | none=>none)
    | none=>none)
   | none=>none)
  | none=>none)
theorem ZC:∀{s:Fj}{x:U3}{l:List Lf},UL s x=some l→Iz s l=some x
 | ⟨.one a,ps,qs⟩,⟨.v y,post,new⟩,l,h=>by
  unfold UL at h;simp only[]at h;split at h
  ·rename_i l1 h1;split at h
   ·rename_i l2 h2;split at h
    ·rename_i l3 h3;cases h
     unfold Iz;simp only[];rw[P6 h1];simp only[];rw[Cy h2];simp only[];rw[←List.append_nil l3,Cy h3]
    ·cases h
   ·cases h
  ·cases h
 | ⟨.tup xs1,ps,qs⟩,⟨.t ys,post,new⟩,l,h=>by
  unfold UL at h;simp only[]at h;split at h
  ·rename_i l1 h1;split at h
   ·rename_i l2 h2;split at h
    ·rename_i l3 h3;cases h
     unfold Iz;simp only[];rw[FA h1];simp only[];rw[Rd];simp only[];rw[Cy h2];simp only[];rw[←List.append_nil l3,Cy h3]
    ·cases h
   ·cases h
  ·cases h
 | ⟨.one _,_,_⟩,⟨.t _,_,_⟩,_,h=>by cases h
 | ⟨.tup _,_,_⟩,⟨.v _,_,_⟩,_,h=>by cases h
 | ⟨.one _,_,_⟩,⟨.u,_,_⟩,_,h=>by cases h
 | ⟨.tup _,_,_⟩,⟨.u,_,_⟩,_,h=>by cases h
def KK:List Fj→Nat→Option Fj
 | [],_=>none
 | s::_,0=>some s
 | _::l,n+1=>KK l n
structure BD where
 f:FuncId
 args:List Hj
 pre:List Iw
 ret:List Fj
 ρ:Type
 inst:Rz ρ
 F:Nat→Xq ρ (Hk args (Iy pre))
def BD.Om (T:sA) (c:BD) (n:Nat):Prop:=∀lv p,WM _ (c.F n) lv=some p→∀xs1 pre rk ret l1 l2,Dn c.args lv=some (xs1,l1)→DP c.pre l1=some (pre,l2)→KK c.ret (c.inst.alt p)=some rk→Iz rk (c.inst.pack p)=some ret→∀xs,Y7 xs1=some xs→T c.f xs pre ret
abbrev BD.ok (P:Program) (I:Inv) (c:BD) (n:Nat):Prop:=c.Om (TrC P I) n
def FR:List BD→Nat→ZZ γ
 | [],_,_,_,_,_=>none
 | c::l,n,f,args,pre,k=>(match Nat.beq c.f f with
  | true=>(match LO c.args (args.map AV.v)with
   | some a=>(match Gp c.pre pre with
    | some b=>(match WM _ (c.F n) (a++b)with
     | some p=>c.inst.elim p fun i l=>(match KK c.ret i with
      | some rk=>(match Iz rk l with
       | some ret=>k i ret
       | none=>none)
      | none=>none)
     | none=>none)
    | none=>FR l n f args pre k)
   | none=>FR l n f args pre k)
  | false=>FR l n f args pre k)
theorem JU {T:sA}{n:Nat}:∀{l:List BD},(∀c∈l,c.Om T n)→(FR l n:ZZ γ).Om T
 | [],_=>fun _ _ _ _ _ h=>by cases h
 | c::l,hc=>fun f args pre k r h=>by
  have rest:=JU (T:=T) (n:=n) (l:=l) fun c' hc'=>hc c' (List.mem_cons_of_mem _ hc')
  unfold FR at h;split at h
  ·rename_i hf;split at h
   ·rename_i a ha;split at h
    ·rename_i b hb;split at h
     ·rename_i p hp;rw[c.inst.law]at h;split at h
      ·rename_i rk hrk;split at h
       ·rename_i ret hr;have e1:=FA ha b;have e2:=Cy hb [];rw[List.append_nil]at e2;have:=hc c (List.mem_cons_self ..) _ _ hp _ _ _ _ _ _ e1 e2 hrk hr args (Rd args);rw[Nat.eq_of_beq_eq_true hf]at this;exact⟨_,_,_,_,this,h⟩
       ·cases h
      ·cases h
     ·cases h
    ·exact rest f args pre k r h
   ·exact rest f args pre k r h
  ·exact rest f args pre k r h
theorem N9 {P:Program}{I:Inv}{c:BD}(h:Y8 _ (c.F n) fun lv p=>∀xs1 pre rk ret l1 l2,Dn c.args lv=some (xs1,l1)→DP c.pre l1=some (pre,l2)→KK c.ret (c.inst.alt p)=some rk→Iz rk (c.inst.pack p)=some ret→∀xs,Y7 xs1=some xs→C0 P I c.f xs pre ret.res ret.post ret.new):c.ok P I n:=fun _ _ e=>KH h e
def OA (ti:Types) (rs:List ResultVar) (np:Nat) (σ:St) (fin:U3→Option γ):Option γ:=
 match UF ti σ rs with
 | none=>none
 | some xs=>(match D1 (AJ σ.heap) (GK 0 np),D1 (AJ σ.heap) (D2 (Ck (AJ σ.heap) 100 (Cj xs++GK 0 np) []))with
  | some ps,some ns=>BC (nodupB (D2 (Ck (AJ σ.heap) 100 (Cj xs++GK 0 np) [])))<|
    BC (uJ (L3 (D2 (Ck (AJ σ.heap) 100 (Cj xs++GK 0 np) [])) σ.next) (XW xs))<| BC (Bd (Nb (L3 (D2 (Ck (AJ σ.heap) 100 (Cj xs++GK 0 np) [])) σ.next)) ps)<|
    BC (Bd (Nb (L3 (D2 (Ck (AJ σ.heap) 100 (Cj xs++GK 0 np) [])) σ.next)) ns)<|
    fin ⟨(XW xs).A0 (N4 (D2 (Ck (AJ σ.heap) 100 (Cj xs++GK 0 np) []))),ps.map (AD.A0 (N4 (D2 (Ck (AJ σ.heap) 100 (Cj xs++GK 0 np) [])))),ns.map (AD.A0 (N4 (D2 (Ck (AJ σ.heap) 100 (Cj xs++GK 0 np) []))))⟩
  | _,_=>none)
theorem Gq {f:{γ:Type}→CV→(D→List Id→Option γ)→Option γ}(hf:∀{γ:Type}{r:γ}(c:CV) (K:D→List Id→Option γ),f c K=some r→∃d is,K d is=some r∧∀{γ':Type}(K':D→List Id→Option γ') (r':γ'),K' d is=some r'→f c K'=some r'):
  ∀{l:List CV} {K:List D→List Id→Option γ},GG f l K=some r→∃d is,K d is=some r∧∀{γ':Type} (K':List D→List Id→Option γ') (r':γ'),K' d is=some r'→GG f l K'=some r'
 | [],K,e=>⟨[],[],e,fun K' r' h=>h⟩
 | c::l,K,e=>by
  obtain⟨d,is,e,h1⟩:=hf c _ e;obtain⟨ds,js,e,h2⟩:=Gq hf e;exact⟨d::ds,is++js,e,fun K' r' h=>h1 _ _ (h2 _ _ h)⟩
theorem KL {h:Heap}:∀{n:Nat}{γ:Type}{r:γ}(c:CV) (K:D→List Id→Option γ),CO h n c K=some r→∃d is,K d is=some r∧∀{γ':Type}(K':D→List Id→Option γ') (r':γ'),K' d is=some r'→CO h n c K'=some r'
 | 0,_,_,_,_,e=>by cases e
 | n+1,γ,r,c,K,e=>by
  unfold CO at e;split at e
  ·split at e
   ·cases e
   ·rename_i hc;exact⟨_,_,e,fun K' r' h=>by unfold CO;simp only[hc];exact h⟩
  ·exact⟨_,_,e,fun K' r' h=>h⟩
  ·split at e
   ·rename_i hc;exact⟨_,_,e,fun K' r' h=>by unfold CO;simp only[hc];exact h⟩
   ·cases e
  ·split at e
   ·rename_i hj;split at e
    ·rename_i hx;exact⟨_,_,e,fun K' r' h=>by unfold CO;simp_all⟩
    ·cases e
   ·cases e
  ·split at e
   ·split at e
    ·rename_i hj;obtain⟨d,is,e,h1⟩:=Gq (f:=fun {γ}=>CO h n) (fun c K e=>KL c K e) e
     exact⟨_,_,e,fun K' r' h=>by unfold CO;simp_all⟩
    ·cases e
   ·cases e
  ·cases e
theorem KM:∀{l:List Id}{h:Heap}{K:Heap→List Id→List (Id×AD)→Option γ},Dk h l K=some r→∃a b c,K a b c=some r∧∀{γ':Type}(K':Heap→List Id→List (Id×AD)→Option γ') (r':γ'),K' a b c=some r'→Dk h l K'=some r'
 | [],_,_,e=>⟨_,_,_,e,fun K' r' h=>h⟩
 | i::l,h,K,e=>by
  unfold Dk at e;split at e
  ·rename_i hi;obtain⟨h1,e⟩:=AG e;obtain⟨ds,is,e,h2⟩:=Gq (f:=fun {γ}=>CO h 3) (fun c K e=>KL c K e) e
   obtain⟨h3,e⟩:=AG e;obtain⟨h4,e⟩:=AG e;obtain⟨a,b,c,e,h5⟩:=KM (l:=l) e;refine⟨_,_,_,e,fun K' r' h'=>?_⟩
   unfold Dk;simp only[hi];rw[h1];refine h2 _ _ ?_;rw[h3,h4];exact h5 (fun h' rd wr=>K' h' (i::(is++rd)) ((i,_)::(Aj is++wr))) r' h'
  ·cases e
theorem DJ:∀{l:List Gh}{σ:St}{K:St→Option γ},DG l σ K=some r→∃σ1,K σ1=some r∧∀{γ':Type}(K':St→Option γ') (r':γ'),K' σ1=some r'→DG l σ K'=some r'
 | [],σ,_,e=>⟨σ,e,fun K' r' h=>h⟩
 | x::l,σ,K,e=>by
  unfold DG at e;split at e
  ·obtain⟨a,b,c,e,h1⟩:=KM e;obtain⟨σ1,e,h2⟩:=DJ e;exact⟨σ1,e,fun K' r' h=>by unfold DG;simp_all⟩
  ·obtain⟨g1,e⟩:=AG e;obtain⟨g2,e⟩:=AG e;obtain⟨σ1,e,h2⟩:=DJ e;exact⟨σ1,e,fun K' r' h=>by unfold DG;simp only[g1,g2];exact h2 K' r' h⟩
  ·obtain⟨g1,e⟩:=AG e;split at e
   ·rename_i hi;obtain⟨g2,e⟩:=AG e;obtain⟨σ1,e,h2⟩:=DJ e;exact⟨σ1,e,fun K' r' h=>by unfold DG;simp only[g1,hi,g2];exact h2 K' r' h⟩
   ·cases e
  ·split at e
   ·rename_i hi;split at e
    ·obtain⟨g2,e⟩:=AG e;obtain⟨σ1,e,h2⟩:=DJ e;exact⟨σ1,e,fun K' r' h=>by unfold DG;simp only[hi,g2];exact h2 K' r' h⟩
    ·cases e
   ·cases e
  ·split at e
   ·rename_i hi;obtain⟨σ1,e,h2⟩:=DJ e;exact⟨σ1,e,fun K' r' h=>by unfold DG;simp_all⟩
   ·cases e
  ·split at e
   ·rename_i hi;split at e
    ·split at e
     ·obtain⟨σ1,e,h2⟩:=DJ e;exact⟨σ1,e,fun K' r' h=>by unfold DG;simp_all⟩
     ·cases e
    ·cases e
   ·cases e
  ·split at e
   ·rename_i hi;split at e
    ·obtain⟨σ1,e,h2⟩:=DJ e;exact⟨σ1,e,fun K' r' h=>by unfold DG;simp_all⟩
    ·cases e
   ·cases e
  ·split at e
   ·rename_i hi;obtain⟨σ1,e,h2⟩:=DJ e;exact⟨σ1,e,fun K' r' h=>by unfold DG;simp_all⟩
   ·cases e
  ·split at e
   ·rename_i hi;obtain⟨g1,e⟩:=AG e;split at e
    ·rename_i hb;obtain⟨σ1,e,h2⟩:=DJ e;exact⟨σ1,e,fun K' r' h=>by unfold DG;simp only[hi,g1,hb];exact h2 K' r' h⟩
    ·cases e
   ·cases e
theorem pA {l:List Gh}{K:St→Option γ}(e:DG l σ K=some r):∃σ1,K σ1=some r∧∀P:St→Prop,P σ1→gh l σ P:=by
 obtain⟨σ1,e,h⟩:=DJ e;refine⟨σ1,e,fun P hP=>?_⟩
 classical
 exact C7 (K:=fun σ=>if P σ then some ()else none) (r:=()) (fun σ hσ=>by
  simp_all) (h _ _ (if_pos hP))
theorem LP {ti:Types}{rs:List ResultVar}{np:Nat}{σ0:St}{gs:List Gh}{fin:U3→Option γ}(hg:DG gs σ0 (fun σ=>OA ti rs np σ fin)=some r):∃res post new,fin ⟨res,post,new⟩=some r∧JI ti rs σ0 res post new:=by
 obtain⟨σ,e,hP⟩:=pA hg;unfold OA at e;split at e
 ·cases e
 ·rename_i xs hxs;generalize hm:Ck (AJ σ.heap) 100 (Cj xs++GK 0 np) []=m at e;split at e
  ·rename_i ps ns hp hn;obtain⟨h1,e⟩:=AG e;obtain⟨h2,e⟩:=AG e;obtain⟨h3,e⟩:=AG e;obtain⟨h4,e⟩:=AG e;exact⟨_,_,_,e,gs,hP _ (N3 hxs ⟨D2 m,h1,(VX (p:=L3 (D2 m) σ.next) (fun i hi=>Id.beq_iff.1 hi) h2).symm,LM hp h3,UG hn h4,LN _⟩)⟩
  ·cases e
def lA (ti:Types) (rs:List ResultVar) (np:Nat) (fin:U3→Option γ):Ra γ:=fun pl e σ=>match e with
 | .exit _=>none
 | .normal=>DG pl.take.gs σ fun σ=>OA ti rs np σ fin
 | .ret=>DG pl.take.gs σ fun σ=>OA ti rs np σ fin
structure Sw (P:Program) (ti:Types) where
 ds:(γ:Type)→Ds γ
 el:rU
 sok:TypeId→Bool
 hd:∀γ,(ds γ).ok
 hs:Sok P ti sok
def Re {P:Program}{ti:Types}(w:Sw P ti) (own:Bool) (cs:List BD) (ss:List (Br γ)) (cl:Bool) (n:Nat):EnvP γ:={ds:=w.ds γ,el:=w.el,own:=own,sok:=w.sok,call:=FR cs n,has:=sJ ss,rest:=WN ss n,cl:=cl}
def Rh (mk:Nat→List Lf→Option γ):List Fj→Nat→U3→Option γ
 | [],_,_=>none
 | s::l,i,x=>(match UL s x with
  | some v=>mk i v
  | none=>Rh mk l (i+1) x)
theorem QB {mk:Nat→List Lf→Option γ}:∀{l:List Fj}{i:Nat}{x:U3},Rh mk l i x=some r→∃j rk v,KK l j=some rk∧UL rk x=some v∧mk (i+j) v=some r
 | [],_,_,h=>by cases h
 | s::l,i,x,h=>by
  unfold Rh at h;split at h
  ·rename_i v hv;exact⟨0,s,v,rfl,hv,h⟩
  ·obtain⟨j,rk,v,h1,h2,h3⟩:=QB h;exact⟨j+1,rk,v,h1,h2,by grind⟩
def Eg (l:List D) (a:Option γ) (b:D→List D→Option γ):Option γ:=match l with
 | []=>a
 | x::l=>b x l
def lB (f:Nat) (cs:List FC) (s:Br γ) (n:Nat) (σ:St):Option γ:=
 match s.ks with
 | [t]=>BC (Nat.beq t DT)<| (match AQ σ.slots DT with
  | .df g cs' _=>BC (Nat.beq g f)<| BC (L1 cs' cs)<| (match s.run n [] σ with
   | some x=>x
   | none=>none)
  | _=>none)
 | _=>none
def FT (f:Nat) (cs:List FC):List (Br γ)→Nat→St→Option γ
 | [],_,_=>none
 | s::l,n,σ=>(match Nat.beq s.p 0 with
  | true=>lB f cs s n σ
  | false=>FT f cs l n σ)
theorem WO {ks:List Nat}{is:List Id}{l:List (Nat×Nat)}{vs:List AV}(h:KJ ks is n l σ=some (vs,os)):vs=(ks.map (AQ σ.slots)).map (AV.A0 (DU l)):=by
 unfold KJ at h;split at h
 ·cases h
 ·obtain⟨_,h⟩:=AG h;obtain⟨_,h⟩:=AG h;obtain⟨_,h⟩:=AG h;cases h
  rfl
theorem FC.YE:∀cs:List FC,cs.map (FC.A0 (DU []))=cs
 | []=>rfl
 | c::cs=>by
  rw[List.map_cons,FC.YE cs];cases c with
  | p i=>cases i<;>rfl
  | d x=>rfl
  | h=>rfl
theorem OB {f:Nat}{cs:List FC}{n:Nat}{σ:St}:∀{ss:List (Br γ)},FT f cs ss n σ=some r→∃s∈ss,s.p=0∧∃rows lv σ',AQ σ.slots DT= .df f cs rows∧WM _ (s.app n) lv=some r∧s.st lv=some σ'∧BP σ σ'∧AQ σ'.slots DT= .df f cs rows
 | [],h=>by cases h
 | s::l,h=>by
  unfold FT at h;split at h
  ·rename_i hb;refine⟨s,List.mem_cons_self ..,Nat.eq_of_beq_eq_true hb,?_⟩;unfold lB at h;split at h
   ·rename_i t ht;obtain⟨h1,h⟩:=AG h;split at h
    ·rename_i g cs' rows hd;obtain⟨h2,h⟩:=AG h;obtain⟨h3,h⟩:=AG h;split at h
     ·rename_i x hx;subst h;rw[Nat.eq_of_beq_eq_true h1]at ht;rw[Nat.eq_of_beq_eq_true h2,Hh h3]at hd;unfold Br.run at hx;split at hx
      ·rename_i vs os hk;split at hx
       ·rename_i a ha;split at hx
        ·rename_i b hb2;obtain⟨σ',hw,rfl⟩:=N8 hk;have hv:=WO hk;refine⟨rows,_,_,hd,Option.some.inj hx,?_,hw,?_⟩
         ·unfold Br.st;rw[FA ha];simp only[];rw[←List.append_nil b,Cy hb2]
         ·rw[ht]at hv ⊢;rw[hv];show AQ [(DT,(AQ σ.slots DT).A0 (DU []))] DT=_;rw[hd];show AQ [(DT,AV.df f (cs.map (FC.A0 (DU []))) rows)] DT=_;rw[FC.YE];rfl
        ·cases hx
       ·cases hx
      ·cases hx
     ·cases h
    ·cases h
   ·cases h
  ·obtain⟨s',h1,h2⟩:=OB h;grind
def Ri (ds:Ds γ) (call:ZZ γ) (ti:Types) (rs:List ResultVar) (np:Nat) (fin:U3→Option γ) (f:Nat) (cs:List FC) (lv:St→Option γ) (pl:Pl) (σ:St):Option γ:=
 match AQ σ.slots DT with
 | .df g cs' rows=>BC (Nat.beq g f)<| BC (L1 cs' cs)<| Eg rows (DG pl.take.gs σ fun σ=>OA ti rs np σ fin) fun x rows'=>ds (ABf f) x fun x=>
   KE call f ((fill cs x.cells).map YF) (Ck (AJ σ.heap) 100 (Cj ((fill cs x.cells).map YF)) []) σ.next (AJ σ.heap) .e fun _ _ wr=>lv ⟨(DT,.df f cs rows')::σ.slots,Cg σ.heap wr,σ.next+32⟩
 | _=>none
def kfY (ti:Types) (rs:List ResultVar) (np:Nat) (fin:U3→Option γ) (df:Option (Nat×List FC)) (ss:List (Br γ)) (n:Nat):Ra γ:=match df with
 | none=>lA ti rs np fin
 | some x=>fun _ e σ=>(match e with
  | .exit _=>none
  | .normal=>FT x.1 x.2 ss n σ
  | .ret=>FT x.1 x.2 ss n σ)
def goY {P:Program}{ti:Types}(w:Sw P ti) (own:Bool) (cs dc:List BD) (ss:List (Br γ)) (nt:Nat) (body:Code) (rs:List ResultVar) (np:Nat) (fin:U3→Option γ) (df:Option (Nat×List FC)) (n p:Nat) (pl:Pl) (σ:St):Option γ:=
 match df with
 | none=>Gm (Re w own cs ss false n) ti nt body (lA ti rs np fin) (Px 300 p) pl σ
 | some x=>(match Nat.beq p 0 with
  | true=>Ri (w.ds γ) (FR dc n) ti rs np fin x.1 x.2 (FT x.1 x.2 ss n) pl σ
  | false=>Gm (Re w own cs ss true n) ti nt body (kfY ti rs np fin (some x) ss n) (Px 300 p) pl σ)
def WQ (P:Program) (I:Inv):sA:=fun f args pre x=>TU P I f args pre fun a b c=>a=x.res∧b=x.post∧c=x.new
end
section
variable {P:Program}{I:Inv}{ti:Types}(w:Sw P ti) {own:Bool}{cs dc:List BD}{ss:List (Br γ)}{nt:Nat}{c:Code}{rs:List ResultVar}{np:Nat}{fin:U3→Option γ}{df:Option (Nat×List FC)}{Q:AV→List AD→List AD→Prop}{M:Aw}
def Br.ok (own:Bool) (cs dc:List BD) (ss:List (Br γ)) (nt:Nat) (body:Code) (rs:List ResultVar) (np:Nat) (fin:U3→Option γ) (df:Option (Nat×List FC)) (s:Br γ):Prop:=
 (∀lv r,WM _ (s.app 0) lv≠some r)∧(s.p=0∨Bm (Px 300 s.p)=s.p)∧∀n lv σ r,WM _ (s.app (n+1)) lv=some r→s.st lv=some σ→goY w own cs dc ss nt body rs np fin df n s.p s.pl σ=some r
def pB (M:Aw) (ti:Types) (rs:List ResultVar) (Q:AV→List AD→List AD→Prop) (df:Option (Nat×List FC)) (σ:St):Prop:=match df with
 | none=>∃res post new,Q res post new∧JI ti rs σ res post new
 | some x=>∃rows,E8 M ti rs Q x.1 x.2 rows σ∧AQ σ.slots DT= .df x.1 x.2 rows
theorem LQ {f:Nat}{cf:List FC}(hP:M.P=P) (hI:M.I=I) (hQ:∀a b c,fin ⟨a,b,c⟩=some r→Q a b c) (hs:∀s∈ss,s.ok w own cs dc ss nt c rs np fin (some (f,cf))):∀(n:Nat) (σ:St),(∀m,m≤n→∀d∈dc,d.Om (WQ P I) m)→FT f cf ss n σ=some r→∃rows,E8 M ti rs Q f cf rows σ∧AQ σ.slots DT= .df f cf rows
 | n,σ,hd,h=>by
  obtain⟨s,hm,h0,rows,lv,σ',g1,g2,g3,g4,g5⟩:=OB h;obtain⟨k1,_,k3⟩:=hs s hm;cases n with
  | zero=>simp_all
  | succ n=>
   refine⟨rows,E8.AMz g4 ?_,g1⟩;have e:=k3 n lv σ' r g2 g3;unfold goY at e;rw[h0]at e;replace e:Ri (w.ds γ) (FR dc n) ti rs np fin f cf (FT f cf ss n) s.pl σ'=some r:=e;unfold Ri at e;rw[g5]at e;simp only[]at e;obtain⟨_,e⟩:=AG e;obtain⟨_,e⟩:=AG e;cases rows with
   | nil=>
    obtain⟨res,post,new,e1,e2⟩:=LP e;exact⟨σ',BP.refl _,res,post,new,hQ _ _ _ e1,e2⟩
   | cons x rows'=>
    replace e:=w.hd γ _ _ _ _ e;obtain⟨targs,pre,res,post,new,p,q1,q2,q3,q4,q5,q6,q7,e⟩:=JP (JU (T:=WQ P I) (hd n (Nat.le_succ n))) e;obtain⟨rows2,e1,e2⟩:=LQ hP hI hQ hs n _ (fun m hm=>hd m (Nat.le_succ_of_le hm)) e
    have:rows2=rows':=by
     rw[Bf]at e2;grind
    subst this;refine⟨σ',BP.refl _,g5,_,targs,pre,_,by rw[hP,hI];exact q1,q2,q3,q4,q5,?_⟩
    grind
theorem pC {N:Nat}{pl:Pl}{σ0:St}(hP:M.P=P) (hI:M.I=I) (hcl:df.isSome=true→M.cl=true) (hc:∀m,m≤N→∀c∈cs,c.ok P I m) (hd:∀m,m≤N→∀d∈dc,d.Om (WQ P I) m) (hs:∀s∈ss,s.ok w own cs dc ss nt c rs np fin df)
  (hx:goY w own cs dc ss nt c rs np fin df N 1 pl σ0=some r) (hQ:∀a b c,fin ⟨a,b,c⟩=some r→Q a b c):
  exec M ti nt (BK ti M nt) c σ0 fun e σ=>match e with
   | .exit _=>False
   | .normal=>pB M ti rs Q df σ
   | .ret=>pB M ti rs Q df σ:=by
 have hx':Gm (Re w own cs ss df.isSome N) ti nt c (kfY ti rs np fin df ss N) [] pl σ0=some r:=by
  cases df<;>exact hx
 refine (Dm (M:=M) (N:=N) (E:=Re w own cs ss df.isSome) (Kf:=kfY ti rs np fin df ss) (body:=c) (ti:=ti) (nt:=nt) (r:=r) (fun m hm=>⟨w.hd γ,by rw[hP];exact w.hs,by rw[hP,hI];exact JU (hc m hm)⟩) (fun m h=>hcl h) (fun m hm wy tk σ e=>?_) c [] N (fun m=>kfY ti rs np fin df ss m) _ (Nat.le_refl _) (fun _ _=>rfl) (fun m p e σ hm h=>?_)).2 _ _ hx'
 ·replace e:WN ss m (Bm wy) tk σ=some r:=e;obtain⟨σ1,hw,s,hmem,hp,e1⟩:=ZB e;obtain⟨lv,σ',g1,g2,g3⟩:=Br.zL e1;obtain⟨k1,k2,k3⟩:=hs s hmem;have hpos:=Ih wy;have k2:Bm (Px 300 s.p)=s.p:=k2.resolve_left (by omega)
  cases m with
  | zero=>simp_all
  | succ m=>
   refine⟨m,σ',_,s.pl,Nat.lt_succ_self m,BP.trans hw g3,k2.trans hp,?_⟩;have:=k3 m lv σ' r g1 g2;unfold goY at this;cases df with
   | none=>exact this
   | some x=>
    have hz:Nat.beq s.p 0=false:=by
     cases hb:Nat.beq s.p 0 with
     | false=>rfl
     | true=>have:=Nat.eq_of_beq_eq_true hb;omega
    simp_all
 ·cases df with
  | none=>
   cases e with
   | exit id=>cases h
   | normal=>
    obtain⟨a,b,c,h1,h2⟩:=LP h;exact⟨a,b,c,hQ _ _ _ h1,h2⟩
   | ret=>
    obtain⟨a,b,c,h1,h2⟩:=LP h;exact⟨a,b,c,hQ _ _ _ h1,h2⟩
  | some x=>
   cases e with
   | exit id=>cases h
   | normal=>exact LQ w hP hI hQ hs m σ (fun k hk=>hd k (Nat.le_trans hk hm)) h
   | ret=>exact LQ w hP hI hQ hs m σ (fun k hk=>hd k (Nat.le_trans hk hm)) h
end
structure AH where
 f:FuncId
 fn:Func
 own:Bool
 args:List Hj
 pre:List Iw
 ret:List Fj
 ρ:Type
 inst:Rz ρ
 F:Nat→Xq ρ (Hk args (Iy pre))
 pl:Pl
 sites:List (Br ρ)
 /-- The closure that it defers; how that one is called. -/
 df:Option (Nat×List FC):=none
 dc:List BD:=[]
def AH.c (x:AH):BD:=⟨x.f,x.args,x.pre,x.ret,x.ρ,x.inst,x.F⟩
def AH.go {P:Program}{ti:Types}(w:Sw P ti) (x:AH) (cs:List BD) (n p:Nat) (pl:Pl) (σ:Option St):Option x.ρ:=
 match σ with
 | some σ=>goY w x.own cs x.dc x.sites x.fn.ntmps (P3 x.fn) x.fn.results.toList x.pre.length (Rh x.inst.make x.ret 0) x.df n p pl σ
 | none=>none
def WR (df:Option (Nat×List FC)) (l:List (Nat×AV)):List (Nat×AV):=match df with
 | none=>l
 | some x=>(DT,.df x.1 x.2 [])::l
def AH.st (x:AH) (lv:List Lf):Option St:=
 match Dn x.args lv with
 | some (xs1,l)=>(match Y7 xs1 with
  | some xs=>(match DP x.pre l with
   | some (os,_)=>some ⟨WR x.df (slotsOf xs 0),Bq os 0,0⟩
   | none=>none)
  | none=>none)
 | none=>none
def lC (γ:Type):List (Br γ)→Type
 | []=>Unit
 | s::l=>(Xq γ (Hk s.sk (Iy s.hk))×(Nat→Xq γ (Hk s.sk (Iy s.hk))))×lC γ l
def C8:(l:List (Br γ))→lC γ l
 | []=>()
 | s::l=>((s.app 0,fun n=>s.app (n+1)),C8 l)
def C9 (go:Nat→Nat→Pl→Option St→Option γ):(l:List (Br γ))→lC γ l
 | []=>()
 | s::l=>((Iv _,fun n=>Hi _ fun lv=>go n s.p s.pl (s.st lv)),C9 go l)
def AH.eqn {P:Program}{ti:Types}(w:Sw P ti) (x:AH) (cs:List BD):Prop:=
 C8 x.sites=C9 (AH.go w x cs) x.sites∧(x.F 0,fun n=>x.F (n+1))=(Iv _,fun n=>Hi _ fun lv=>AH.go w x cs n 1 x.pl (x.st lv))
def AH.AEh {P:Program}{ti:Types}(w:Sw P ti) (x:AH) (cs:List BD):Prop:=
 C8 x.sites=C9 (AH.go w x cs) x.sites∧x.F=fun n=>Hi _ fun lv=>AH.go w x cs n 1 x.pl (x.st lv)
theorem UM {go:Nat→Nat→Pl→Option St→Option γ}:∀{l:List (Br γ)},C8 l=C9 go l→∀s∈l,(s.app 0=Iv _∧(fun n=>s.app (n+1))=fun n=>Hi _ fun lv=>go n s.p s.pl (s.st lv))
 | s::l,h,t,ht=>by
  have h1:=congrArg (fun x:lC γ (s::l)=>x.1) h
  have h2:=congrArg (fun x:lC γ (s::l)=>x.2) h
  cases ht with
  | head=>exact⟨congrArg Prod.fst h1,congrArg Prod.snd h1⟩
  | tail _ ht=>exact UM h2 t ht
 | [],_,_,ht=>by cases ht
def AH.fits (P:Program) (x:AH):Bool:=
 (match x.fn.body with
 | some _=>true
 | none=>false)&&!(x.fn.name== "runtime.NumGoroutine")&&Nat.ble x.args.length x.fn.ntmps&&Bd (fun s:Br x.ρ=>Nat.beq s.p 0 || Nat.beq (Bm (Px 300 s.p)) s.p) x.sites&&(match x.df with
 | none=>true
 | some _=>Nat.ble x.fn.ntmps DT&&D8 (P3 x.fn))
theorem OC:∀{s:List Hj}{l:List Lf}{xs1:List AV}{q:List Lf},Dn s l=some (xs1,q)→xs1.length=s.length
 | [],l,xs1,q,h=>by cases h;rfl
 | s::ss,l,xs1,q,h=>by
  unfold Dn at h;split at h
  ·split at h
   ·rename_i h2;cases h;simp[OC h2]
   ·cases h
  ·cases h
section
variable {x:AH}{N:Nat}{lv:List Lf}{p:x.ρ}
theorem AH.tK {P:Program}{I:Inv}{ti:Types}(w:Sw P ti) {cs:List BD}(hf:P.funcs[x.f]?=some x.fn) (hx:x.fits P=true) (he:C8 x.sites=C9 (AH.go w x cs) x.sites) (hc:∀m,m≤N→∀c∈cs,c.ok P I m) (hd:∀m,m≤N→∀d∈x.dc,d.Om (WQ P I) m) (hp:AH.go w x cs N 1 x.pl (x.st lv)=some p)
  {xs1:List AV} {pre:List AD} {rk:Fj} {ret:U3} {l1 l2:List Lf} (e1:Dn x.args lv=some (xs1,l1)) (e2:DP x.pre l1=some (pre,l2)) (e6:KK x.ret (x.inst.alt p)=some rk) (e3:Iz rk (x.inst.pack p)=some ret) {xs:List V1} (e4:Y7 xs1=some xs):
  (x.fn.body=some (P3 x.fn)∧(x.fn.name== "runtime.NumGoroutine")=false∧Nat.ble xs.length x.fn.ntmps=true)∧∀M:Aw,M.P=P→M.I=I→(x.df.isSome=true→M.cl=true)→exec M ti x.fn.ntmps (BK ti M x.fn.ntmps) (P3 x.fn) ⟨WR x.df (slotsOf xs 0),Bq pre 0,0⟩ fun e σ=>match e with
   | .exit _=>False
   | .normal=>pB M ti x.fn.results.toList (fun a b c=>a=ret.res∧b=ret.post∧c=ret.new) x.df σ
   | .ret=>pB M ti x.fn.results.toList (fun a b c=>a=ret.res∧b=ret.post∧c=ret.new) x.df σ:=by
 unfold AH.fits at hx;simp only[Bool.and_eq_true,Bool.not_eq_true']at hx;obtain⟨⟨⟨⟨g1,g2⟩,g3⟩,g4⟩,_⟩:=hx
 obtain⟨c,hb⟩:∃c,x.fn.body=some c:=by
  grind
 have hbody:P3 x.fn=c:=by unfold P3;rw[hb]
 have hst:x.st lv=some ⟨WR x.df (slotsOf xs 0),Bq pre 0,0⟩:=by unfold AH.st;simp_all
 rw[hst]at hp;unfold AH.go at hp;simp only[]at hp;refine⟨⟨by rw[hbody];exact hb,g2,by rw[Xr e4,OC e1];exact g3⟩,fun M hP hI hcl=>pC w hP hI hcl hc hd (fun s hs=>?_) hp fun a b c h=>?_⟩
 ·obtain⟨k1,k2⟩:=UM he s hs;refine⟨fun lv r=>by rw[k1];exact UI,?_,fun n lv σ r q1 q2=>?_⟩
  ·have:=BE.1 g4 s hs;simp_all
  ·rw[show s.app (n+1)=_ from congrFun k2 n]at q1
   have:=EB q1;rw[q2]at this;exact this
 ·obtain⟨j,k,v,h1,h2,h3⟩:=QB h;rw[Nat.zero_add]at h3;obtain⟨a1,a2⟩:=x.inst.law2 h3;rw[a1,h1]at e6;cases e6
  rw[a2,ZC h2]at e3;grind
theorem AH.step {P:Program}{I:Inv}{ti:Types}(hti:Ay P ti) (h1:BH ti) (hm:P.follows .mixedOrders=true) (w:Sw P ti) {cs:List BD}(hf:P.funcs[x.f]?=some x.fn) (hx:x.fits P=true) (he:C8 x.sites=C9 (AH.go w x cs) x.sites) (hc:∀m,m≤N→∀c∈cs,c.ok P I m) (hd:∀m,m≤N→∀d∈x.dc,d.Om (WQ P I) m) (hp:AH.go w x cs N 1 x.pl (x.st lv)=some p):
  ∀xs1 pre rk ret l1 l2,Dn x.args lv=some (xs1,l1)→DP x.pre l1=some (pre,l2)→KK x.ret (x.inst.alt p)=some rk→Iz rk (x.inst.pack p)=some ret→∀xs,Y7 xs1=some xs→TrC P I x.f xs pre ret:=by
 intro xs1 pre rk ret l1 l2 e1 e2 e6 e3 xs e4;obtain⟨⟨b1,b2,b3⟩,H⟩:=AH.tK w hf hx he hc hd hp e1 e2 e6 e3 e4;unfold AH.fits at hx;simp only[Bool.and_eq_true]at hx;have g5:=hx.2;cases hdf:x.df with
 | none=>
  rw[hdf]at H;exact Et.of hti h1 hm hf b1 b2 rfl b3 rfl fun M hP hI=>H M hP hI (fun h=>by cases h)
 | some y=>
  rw[hdf]at H g5;simp only[Bool.and_eq_true]at g5;exact Et.zK (fun M nt=>BK ti M nt) hti h1 (Qn hti h1 hm) hf b1 b2 (Nat.le_of_ble_eq_true b3) (Nat.le_of_ble_eq_true g5.1) g5.2 y.1 y.2 fun M hP hI hcl=>H M hP hI (fun _=>hcl)
theorem AH.AEi {P:Program}{I:Inv}{ti:Types}(hti:Ay P ti) (h1:BH ti) (hm:P.follows .mixedOrders=true) (w:Sw P ti) {cs:List BD}(hf:P.funcs[x.f]?=some x.fn) (hx:x.fits P=true) (h0:x.df.isSome=false) (he:C8 x.sites=C9 (AH.go w x cs) x.sites) (hc:∀m,m≤N→∀c∈cs,c.ok P I m) (hd:∀m,m≤N→∀d∈x.dc,d.Om (WQ P I) m) (hp:AH.go w x cs N 1 x.pl (x.st lv)=some p):
  ∀xs1 pre rk ret l1 l2,Dn x.args lv=some (xs1,l1)→DP x.pre l1=some (pre,l2)→KK x.ret (x.inst.alt p)=some rk→Iz rk (x.inst.pack p)=some ret→∀xs,Y7 xs1=some xs→WQ P I x.f xs pre ret:=by
 intro xs1 pre rk ret l1 l2 e1 e2 e6 e3 xs e4;obtain⟨⟨b1,b2,b3⟩,H⟩:=AH.tK w hf hx he hc hd hp e1 e2 e6 e3 e4;cases hdf:x.df with
 | none=>
  rw[hdf]at H;exact TU.intro (fun M nt=>BK ti M nt) hti h1 (Qn hti h1 hm) hf b1 b2 (Nat.le_of_ble_eq_true b3) fun M hP hI=>H M hP hI (fun h=>by cases h)
 | some y=>simp_all
theorem AH.qP {T:sA}{n:Nat}(h:∀lv p,WM _ (x.F n) lv=some p→∀xs1 pre rk ret l1 l2,Dn x.args lv=some (xs1,l1)→DP x.pre l1=some (pre,l2)→KK x.ret (x.inst.alt p)=some rk→Iz rk (x.inst.pack p)=some ret→∀xs,Y7 xs1=some xs→T x.f xs pre ret):x.c.Om T n:=h
def Bb (P:Program) (I:Inv):List BD→Prop
 | []=>True
 | c::l=>(∀n,c.ok P I n)∧Bb P I l
def JV (P:Program) {ti:Types}(w:Sw P ti) (d:Bool) (cs:List BD):List AH→Prop
 | []=>True
 | x::l=>(P.funcs[x.f]?=some x.fn∧(x.fits P&&(d || x.dc.isEmpty))=true∧x.eqn w cs)∧JV P w d cs l
theorem FB {P:Program}{I:Inv}:∀{l:List BD},Bb P I l→∀c∈l,∀n,c.ok P I n
 | c::l,h,d,hd=>by
  cases hd with
  | head=>exact h.1
  | tail _ hd=>exact FB h.2 d hd
 | [],_,_,hd=>by cases hd
theorem OD {P:Program}{ti:Types}{w:Sw P ti}{d:Bool}{cs:List BD}:∀{l:List AH},JV P w d cs l→∀x∈l,P.funcs[x.f]?=some x.fn∧(x.fits P&&(d || x.dc.isEmpty))=true∧x.eqn w cs
 | c::l,h,e,he=>by
  cases he with
  | head=>exact h.1
  | tail _ he=>exact OD h.2 e he
 | [],_,_,he=>by cases he
theorem QC {P:Program}{I:Inv}:∀{g:List AH},(∀x∈g,∀n,x.c.ok P I n)→Bb P I (g.map AH.c)
 | [],_=>trivial
 | x::g,h=>⟨h x (List.mem_cons_self ..),QC fun y hy=>h y (List.mem_cons_of_mem _ hy)⟩
theorem WS {T:sA}{d:Bool}{l:List BD}(hd:d=true→∀c∈l,∀n,c.Om T n) (h:(d || l.isEmpty)=true) (n:Nat):∀c∈l,c.Om T n:=fun c hc=>by
 grind
variable {g:List AH}
theorem lD {P:Program}{I:Inv}{ti:Types}(hti:Ay P ti) (h1:BH ti) (hm:P.follows .mixedOrders=true) (w:Sw P ti) {d:Bool}{cs:List BD}(hc:Bb P I cs) (hd:d=true→∀x∈g,∀c∈x.dc,∀n,c.Om (WQ P I) n) (he:JV P w d (g.map AH.c++cs) g):Bb P I (g.map AH.c):=by
 have main:∀n,∀x∈g,x.c.ok P I n:=by
  intro n
  induction n using Nat.strongRecOn with
  | _ n ih=>
   have rec1:∀N,N<n→∀m,m≤N→∀c∈g.map AH.c++cs,c.ok P I m:=by
    intro N hN m hm c hcm;rcases List.mem_append.1 hcm with h | h
    ·grind
    ·exact FB hc c h m
   intro x hx;refine AH.qP fun lv p hp=>?_
   obtain⟨hf,hfit,heq⟩:=OD he x hx;simp only[Bool.and_eq_true]at hfit;have e0:=congrArg Prod.fst heq.2;have e1:=congrArg Prod.snd heq.2;simp only[]at e0 e1;cases n with
   | zero=>rw[e0]at hp;exact absurd hp UI
   | succ N=>
    rw[show x.F (N+1)=_ from congrFun e1 N]at hp
    exact AH.step hti h1 hm w hf hfit.1 heq.1 (rec1 N (Nat.lt_succ_self N)) (fun m _=>WS (fun h=>hd h x hx) hfit.2 m) (EB hp)
 exact QC fun x hx n=>main n x hx
theorem pD {P:Program}{I:Inv}{ti:Types}(hti:Ay P ti) (h1:BH ti) (hm:P.follows .mixedOrders=true) (w:Sw P ti) {cs:List BD}(hc:Bb P I cs) (hf:P.funcs[x.f]?=some x.fn) (hx:(x.fits P&&(false || x.dc.isEmpty))=true) (he:x.AEh w cs) (n:Nat):x.c.ok P I n:=by
 refine AH.qP fun lv p hp=>?_
 rw[show x.F n=_ from congrFun he.2 n]at hp
 simp only[Bool.and_eq_true]at hx;exact AH.step hti h1 hm w hf hx.1 he.1 (fun m _ c hcm=>FB hc c hcm m) (fun m _=>WS (d:=false) (fun h=>by cases h) hx.2 m) (EB hp)
theorem pE {P:Program}{I:Inv}{ti:Types}(hti:Ay P ti) (h1:BH ti) (hm:P.follows .mixedOrders=true) (w:Sw P ti) {cs:List BD}(hc:Bb P I cs) (hf:P.funcs[x.f]?=some x.fn) (hx:((x.fits P&&x.dc.isEmpty)&&DC x.df.isSome)=true) (he:x.AEh w cs) (n:Nat):x.c.Om (WQ P I) n:=by
 refine AH.qP fun lv p hp=>?_
 rw[show x.F n=_ from congrFun he.2 n]at hp
 simp only[Bool.and_eq_true]at hx;exact AH.AEi hti h1 hm w hf hx.1.1 (Ff hx.2) he.1 (fun m _ c hcm=>FB hc c hcm m) (fun m _=>WS (d:=false) (fun h=>by cases h) (by simpa using hx.1.2) m) (EB hp)
structure mU (P:Program) (I:Inv) where
 c:BD
 ok:∀n,c.ok P I n
def Iq {P:Program}{I:Inv}:List (mU P I)→List BD
 | []=>[]
 | x::l=>x.c::Iq l
theorem QD {P:Program}{I:Inv}:∀l:List (mU P I),Bb P I (Iq l)
 | []=>trivial
 | x::l=>⟨x.ok,QD l⟩
def D3:List AH→List BD
 | []=>[]
 | x::l=>x.c::D3 l
theorem KN:∀l:List AH,D3 l=l.map AH.c
 | []=>rfl
 | x::l=>by rw[D3,KN l];rfl
def OE:List BD→List BD→List BD
 | [],m=>m
 | x::l,m=>x::OE l m
theorem OG (m:List BD):∀l,OE l m=l++m
 | []=>rfl
 | x::l=>by rw[OE,OG m l];rfl
theorem lF {P:Program}{I:Inv}{ti:Types}(hti:Ay P ti) (h1:BH ti) (hm:P.follows .mixedOrders=true) (w:Sw P ti) (l:List (mU P I)) (he:JV P w false (OE (D3 g) (Iq l)) g):Bb P I (D3 g):=by
 rw[KN];rw[OG,KN]at he;exact lD hti h1 hm w (QD l) (fun h=>by cases h) he
theorem lG {P:Program}{I:Inv}{ti:Types}(hti:Ay P ti) (h1:BH ti) (hm:P.follows .mixedOrders=true) (w:Sw P ti) (l:List (mU P I)) {dc:List BD}(hd:∀c∈dc,∀n,c.Om (WQ P I) n) (hg:∀x∈g,x.dc=dc∨x.dc=[]) (he:JV P w true (OE (D3 g) (Iq l)) g):Bb P I (D3 g):=by
 rw[KN];rw[OG,KN]at he
 exact lD hti h1 hm w (QD l) (fun _ x hx c hc n=>by
  grind) he
def ZD {P:Program}{I:Inv}{ti:Types}(hti:Ay P ti) (h1:BH ti) (hm:P.follows .mixedOrders=true) (w:Sw P ti) (x:AH) (l:List (mU P I)) (hf:P.funcs[x.f]?=some x.fn) (hx:(x.fits P&&(false || x.dc.isEmpty))=true) (h2:C8 x.sites=C9 (AH.go w x (Iq l)) x.sites) (h3:x.F=fun n=>Hi _ fun lv=>AH.go w x (Iq l) n 1 x.pl (x.st lv)):mU P I:=
 ⟨x.c,pD hti h1 hm w (QD l) hf hx ⟨h2,h3⟩⟩
theorem ZE {P:Program}{I:Inv}{ti:Types}(hti:Ay P ti) (h1:BH ti) (hm:P.follows .mixedOrders=true) (w:Sw P ti) (x:AH) (l:List (mU P I)) (hf:P.funcs[x.f]?=some x.fn) (hx:((x.fits P&&x.dc.isEmpty)&&DC x.df.isSome)=true) (h2:C8 x.sites=C9 (AH.go w x (Iq l)) x.sites) (h3:x.F=fun n=>Hi _ fun lv=>AH.go w x (Iq l) n 1 x.pl (x.st lv)) (n:Nat):x.c.Om (WQ P I) n:=
 pE hti h1 hm w (QD l) hf hx ⟨h2,h3⟩ n
def ZF {P:Program}{I:Inv}{ti:Types}(hti:Ay P ti) (h1:BH ti) (hm:P.follows .mixedOrders=true) (w:Sw P ti) (x:AH) (l:List (mU P I)) {c:BD}(hd:∀n,c.Om (WQ P I) n) (hg:x.dc=[c]) (hf:P.funcs[x.f]?=some x.fn) (hx:x.fits P=true) (h2:C8 x.sites=C9 (AH.go w x (Iq l)) x.sites) (h3:x.F=fun n=>Hi _ fun lv=>AH.go w x (Iq l) n 1 x.pl (x.st lv)):mU P I:=
 ⟨x.c,fun n=>AH.qP fun lv p hp=>by
  rw[show x.F n=_ from congrFun h3 n]at hp
  exact AH.step hti h1 hm w hf hx h2 (fun m _ c hcm=>FB (QD l) c hcm m) (fun m _ d hd'=>by
   rw[hg]at hd';cases hd' with
   | head=>exact hd m
   | tail _ h=>cases h) (EB hp)⟩
end
end
end Go.AM
set_option linter.unusedVariables false
noncomputable section
namespace Go.Proofs.YtjfmnfncmfepnaaGreatDoor
open Go Go.AM
def dsR (γ:Type):Ds γ:=fun t x k=>match Nat.beq t 56 with
 | true=>BZ x fun a b c d e f g h o p i j l m n q=>k (.agg [.int .u8 a,.str b,.list true 4 c,.int .u8 d,.str e,.list true 3 f,.list true 15 g,.int .u8 h,.int .i64 o,.str p,.str i,.str j,.list false 1 l,.list true 8 m,.int .i64 n,.int .i64 q])
 | false=>match Nat.beq t 58 with
 | true=>Bt x fun a b c d=>k (.agg [.str a,.int .u8 b,.str c,.list true 3 d])
 | false=>match Nat.beq t 48 with
 | true=>D0 x fun a b c=>k (.agg [.int .u8 a,.str b,.list true 3 c])
 | false=>match Nat.beq t 90 with
 | true=>Ba x fun a b c d e f g h o p i j l m n=>k (.agg [.int .u8 a,.str b,.str c,.list false 1 d,.int .u8 e,.str f,.list true 3 g,.int .i64 h,.str o,.list false 1 p,.list true 8 i,.list true 15 j,.list true 15 l,.list true 3 m,.int .i64 n])
 | false=>match Nat.beq t 9 with
 | true=>B0 x fun a=>k (.str a)
 | false=>match Nat.beq t 54 with
 | true=>Bj x fun a b c d e f g h=>k (.agg [.int .u8 a,.int .i64 b,.str c,.str d,.str e,.list false 1 f,.list true 8 g,.int .i64 h])
 | false=>match Nat.beq t 96 with
 | true=>Cv x fun a b c=>k (.agg [.str a,.str b,.list true 15 c])
 | false=>match Nat.beq t 3 with
 | true=>B1 x fun a=>k (.int .i64 a)
 | false=>match Nat.beq t 4 with
 | true=>FP x fun a=>k (.bool a)
 | false=>match Nat.beq t 139 with
 | true=>Dj x fun a=>k (.agg [.bool a])
 | false=>match Nat.beq t 100216 with
 | true=>Ch x fun a b=>k (.agg [.bool a,.str b])
 | false=>match Nat.beq t 5 with
 | true=>Ha x fun a=>k (.int .u8 a)
 | false=>match Nat.beq t 44 with
 | true=>Ci x fun a b c d e f g h o=>k (.agg [.int .u8 a,.int .i64 b,.int .i64 c,.int .i64 d,.list false 1 e,.list false 1 f,.int .i64 g,.str h,.list false 1 o])
 | false=>match Nat.beq t 100247 with
 | true=>B1 x fun a=>k (.int .i64 a)
 | false=>match Nat.beq t 73 with
 | true=>E9 x fun a b=>k (.agg [.list false 1 a,.list true 15 b])
 | false=>match Nat.beq t 40 with
 | true=>B2 x fun a b c d=>k (.agg [.str a,.int .i64 b,.int .i64 c,.list true 9 d])
 | false=>match Nat.beq t 101 with
 | true=>Md x fun a b c d e f g h=>k (.agg [.str a,.int .i64 b,.int .i64 c,.bool d,.bool e,.bool f,.bool g,.list false 1 h])
 | false=>k x
theorem vA (γ:Type):(dsR γ).ok:=fun t x k r h=>by
 unfold dsR at h;split at h
 ·obtain⟨a,b,c,d,e,f,g,i,p,q,j,l,m,n,o,s,rfl,h⟩:=Vh h;exact h
 split at h
 ·obtain⟨a,b,c,d,rfl,h⟩:=Vk h;exact h
 split at h
 ·obtain⟨a,b,c,rfl,h⟩:=Vl h;exact h
 split at h
 ·obtain⟨a,b,c,d,e,f,g,i,p,q,j,l,m,n,o,rfl,h⟩:=Vm h;exact h
 split at h
 ·obtain⟨a,rfl,h⟩:=Nj h;exact h
 split at h
 ·obtain⟨a,b,c,d,e,f,g,i,rfl,h⟩:=Vn h;exact h
 split at h
 ·obtain⟨a,b,c,rfl,h⟩:=Vo h;exact h
 split at h
 ·obtain⟨a,rfl,h⟩:=JO h;exact h
 split at h
 ·obtain⟨a,rfl,h⟩:=TW h;exact h
 split at h
 ·obtain⟨a,rfl,h⟩:=TX h;exact h
 split at h
 ·obtain⟨a,b,rfl,h⟩:=Vp h;exact h
 split at h
 ·obtain⟨a,rfl,h⟩:=Yv h;exact h
 split at h
 ·obtain⟨a,b,c,d,e,f,g,i,p,rfl,h⟩:=Vq h;exact h
 split at h
 ·obtain⟨a,rfl,h⟩:=JO h;exact h
 split at h
 ·obtain⟨a,b,rfl,h⟩:=Vr h;exact h
 split at h
 ·obtain⟨a,b,c,d,rfl,h⟩:=Vs h;exact h
 split at h
 ·obtain⟨a,b,c,d,e,f,g,i,rfl,h⟩:=Tf h;exact h
 exact h
def elR:rU:=fun ag sz t o=>match !ag&&(Nat.beq sz 1&&(Nat.beq t 3&&Nat.beq o 0))with
 | true=>3
 | false=>match !ag&&(Nat.beq sz 1&&(Nat.beq t 4&&Nat.beq o 0))with
 | true=>4
 | false=>match ag&&(Nat.beq sz 2&&(Nat.beq t 42&&Nat.beq o 0))with
 | true=>73
 | false=>match ag&&(Nat.beq sz 2&&(Nat.beq t 49&&Nat.beq o 1))with
 | true=>73
 | false=>match ag&&(Nat.beq sz 9&&(Nat.beq t 3&&Nat.beq o 1))with
 | true=>44
 | false=>match ag&&(Nat.beq sz 9&&(Nat.beq t 41&&Nat.beq o 4))with
 | true=>44
 | false=>0
def ABk (t:TypeId):Bool:=false
theorem pF:Sok Tryz.prog Ab ABk:=fun t i fs h=>by cases h
noncomputable def wz:Sw Tryz.prog Ab:=⟨dsR,elR,ABk,vA,pF⟩
abbrev Kz:=mU Tryz.prog inv
noncomputable def sg (x:AH) (l:List Kz) (a:Tryz.prog.funcs[x.f]?=some x.fn) (b:(x.fits Tryz.prog&&(false || x.dc.isEmpty))=true:=by kernel_rfl) (c:C8 x.sites=C9 (AH.go wz x (Iq l)) x.sites:=by kernel_rfl) (d:x.F=fun n=>Hi _ fun lv=>AH.go wz x (Iq l) n 1 x.pl (x.st lv):=by kernel_rfl):Kz:=ZD GY FL rM wz x l a b c d
theorem ge {x:AH}{cs:List BD}(a:Tryz.prog.funcs[x.f]?=some x.fn) (b:(x.fits Tryz.prog&&(false || x.dc.isEmpty))=true:=by kernel_rfl) (c:C8 x.sites=C9 (AH.go wz x cs) x.sites:=by kernel_rfl) (d:(x.F 0,fun n=>x.F (n+1))=(Iv _,fun n=>Hi _ fun lv=>AH.go wz x cs n 1 x.pl (x.st lv)):=by kernel_rfl):Tryz.prog.funcs[x.f]?=some x.fn/\(x.fits Tryz.prog&&(false || x.dc.isEmpty))=true/\x.eqn wz cs:=⟨a,b,c,d⟩
abbrev ii {ρ:Type} [i:Rz ρ]:Rz ρ:=i
noncomputable def sgF:=@ZF Tryz.prog inv _ GY FL rM wz
theorem sgD (x:AH) (l:List Kz) (a:Tryz.prog.funcs[x.f]?=some x.fn) (b:((x.fits Tryz.prog&&x.dc.isEmpty)&&DC x.df.isSome)=true) (d:C8 x.sites=C9 (AH.go wz x (Iq l)) x.sites) (e:x.F=fun n=>Hi _ fun lv=>AH.go wz x (Iq l) n 1 x.pl (x.st lv)) (n:Nat):x.c.Om (WQ Tryz.prog inv) n:=ZE GY FL rM wz x l a b d e n
theorem grD {g:List AH}(l:List Kz) {c:BD}(a:∀n,c.Om (WQ Tryz.prog inv) n) (b:∀x∈g,x.dc=[c]∨x.dc=[]) (d:JV Tryz.prog wz true (OE (D3 g) (Iq l)) g):Bb Tryz.prog inv (D3 g):=lG GY FL rM wz l (dc:=[c]) (by simpa using a) b d
theorem gr {g:List AH}(l:List Kz) (a:JV Tryz.prog wz false (OE (D3 g) (Iq l)) g):Bb Tryz.prog inv (D3 g):=lF GY FL rM wz l a
noncomputable def AFw:BD:=⟨254,[.s],[],[⟨.one (.f 1),[],[]⟩],LD,ii,Yu⟩
def AFx:Kz:=⟨AFw,fun n=>N9 fun a p h g i j k l m b c d e xs f=>by cases b;cases c;cases f;cases d;cases e;exact AFp n h⟩
noncomputable def c41:BD:=⟨41,[.z],[],[⟨.one (.s),[],[]⟩],BA,ii,mS⟩
def k41:Kz:=⟨c41,fun n=>N9 fun a p h g i j k l m b c d e xs f=>by cases b;cases c;cases f;cases d;cases e;exact T41 n h⟩
noncomputable def c43:BD:=⟨43,[.z,.z],[],[⟨.one (.s),[],[]⟩],BA,ii,zM⟩
def k43:Kz:=⟨c43,fun n=>N9 fun a b p h i j k l m o c d e f xs g=>by cases c;cases d;cases g;cases e;cases f;exact T43 n h⟩
def lH:List Nat:=[166,158,158,158,159,159,159,160,160,161,161,161,161,161,161,161,161,161,162,163,163,164,165,164,166,166,164,164,166,164,165,164,166,166,166,166,166]
def Xv (k:Nat):List Nat->Nat->List Sj
 | [],_=>[]
 | f::l,i=>(match Nat.blt i k with
  | true=>.fn f []
  | false=>.nilf)::Xv k l (i+1)
def vB:Nat->Nat->Option Unit
 | 0,_=>none
 | n+1,k=>match Nat.blt k 37 with
  | true=>vB n (k+1)
  | false=>some ()
def vC (n:Nat):Option Unit:=vB n 0
noncomputable def CY (k:Nat):Br Unit:=⟨58,[0,1,4],[.o 0,.o 32],96,[.u 0,.u 32,.k k],[.c (Xv 0 lH 0),.c (Xv k lH 0)],fun n=>Hi _ fun _=>vB n k,.e⟩
noncomputable def AFy:AH:=⟨110,Tryz.f110,false,[],[],[⟨.one (.mix (Xv 37 lH 0)),[],[]⟩],Unit,ii,vC,.e,[CY 0,CY 1,CY 2,CY 3,CY 4,CY 5,CY 6,CY 7,CY 8,CY 9,CY 10,CY 11,CY 12,CY 13,CY 14,CY 15,CY 16,CY 17,CY 18,CY 19,CY 20,CY 21,CY 22,CY 23,CY 24,CY 25,CY 26,CY 27,CY 28,CY 29,CY 30,CY 31,CY 32,CY 33,CY 34,CY 35,CY 36,CY 37],none,[]⟩
def AFz:Kz:=sg AFy [] Tryz.func110
noncomputable def c42:BD:=⟨42,[.f 1,.s],[],[⟨.one (.s),[],[]⟩],BA,ii,zN⟩
def k42:Kz:=⟨c42,fun n=>N9 fun a b p h i j k l m o c d e f xs g=>by cases c;cases d;cases g;cases e;cases f;exact T42 n h⟩
def O4 (n:Nat) (a:Int) (b:BA) (c:LD):Option (Bool):=
 (if a=0 then (if b=ByteArray.empty then AO c fun d=>(if d=0 then some true else some false)else some false)else some false)
noncomputable def AGa:AH:=⟨138,Tryz.f138,false,[.agg [.y,.s,.q 3]],[],[⟨.one (.b),[],[]⟩],Bool,ii,O4,.e,[],none,[]⟩
def pG:Kz:=sg AGa [] Tryz.func138
def lI (n:Nat) (a:Int):Option (Bool):=
 (if 97<=a then (if a<=122 then some true else some false)else some false)
noncomputable def AGb:AH:=⟨201,Tryz.f201,false,[.y],[],[⟨.one (.b),[],[]⟩],Bool,ii,lI,.e,[],none,[]⟩
def ABl:Kz:=sg AGb [] Tryz.func201
def lJ (n:Nat) (a:Int):Option (Bool):=
 (if 65<=a then (if a<=90 then some true else some false)else some false)
noncomputable def AGc:AH:=⟨200,Tryz.f200,false,[.y],[],[⟨.one (.b),[],[]⟩],Bool,ii,lJ,.e,[],none,[]⟩
def ABm:Kz:=sg AGc [] Tryz.func200
def pH (n:Nat) (a:Int):Option (Bool):=
 (if 48<=a then (if a<=57 then some true else some false)else some false)
noncomputable def AGd:AH:=⟨252,Tryz.f252,false,[.y],[],[⟨.one (.b),[],[]⟩],Bool,ii,pH,.e,[],none,[]⟩
def AGe:Kz:=sg AGd [] Tryz.func252
def pI (n:Nat) (a:Int):Option (Bool):=
 Au (lI n a) fun b=>(if b=true then some true else Au (lJ n a) fun c=>(if c=true then some true else Au (pH n a) fun d=>(if d=true then some true else (if a=95 then some true else some false))))
noncomputable def AGf:AH:=⟨243,Tryz.f243,false,[.y],[],[⟨.one (.b),[],[]⟩],Bool,ii,pI,.e,[],none,[]⟩
def AGg:Kz:=sg AGf [ABm,ABl,AGe] Tryz.func243
def OH:Nat->Int->Option (Int)
 | 0,_=>none
 | n+1,a=>
  some a
def OI:Nat->BA->Int->Option (Int)
 | 0,_,_=>none
 | n+1,b,a=>
  ZX b fun c=>(if a<c then rL b a fun d=>Au (pI n d) fun e=>(if e=true then AW (IntKind.wrap .i64 (a+1)) fun f=>OI n b f else OH n a)else OH n a)
def lK (n:Nat) (a:BA):Option (Int):=
 OI n a 0
noncomputable def AGh:AH:=⟨242,Tryz.f242,false,[.s,.one (.fn 243 [])],[],[⟨.one (.z),[],[]⟩],Int,ii,lK,.e,[⟨28,[0,1,4,5],[],64,[.s,.one (.fn 243 []),.k 0,.z],[],OI,.e⟩,
 ⟨15,[4,5],[],416,[.k 0,.z],[],OH,.e⟩],none,[]⟩
def ABn:Kz:=sg AGh [AGg] Tryz.func242
def OJ:Nat->LD->Int->Int->LD->Option LD
 | 0,_,_,_,_=>none
 | n+1,b,c,a,d=>
  (if a<c then Ae b a fun e=>B0 e fun f=>AW (IntKind.wrap .i64 (a+1)) fun g=>B5 (.str f) [.int .i64 g] d fun h=>AW (IntKind.wrap .i64 (a+1)) fun i=>OJ n b c i h else some d)
def pJ (n:Nat):Option LD:=
 Au (Yu n Cw) fun a=>AO a fun b=>OJ n a b 0 ([]:LD)
noncomputable def AGi:AH:=⟨253,Tryz.f253,false,[],[],[⟨.one (.w (.o 0)),[],[.i2]⟩],LD,ii,pJ,.e,[⟨58,[0,1,5,6,7],[.o 32],192,[.one (.nilm),.w (.o 32),.f 1,.z,.z],[.i2],OJ,.e⟩],none,[]⟩
def AGj:Kz:=sg AGi [AFx] Tryz.func253
def lL (n:Nat) (a:BA):Option (Bool):=
 Au (pJ n) fun b=>(findF false (.str a) b (fun c=>B1 c fun d=>(if 0<d then some true else some false)) (some false))
noncomputable def AGk:AH:=⟨244,Tryz.f244,false,[.s],[],[⟨.one (.b),[],[]⟩],Bool,ii,lL,.e,[],none,[]⟩
def ABo:Kz:=sg AGk [AGj] Tryz.func244
def Rj (n:Nat) (a:BA):Option (Bool):=
 (if a=ByteArray.empty then some false else ZX a fun b=>(if b<=16 then rL a 0 fun c=>Au (lI n c) fun d=>(if d=true then Au (lK n a) fun e=>ZX a fun f=>(if e=f then Au (lL n a) fun g=>Ax (!g) fun h=>some h else some false)else some false)else some false))
noncomputable def vD:AH:=⟨199,Tryz.f199,false,[.s,.one (.fn 201 [])],[],[⟨.one (.b),[],[]⟩],Bool,ii,Rj,.e,[],none,[]⟩
def vE:Kz:=sg vD [ABl,ABn,ABo] Tryz.func199
def KO (n:Nat) (a:BA):Option (Bool):=
 Au (Rj n a) fun b=>some b
noncomputable def AGl:AH:=⟨142,Tryz.f142,false,[.s],[],[⟨.one (.b),[],[]⟩],Bool,ii,KO,.e,[],none,[]⟩
def WT:Kz:=sg AGl [vE] Tryz.func142
def pK (n:Nat) (a:BA):Option (Bool):=
 (if a=ByteArray.empty then some false else ZX a fun b=>(if b<=16 then rL a 0 fun c=>Au (lJ n c) fun d=>(if d=true then Au (lK n a) fun e=>ZX a fun f=>(if e=f then Au (lL n a) fun g=>Ax (!g) fun h=>some h else some false)else some false)else some false))
noncomputable def AGm:AH:=⟨199,Tryz.f199,false,[.s,.one (.fn 200 [])],[],[⟨.one (.b),[],[]⟩],Bool,ii,pK,.e,[],none,[]⟩
def AGn:Kz:=sg AGm [ABm,ABn,ABo] Tryz.func199
def MM (n:Nat) (a:BA):Option (Bool):=
 Au (pK n a) fun b=>some b
noncomputable def AGo:AH:=⟨141,Tryz.f141,false,[.s],[],[⟨.one (.b),[],[]⟩],Bool,ii,MM,.e,[],none,[]⟩
def lM:Kz:=sg AGo [AGn] Tryz.func141
mutual
def vF:Nat->Int->BA->LD->Int->Option (Bool×Int)
 | 0,_,_,_,_=>none
 | n+1,b,f,c,a=>
  AW (IntKind.wrap .i64 (a - 1)) fun g=>Au (JW n b f c g) fun k=>some (k,a)
def LR:Nat->LD->Int->Int->Int->Option (Bool×Int)
 | 0,_,_,_,_=>none
 | n+1,d,e,a,g=>
  AO d fun s=>(if a<s then (if a<e then Ae d a fun t=>D0 t fun u v l=>Im (vF n u v l g) fun m h=>Ax (!m) fun o=>(if o=true then some (false,h)else AW (IntKind.wrap .i64 (a+1)) fun p=>LR n d e p h)else OL n d e g)else OL n d e g)
def OL:Nat->LD->Int->Int->Option (Bool×Int)
 | 0,_,_,_=>none
 | n+1,d,e,i=>
  AO d fun q=>(if q<=e then some (true,i)else some (false,i))
def pL:Nat->LD->Int->Int->Option (Bool×Int)
 | 0,_,_,_=>none
 | n+1,d,e,w=>
  LR n d e 0 w
def OM:Nat->Int->BA->LD->Int->Bool->Option (Bool)
 | 0,_,_,_,_,_=>none
 | n+1,b,f,c,a,j=>
  (if b=1 then Gr n b c a 0 j else (if b=2 then Gr n b c a 0 j else (if b=3 then Gr n b c a 0 j else (if b=10 then Gr n b c a 0 j else (if b=4 then Au (MM n f) fun k=>Gr n b c a 0 k else Gr n b c a 1 j)))))
def Gr:Nat->Int->LD->Int->Int->Bool->Option (Bool)
 | 0,_,_,_,_,_=>none
 | n+1,b,c,a,x,y=>
  (if 0<a then (if 1<=b then (if b<=14 then (if y=true then AO c fun z=>(if z=x then Im (pL n c 1 a) fun r A=>some r else some false)else some false)else some false)else some false)else some false)
def JW:Nat->Int->BA->LD->Int->Option (Bool)
 | 0,_,_,_,_=>none
 | n+1,b,f,c,a=>
  (if f=ByteArray.empty then OM n b f c a true else OM n b f c a false)
end
noncomputable def AGp:AH:=⟨196,Tryz.f196,false,[.agg [.y,.s,.q 3],.v 0],[.c [.z]],[⟨.one (.b),[.c [.z]],[]⟩],Bool×Int,ii,vF,.e,[],none,[]⟩
noncomputable def AGq:AH:=⟨195,Tryz.f195,false,[.q 3,.z,.one (.fn 196 [.e 0])],[.c [.z]],[⟨.one (.b),[.c [.z]],[]⟩],Bool×Int,ii,pL,.e,[⟨26,[0,1,2,6,7],[.e 0],64,[.q 3,.z,.one (.fn 196 [.e 0]),.one (.cb false),.z],[.c [.z]],LR,.e⟩,
 ⟨7,[0,1,6],[.e 0],352,[.q 3,.z,.one (.cb false)],[.c [.z]],OL,.e⟩],none,[]⟩
noncomputable def ABp:AH:=⟨139,Tryz.f139,false,[.agg [.y,.s,.q 3],.z],[],[⟨.one (.b),[],[]⟩],Bool,ii,JW,.e,[⟨7,[2,3,4,5,6],[.o 0,.o 32],256,[.u 0,.u 32,.one (.cb false),.k 1,.b],[.c [.y,.s,.q 3],.c [.z]],fun n g a h d f=>OM n a h d f g,.e⟩,
 ⟨15,[2,3,4,5,6],[.o 0,.o 32],800,[.u 0,.u 32,.one (.cb false),.z,.b],[.c [.y,.s,.q 3],.c [.z]],fun n i j a _ d f=>Gr n a d f i j,.e⟩],none,[]⟩
theorem AGr:Bb Tryz.prog inv (D3 [AGp,AGq,ABp]):=gr [lM] ⟨ge Tryz.func196,ge Tryz.func195,ge Tryz.func139,trivial⟩
def pM:Kz:=⟨ABp.c,AGr.2.2.1⟩
def pN (n:Nat) (i:BA) (c:Int) (d:BA) (e:LD) (b:Bool) (a:Int):Option (Bool×Bool×Int):=
 Au (KO n i) fun j=>(if j=true then (if b=true then Au (O4 n c d e) fun k=>(if k=true then some (true,b,a)else AW (IntKind.wrap .i64 (a - 1)) fun l=>Au (JW n c d e l) fun f=>some (f,b,a))else AW (IntKind.wrap .i64 (a - 1)) fun g=>Au (JW n c d e g) fun h=>some (h,b,a))else some (false,b,a))
noncomputable def AGs:AH:=⟨137,Tryz.f137,false,[.agg [.s,.y,.s,.q 3],.v 0,.v 1,.v 2],[.c [.fn 142 []],.c [.bool],.c [.z]],[⟨.one (.b),[.c [.fn 142 []],.c [.bool],.c [.z]],[]⟩],Bool×Bool×Int,ii,pN,.e,[],none,[]⟩
def AGt:Kz:=sg AGs [pG,pM,WT] Tryz.func137
def OO:Nat->LD->Int->Bool->Int->Option (Bool×Bool×Int)
 | 0,_,_,_,_=>none
 | n+1,d,e,a,b=>
  AO d fun c=>(if c<=e then some (true,a,b)else some (false,a,b))
def OP:Nat->LD->Int->Int->Bool->Int->Option (Bool×Bool×Int)
 | 0,_,_,_,_,_=>none
 | n+1,a,d,e,f,g=>
  AO a fun p=>(if e<p then (if e<d then Ae a e fun q=>Bt q fun h i j k=>Dq (pN n h i j k f g) fun l b c=>Ax (!l) fun m=>(if m=true then some (false,b,c)else AW (IntKind.wrap .i64 (e+1)) fun o=>OP n a d o b c)else OO n a d f g)else OO n a d f g)
def pO (n:Nat) (a:LD) (b:Int) (c:Bool) (d:Int):Option (Bool×Bool×Int):=
 OP n a b 0 c d
noncomputable def AGu:AH:=⟨136,Tryz.f136,false,[.q 4,.z,.one (.fn 137 [.e 0,.e 1,.e 2])],[.c [.fn 142 []],.c [.bool],.c [.z]],[⟨.one (.b),[.c [.fn 142 []],.c [.bool],.c [.z]],[]⟩],Bool×Bool×Int,ii,pO,.e,[⟨26,[0,1,2,6,7],[.e 0,.e 1,.e 2],64,[.q 4,.z,.one (.fn 137 [.e 0,.e 1,.e 2]),.one (.cb false),.z],[.c [.fn 142 []],.c [.bool],.c [.z]],OP,.e⟩,
 ⟨7,[0,1,6],[.e 0,.e 1,.e 2],352,[.q 4,.z,.one (.cb false)],[.c [.fn 142 []],.c [.bool],.c [.z]],OO,.e⟩],none,[]⟩
def AGv:Kz:=sg AGu [AGt] Tryz.func136
def UN (n:Nat) (m:Bool) (o:Int) (p:BA) (l:LD) (q:Int) (r:BA) (s:LD) (t:LD) (u:Int) (a:Int) (b:BA) (c:BA) (d:BA) (e:LD) (f:LD) (g:Int) (h:Int) (i:Int):Option (Bool×Int×BA×LD×Int×BA×LD×LD×Int×Int×BA×BA×BA×LD×LD×Int×Int×Int):=
 Dq (pO n l 6 m i) fun j v k=>some (j,o,p,l,q,r,s,t,u,a,b,c,d,e,f,g,h,k)
noncomputable def AGw:AH:=⟨135,Tryz.f135,false,[.one (.fn 142 []),.b,.v 0,.v 1],[.c [.y,.s,.q 4,.y,.s,.q 3,.q 15,.y,.z,.s,.s,.s,.f 1,.q 8,.z,.z],.c [.z]],[⟨.one (.b),[.c [.y,.s,.q 4,.y,.s,.q 3,.q 15,.y,.z,.s,.s,.s,.f 1,.q 8,.z,.z],.c [.z]],[]⟩],Bool×Int×BA×LD×Int×BA×LD×LD×Int×Int×BA×BA×BA×LD×LD×Int×Int×Int,ii,UN,.e,[],none,[]⟩
def AGx:Kz:=sg AGw [AGv] Tryz.func135
def Rk (n:Nat) (i:BA) (c:Int) (d:BA) (e:LD) (b:Bool) (a:Int):Option (Bool×Bool×Int):=
 Au (MM n i) fun j=>(if j=true then (if b=true then Au (O4 n c d e) fun k=>(if k=true then some (true,b,a)else AW (IntKind.wrap .i64 (a - 1)) fun l=>Au (JW n c d e l) fun f=>some (f,b,a))else AW (IntKind.wrap .i64 (a - 1)) fun g=>Au (JW n c d e g) fun h=>some (h,b,a))else some (false,b,a))
noncomputable def vG:AH:=⟨137,Tryz.f137,false,[.agg [.s,.y,.s,.q 3],.v 0,.v 1,.v 2],[.c [.fn 141 []],.c [.bool],.c [.z]],[⟨.one (.b),[.c [.fn 141 []],.c [.bool],.c [.z]],[]⟩],Bool×Bool×Int,ii,Rk,.e,[],none,[]⟩
def vH:Kz:=sg vG [pG,pM,lM] Tryz.func137
def Hl:Nat->LD->Int->Bool->Int->Option (Bool×Bool×Int)
 | 0,_,_,_,_=>none
 | n+1,d,e,a,b=>
  AO d fun c=>(if c<=e then some (true,a,b)else some (false,a,b))
def Hm:Nat->LD->Int->Int->Bool->Int->Option (Bool×Bool×Int)
 | 0,_,_,_,_,_=>none
 | n+1,a,d,e,f,g=>
  AO a fun p=>(if e<p then (if e<d then Ae a e fun q=>Bt q fun h i j k=>Dq (Rk n h i j k f g) fun l b c=>Ax (!l) fun m=>(if m=true then some (false,b,c)else AW (IntKind.wrap .i64 (e+1)) fun o=>Hm n a d o b c)else Hl n a d f g)else Hl n a d f g)
def Rn (n:Nat) (a:LD) (b:Int) (c:Bool) (d:Int):Option (Bool×Bool×Int):=
 Hm n a b 0 c d
noncomputable def vI:AH:=⟨136,Tryz.f136,false,[.q 4,.z,.one (.fn 137 [.e 0,.e 1,.e 2])],[.c [.fn 141 []],.c [.bool],.c [.z]],[⟨.one (.b),[.c [.fn 141 []],.c [.bool],.c [.z]],[]⟩],Bool×Bool×Int,ii,Rn,.e,[⟨26,[0,1,2,6,7],[.e 0,.e 1,.e 2],64,[.q 4,.z,.one (.fn 137 [.e 0,.e 1,.e 2]),.one (.cb false),.z],[.c [.fn 141 []],.c [.bool],.c [.z]],Hm,.e⟩,
 ⟨7,[0,1,6],[.e 0,.e 1,.e 2],352,[.q 4,.z,.one (.cb false)],[.c [.fn 141 []],.c [.bool],.c [.z]],Hl,.e⟩],none,[]⟩
def vJ:Kz:=sg vI [vH] Tryz.func136
def JX (n:Nat) (m:Bool) (o:Int) (p:BA) (l:LD) (q:Int) (r:BA) (s:LD) (t:LD) (u:Int) (a:Int) (b:BA) (c:BA) (d:BA) (e:LD) (f:LD) (g:Int) (h:Int) (i:Int):Option (Bool×Int×BA×LD×Int×BA×LD×LD×Int×Int×BA×BA×BA×LD×LD×Int×Int×Int):=
 Dq (Rn n l 6 m i) fun j v k=>some (j,o,p,l,q,r,s,t,u,a,b,c,d,e,f,g,h,k)
noncomputable def vK:AH:=⟨135,Tryz.f135,false,[.one (.fn 141 []),.b,.v 0,.v 1],[.c [.y,.s,.q 4,.y,.s,.q 3,.q 15,.y,.z,.s,.s,.s,.f 1,.q 8,.z,.z],.c [.z]],[⟨.one (.b),[.c [.y,.s,.q 4,.y,.s,.q 3,.q 15,.y,.z,.s,.s,.s,.f 1,.q 8,.z,.z],.c [.z]],[]⟩],Bool×Int×BA×LD×Int×BA×LD×LD×Int×Int×BA×BA×BA×LD×LD×Int×Int×Int,ii,JX,.e,[],none,[]⟩
def vL:Kz:=sg vK [vJ] Tryz.func135
def LS (n:Nat) (a:Int) (b:Int) (c:BA) (d:BA) (e:BA) (f:LD) (g:LD) (h:Int):Option (Bool):=
 (if a=5 then some true else (if a=6 then some true else some false))
noncomputable def AGy:AH:=⟨143,Tryz.f143,false,[.agg [.y,.z,.s,.s,.s,.f 1,.q 8,.z]],[],[⟨.one (.b),[],[]⟩],Bool,ii,LS,.e,[],none,[]⟩
def WU:Kz:=sg AGy [] Tryz.func143
def pP (n:Nat) (a:Int):Option (Bool×Int×Int×Bool):=
 (if a=1 then some (false,0,0,true)else (if a=2 then some (false,0,0,true)else (if a=3 then some (false,0,0,true)else (if a=4 then some (true,0,0,true)else (if a=5 then some (true,0,0,true)else (if a=6 then some (true,0,0,true)else (if a=24 then some (true,0,0,true)else (if a=28 then some (true,0,0,true)else (if a=32 then some (true,0,0,true)else (if a=36 then some (true,0,0,true)else (if a=25 then some (true,1,1,true)else (if a=33 then some (true,1,1,true)else (if a=34 then some (true,1,1,true)else (if a=35 then some (true,1,1,true)else (if a=18 then some (false,0,6,true)else (if a=19 then some (false,0,6,true)else (if a=20 then some (false,0,1,true)else (if a=9 then some (false,2,2,true)else (if a=10 then some (false,2,2,true)else (if a=11 then some (false,2,2,true)else (if a=12 then some (false,2,2,true)else (if a=13 then some (false,2,2,true)else (if a=14 then some (false,2,2,true)else (if a=15 then some (false,2,2,true)else (if a=16 then some (false,2,2,true)else (if a=17 then some (false,2,2,true)else (if 1<=a then (if a<=36 then some (false,1,1,true)else some (false,1,1,false))else some (false,1,1,false))))))))))))))))))))))))))))
noncomputable def AGz:AH:=⟨202,Tryz.f202,false,[.y],[],[⟨.tup [.agg [.bool,.z,.z],.b],[],[]⟩],Bool×Int×Int×Bool,ii,pP,.e,[],none,[]⟩
def AHa:Kz:=sg AGz [] Tryz.func202
def Ed:Nat->Bool->Bool->Bool->Option (Bool)
 | 0,_,_,_=>none
 | n+1,a,b,c=>
  (if a=true then (if b=true then some c else some false)else some false)
def FD:Nat->Int->Int->BA->BA->Bool->Bool->Bool->Option (Bool)
 | 0,_,_,_,_,_,_,_=>none
 | n+1,d,e,f,k,c,a,b=>
  (if d=1 then (if 0<=e then Ed n c a true else Ed n c a false)else (if d=2 then (if e=0 then Ed n c a true else (if e=1 then Ed n c a true else Ed n c a false))else (if d=18 then Au (KO n f) fun g=>Ed n g a b else (if d=19 then Au (MM n f) fun h=>Ed n h a b else (if d=20 then Au (MM n f) fun i=>Au (MM n k) fun j=>Ed n i j b else Ed n c a b)))))
def WV (n:Nat) (d:Int) (a:Int) (c:BA) (b:BA) (e:BA) (f:LD) (g:LD) (h:Int):Option (Bool):=
 (if c=ByteArray.empty then (if b=ByteArray.empty then (if a=0 then FD n d a c b true true true else FD n d a c b true true false)else (if a=0 then FD n d a c b true false true else FD n d a c b true false false))else (if b=ByteArray.empty then (if a=0 then FD n d a c b false true true else FD n d a c b false true false)else (if a=0 then FD n d a c b false false true else FD n d a c b false false false)))
noncomputable def AHb:AH:=⟨203,Tryz.f203,false,[.agg [.y,.z,.s,.s,.s,.f 1,.q 8,.z]],[],[⟨.one (.b),[],[]⟩],Bool,ii,WV,.e,[⟨7,[1,2,3,4,5],[.o 0],448,[.u 0,.one (.cb false),.b,.b,.b],[.c [.y,.z,.s,.s,.s,.f 1,.q 8,.z]],fun n g a d h i j k _ _ _ _=>FD n h i j k g a d,.e⟩,
 ⟨15,[2,3,4,5],[],1088,[.one (.cb false),.b,.b,.b],[],Ed,.e⟩],none,[]⟩
def AHc:Kz:=sg AHb [lM,WT] Tryz.func203
def Hn:Nat->LD->Int->Option (Bool)
 | 0,_,_=>none
 | n+1,b,c=>
  AO b fun a=>(if a<=c then some true else some false)
def Ho:Nat->LD->Int->Int->Option (Bool)
 | 0,_,_,_=>none
 | n+1,a,b,c=>
  AO a fun d=>(if c<d then (if c<b then Ae a c fun e=>B0 e fun f=>Au (KO n f) fun g=>Ax (!g) fun h=>(if h=true then some false else AW (IntKind.wrap .i64 (c+1)) fun i=>Ho n a b i)else Hn n a b)else Hn n a b)
def Gs (n:Nat) (a:LD) (b:Int):Option (Bool):=
 Ho n a b 0
noncomputable def vM:AH:=⟨209,Tryz.f209,false,[.f 1,.z,.one (.fn 142 [])],[],[⟨.one (.b),[],[]⟩],Bool,ii,Gs,.e,[⟨26,[0,1,2,6,7],[],64,[.f 1,.z,.one (.fn 142 []),.one (.cb false),.z],[],Ho,.e⟩,
 ⟨7,[0,1,6],[],352,[.f 1,.z,.one (.cb false)],[],Hn,.e⟩],none,[]⟩
def lN:Kz:=sg vM [WT] Tryz.func209
def pQ (n:Nat) (a:BA):Option (Bool):=
 (if a=k__ then some true else Au (KO n a) fun b=>some b)
noncomputable def AHd:AH:=⟨246,Tryz.f246,false,[.s],[],[⟨.one (.b),[],[]⟩],Bool,ii,pQ,.e,[],none,[]⟩
def AHe:Kz:=sg AHd [WT] Tryz.func246
def OQ:Nat->LD->Int->Option (Bool)
 | 0,_,_=>none
 | n+1,b,c=>
  AO b fun a=>(if a<=c then some true else some false)
def OS:Nat->LD->Int->Int->Option (Bool)
 | 0,_,_,_=>none
 | n+1,a,b,c=>
  AO a fun d=>(if c<d then (if c<b then Ae a c fun e=>B0 e fun f=>Au (pQ n f) fun g=>Ax (!g) fun h=>(if h=true then some false else AW (IntKind.wrap .i64 (c+1)) fun i=>OS n a b i)else OQ n a b)else OQ n a b)
def pR (n:Nat) (a:LD) (b:Int):Option (Bool):=
 OS n a b 0
noncomputable def AHf:AH:=⟨209,Tryz.f209,false,[.f 1,.z,.one (.fn 246 [])],[],[⟨.one (.b),[],[]⟩],Bool,ii,pR,.e,[⟨26,[0,1,2,6,7],[],64,[.f 1,.z,.one (.fn 246 []),.one (.cb false),.z],[],OS,.e⟩,
 ⟨7,[0,1,6],[],352,[.f 1,.z,.one (.cb false)],[],OQ,.e⟩],none,[]⟩
def AHg:Kz:=sg AHf [AHe] Tryz.func209
def Ro (n:Nat) (a:BA) (b:LD):Option (Bool):=
 Au (KO n a) fun c=>(if c=true then Au (pR n b 40) fun d=>some d else some false)
noncomputable def AHh:AH:=⟨210,Tryz.f210,false,[.agg [.s,.f 1]],[],[⟨.one (.b),[],[]⟩],Bool,ii,Ro,.e,[],none,[]⟩
def ABq:Kz:=sg AHh [WT,AHg] Tryz.func210
def Rp (n:Nat) (a:BA) (b:LD):Option (Bool):=
 (if a=ByteArray.empty then AO b fun c=>(if c=0 then some true else some false)else some false)
noncomputable def AHi:AH:=⟨211,Tryz.f211,false,[.agg [.s,.f 1]],[],[⟨.one (.b),[],[]⟩],Bool,ii,Rp,.e,[],none,[]⟩
def ABr:Kz:=sg AHi [] Tryz.func211
def WW (n:Nat) (h:Int) (k:Int) (l:BA) (m:BA) (b:BA) (a:LD) (i:LD) (o:Int) (j:Bool):Option (Bool):=
 (if j=true then Au (Ro n b a) fun c=>some c else (if h=19 then (if b=ByteArray.empty then AO a fun d=>AO i fun e=>(if d=e then Au (Gs n a 6) fun f=>some f else some false)else some false)else Au (Rp n b a) fun g=>some g))
noncomputable def AHj:AH:=⟨204,Tryz.f204,false,[.agg [.y,.z,.s,.s,.s,.f 1,.q 8,.z],.b],[],[⟨.one (.b),[],[]⟩],Bool,ii,WW,.e,[],none,[]⟩
def AHk:Kz:=sg AHj [lN,ABq,ABr] Tryz.func204
mutual
def ZG:Nat->Int->Int->BA->BA->BA->LD->LD->Int->Int->Int->BA->BA->BA->LD->LD->Int->Int->Option (Bool×Int×Int×BA×BA×BA×LD×LD×Int×Int)
 | 0,_,_,_,_,_,_,_,_,_,_,_,_,_,_,_,_,_=>none
 | n+1,j,a,k,l,e,m,f,o,p,d,q,r,s,t,u,v,b=>
  (if p=18 then AW (IntKind.wrap .i64 (b - 1)) fun aa=>Au (GM n j a k l e m f o aa) fun w=>some (w,p,d,q,r,s,t,u,v,b)else Au (LS n j a k l e m f o) fun x=>Ax (!x) fun ab=>(if ab=true then AW (IntKind.wrap .i64 (b - 1)) fun g=>Au (GM n j a k l e m f o g) fun ac=>some (ac,p,d,q,r,s,t,u,v,b)else some (false,p,d,q,r,s,t,u,v,b)))
def Gt:Nat->LD->Int->Int->Int->Int->BA->BA->BA->LD->LD->Int->Int->Option (Bool×Int×Int×BA×BA×BA×LD×LD×Int×Int)
 | 0,_,_,_,_,_,_,_,_,_,_,_,_=>none
 | n+1,h,a,c,y,z,A,B,C,E,F,G,i=>
  AO h fun g=>(if c<g then (if c<a then Ae h c fun ad=>Bj ad fun ae af ag ah ai aj ak am=>BO (ZG n ae af ag ah ai aj ak am y z A B C E F G i) fun an I J K L M N O P Q=>Ax (!an) fun ao=>(if ao=true then some (false,I,J,K,L,M,N,O,P,Q)else AW (IntKind.wrap .i64 (c+1)) fun aq=>Gt n h a aq I J K L M N O P Q)else Hp n h a y z A B C E F G i)else Hp n h a y z A B C E F G i)
def Hp:Nat->LD->Int->Int->Int->BA->BA->BA->LD->LD->Int->Int->Option (Bool×Int×Int×BA×BA×BA×LD×LD×Int×Int)
 | 0,_,_,_,_,_,_,_,_,_,_,_=>none
 | n+1,h,a,R,S,T,U,V,W,X,Y,Z=>
  AO h fun ar=>(if ar<=a then some (true,R,S,T,U,V,W,X,Y,Z)else some (false,R,S,T,U,V,W,X,Y,Z))
def ZH:Nat->LD->Int->Int->Int->BA->BA->BA->LD->LD->Int->Int->Option (Bool×Int×Int×BA×BA×BA×LD×LD×Int×Int)
 | 0,_,_,_,_,_,_,_,_,_,_,_=>none
 | n+1,h,a,z3,z4,e,s6,s7,l8,l9,d,H=>
  Gt n h a 0 z3 z4 e s6 s7 l8 l9 d H
def GM:Nat->Int->Int->BA->BA->BA->LD->LD->Int->Int->Option (Bool)
 | 0,_,_,_,_,_,_,_,_,_=>none
 | n+1,j,a,k,l,e,m,f,o,p=>
  jD (pP n j) fun au H c av=>(if p<1 then some false else Ax (!av) fun aw=>(if aw=true then some false else Au (WV n j a k l e m f o) fun ax=>Ax (!ax) fun ay=>(if ay=true then some false else AO f fun b=>(if b<H then some false else Au (WW n j a k l e m f o au) fun az=>Ax (!az) fun w=>(if w=true then some false else BO (ZH n f c j a k l e m f o p) fun x i g aG aH aI aJ aK aL aM=>some x)))))
end
noncomputable def AHl:AH:=⟨206,Tryz.f206,false,[.agg [.y,.z,.s,.s,.s,.f 1,.q 8,.z],.v 0,.v 1],[.c [.y,.z,.s,.s,.s,.f 1,.q 8,.z],.c [.z]],[⟨.one (.b),[.c [.y,.z,.s,.s,.s,.f 1,.q 8,.z],.c [.z]],[]⟩],Bool×Int×Int×BA×BA×BA×LD×LD×Int×Int,ii,ZG,.e,[],none,[]⟩
noncomputable def AHm:AH:=⟨205,Tryz.f205,false,[.q 8,.z,.one (.fn 206 [.e 0,.e 1])],[.c [.y,.z,.s,.s,.s,.f 1,.q 8,.z],.c [.z]],[⟨.one (.b),[.c [.y,.z,.s,.s,.s,.f 1,.q 8,.z],.c [.z]],[]⟩],Bool×Int×Int×BA×BA×BA×LD×LD×Int×Int,ii,ZH,.e,[⟨26,[0,1,2,6,7],[.e 0,.e 1],64,[.q 8,.z,.one (.fn 206 [.e 0,.e 1]),.one (.cb false),.z],[.c [.y,.z,.s,.s,.s,.f 1,.q 8,.z],.c [.z]],Gt,.e⟩,
 ⟨7,[0,1,6],[.e 0,.e 1],352,[.q 8,.z,.one (.cb false)],[.c [.y,.z,.s,.s,.s,.f 1,.q 8,.z],.c [.z]],Hp,.e⟩],none,[]⟩
noncomputable def ABs:AH:=⟨144,Tryz.f144,false,[.agg [.y,.z,.s,.s,.s,.f 1,.q 8,.z],.z],[],[⟨.one (.b),[],[]⟩],Bool,ii,GM,.e,[],none,[]⟩
theorem AHn:Bb Tryz.prog inv (D3 [AHl,AHm,ABs]):=gr [WU,AHa,AHc,AHk] ⟨ge Tryz.func206,ge Tryz.func205,ge Tryz.func144,trivial⟩
def ZI:Kz:=⟨ABs.c,AHn.2.2.1⟩
def WX (n:Nat) (i:Int) (j:Int) (k:BA) (l:BA) (m:BA) (o:LD) (p:LD) (q:Int) (r:Int) (c:Int) (d:Bool) (e:Bool) (f:Bool) (g:Bool) (h:Bool) (b:Bool) (a:Int):Option (Bool×Int×Int×Bool×Bool×Bool×Bool×Bool×Bool×Int):=
 (if b=true then AW (IntKind.wrap .i64 (a - 1)) fun s=>Au (GM n i j k l m o p q s) fun t=>some (t,r,c,d,e,f,g,h,b,a)else Au (LS n i j k l m o p q) fun u=>Ax (!u) fun v=>(if v=true then AW (IntKind.wrap .i64 (a - 1)) fun w=>Au (GM n i j k l m o p q w) fun x=>some (x,r,c,d,e,f,g,h,b,a)else some (false,r,c,d,e,f,g,h,b,a)))
noncomputable def AHo:AH:=⟨213,Tryz.f213,false,[.agg [.y,.z,.s,.s,.s,.f 1,.q 8,.z],.v 0,.v 1],[.c [.z,.z,.bool,.bool,.bool,.bool,.bool,.bool,.fn 245 [],.fn 245 []],.c [.z]],[⟨.one (.b),[.c [.z,.z,.bool,.bool,.bool,.bool,.bool,.bool,.fn 245 [],.fn 245 []],.c [.z]],[]⟩],Bool×Int×Int×Bool×Bool×Bool×Bool×Bool×Bool×Int,ii,WX,.e,[],none,[]⟩
def AHp:Kz:=sg AHo [WU,ZI] Tryz.func213
end Go.Proofs.YtjfmnfncmfepnaaGreatDoor
end
