/- Part of a proof. No condition. (Part 5.) -/
import Derived.Shelf.Strings.Builder1
import Derived.Shelf.Strings.Builder2
import Derived.Shelf.Strings.OnBuilder
import Derived.Shelf.Strings.BuilderF
import Derived.Shelf.Strings.BuilderK
import Derived.Shelf.Strings.Builder2Cap
import Derived.Shelf.Strconv.Itoa0
import Derived.Shelf.Strconv.Itoa1
import Derived.Shelf.LaysM
import Derived.Shelf.Strconv.Itoa2
import Derived.Shelf.Strconv.Itoa3
import Derived.Shelf.Strconv.Itoa4
import Derived.Shelf.Bits.Mul64
import Derived.Shelf.Strings.BuilderCap
import Derived.Shelf.Slices.Turned
import Derived.Ground.Names2Prog
import Derived.Shelf.Slices.Clone
import Derived.Ground.SlgnProg
import Derived.Shelf.SlicesE.Clone
import Derived.Test.YtaomkgkdfafiiaaGreatDoorProg
import Derived.Lib.AppendIntMem
import Derived.Lib.ItoaLen
import Derived.Test.YtaomkgkdfafiiaaGreatDoorTxtD
set_option linter.unusedVariables false
set_option linter.unusedSimpArgs false
namespace Go.Proofs
open Go.Shelf
def Tryz.ML:Go.Shelf.Ren:=⟨fun | 156=>37 | 165=>92 | 166=>93 | 169=>94 | 240=>167 | 241=>168 | 276=>202 | 277=>203 | n=>n,fun | 31=>78 | 9=>9 | 3=>3 | 4=>4 | 0=>0 | 20=>20 | 72=>130 | 76=>134 | 70=>127 | 37=>128 | 75=>133 | 127=>217 | 164=>266 | 5=>5 | 80=>136 | n=>n,fun | n=>n⟩
theorem Tryz.Wa:Go.Proofs.Lays.n156 Tryz.prog Tryz.ML:={
 mixed:=by kernel_rfl
 f156:=Tryz.func37.trans (congrArg some (by kernel_rfl))
 f165:=Tryz.func92.trans (congrArg some (by kernel_rfl))
 f166:=Tryz.func93.trans (congrArg some (by kernel_rfl))
 f169:=Tryz.func94.trans (congrArg some (by kernel_rfl))
 f240:=Tryz.func167.trans (congrArg some (by kernel_rfl))
 f241:=Tryz.func168.trans (congrArg some (by kernel_rfl))
 f276:=Tryz.func202.trans (congrArg some (by kernel_rfl))
 f277:=Tryz.func203.trans (congrArg some (by kernel_rfl))
 t0:=Tryz.underlying0
 a0:=Tryz.isAgg0
 z0:=Tryz.sizeOf0
 v0:=Tryz.zeroValue0
 t3:=Tryz.underlying3
 a3:=Tryz.isAgg3
 z3:=Tryz.sizeOf3
 v3:=Tryz.zeroValue3
 t4:=Tryz.underlying4
 a4:=Tryz.isAgg4
 z4:=Tryz.sizeOf4
 v4:=Tryz.zeroValue4
 t9:=Tryz.underlying9
 a9:=Tryz.isAgg9
 z9:=Tryz.sizeOf9
 v9:=Tryz.zeroValue9
 t20:=Tryz.underlying20
 a20:=Tryz.isAgg20
 z20:=Tryz.sizeOf20
 v20:=Tryz.zeroValue20
 t31:=Tryz.underlying78
 a31:=Tryz.isAgg78
 z31:=Tryz.sizeOf78
 v31:=Tryz.zeroValue78
 t37:=Tryz.underlying128
 a37:=Tryz.isAgg128
 z37:=Tryz.sizeOf128
 v37:=Tryz.zeroValue128
 t70:=Tryz.underlying127
 a70:=Tryz.isAgg127
 z70:=Tryz.sizeOf127
 v70:=Tryz.zeroValue127
 t72:=Tryz.underlying130
 a72:=Tryz.isAgg130
 z72:=Tryz.sizeOf130
 v72:=Tryz.zeroValue130
 t75:=Tryz.underlying133
 a75:=Tryz.isAgg133
 z75:=Tryz.sizeOf133
 v75:=Tryz.zeroValue133
 t76:=Tryz.underlying134
 a76:=Tryz.isAgg134
 z76:=Tryz.sizeOf134
 v76:=Tryz.zeroValue134
 t127:=Tryz.underlying217
 a127:=Tryz.isAgg217
 z127:=Tryz.sizeOf217
 v127:=Tryz.zeroValue217
 t164:=Tryz.underlying266
 a164:=Tryz.isAgg266
 z164:=Tryz.sizeOf266
 v164:=Tryz.zeroValue266}
theorem Tryz.F8:Builder.Extra Tryz.prog Tryz.ML:={
 sizeBuilder:=by kernel_rfl
 liesBuilder:=by kernel_rfl
 t5:=Tryz.underlying5
 a5:=Tryz.isAgg5
 z5:=Tryz.sizeOf5
 v5:=Tryz.zeroValue5
 infoByte:=by kernel_rfl
 cellsByte:=by kernel_rfl
 sizeByte:=by kernel_rfl
 neB5:=by decide}
open Go.RowKit in
theorem Tryz.strings_Join_none (a:Option Addr) (c:Nat) (sep:ByteArray) (w:World):
  Calls Tryz.prog 37 #[.slice a 0 c,.string sep] w fun e w'=>e= .returned (.string ⟨#[]⟩)∧w'=w:=Any.strings_Join_none Tryz.Wa Tryz.F8 a c sep w
open Go.RowKit in
theorem Tryz.strings_Join (bk o c:Nat) (xs:List ByteArray) (sep:ByteArray) (w:World) (hcells:∀(j:Nat) x,xs[j]?=some x→w.cell? ⟨bk,o+j,none⟩=some (.string x)) (hbk:bk<w.heap.size) (hN:xs.length≤140737488355328) (hcap:xs.length≤c) (hlen:(Lib.join (xs.map (·.data.toList)) sep.data.toList).length≤140737488355328):
  Calls Tryz.prog 37 #[.slice (some ⟨bk,o,none⟩) xs.length c,.string sep] w fun e w'=>e= .returned (.string ⟨(Lib.join (xs.map (·.data.toList)) sep.data.toList).toArray⟩)∧Below w.heap.size w w':=Any.strings_Join Tryz.Wa Tryz.F8 bk o c xs sep w hcells hbk hN hcap hlen
def Tryz.SV:Go.Shelf.Ren:=⟨fun | 171=>35 | 243=>91 | 246=>90 | 283=>163 | 284=>164 | 285=>165 | 286=>166 | 129=>198 | 317=>197 | 318=>199 | 319=>200 | 320=>201 | 337=>230 | 338=>231 | n=>n,fun | 3=>3 | 9=>9 | 2=>2 | 4=>4 | 171=>211 | 0=>0 | 53=>212 | 37=>128 | 5=>5 | 173=>215 | 212=>261 | 51=>262 | 20=>20 | 213=>263 | 46=>264 | 232=>303 | 233=>304 | n=>n,fun | 17=>0 | 18=>2 | 19=>3 | n=>n⟩
theorem Tryz.bG:Go.Proofs.LaysM.n171 Tryz.prog Tryz.SV:={
 mixed:=by kernel_rfl
 f129:=Tryz.func198.trans (congrArg some (by kernel_rfl))
 f171:=Tryz.func35.trans (congrArg some (by kernel_rfl))
 f243:=Tryz.func91.trans (congrArg some (by kernel_rfl))
 f246:=Tryz.func90.trans (congrArg some (by kernel_rfl))
 f283:=Tryz.func163.trans (congrArg some (by kernel_rfl))
 f284:=Tryz.func164.trans (congrArg some (by kernel_rfl))
 f285:=Tryz.func165.trans (congrArg some (by kernel_rfl))
 f286:=Tryz.func166.trans (congrArg some (by kernel_rfl))
 f317:=Tryz.func197.trans (congrArg some (by kernel_rfl))
 f318:=Tryz.func199.trans (congrArg some (by kernel_rfl))
 f319:=Tryz.func200.trans (congrArg some (by kernel_rfl))
 f320:=Tryz.func201.trans (congrArg some (by kernel_rfl))
 f337:=Tryz.func230.trans (congrArg some (by kernel_rfl))
 f338:=Tryz.func231.trans (congrArg some (by kernel_rfl))
 t0:=Tryz.underlying0
 a0:=Tryz.isAgg0
 z0:=Tryz.sizeOf0
 v0:=Tryz.zeroValue0
 t2:=Tryz.underlying2
 a2:=Tryz.isAgg2
 z2:=Tryz.sizeOf2
 v2:=Tryz.zeroValue2
 t3:=Tryz.underlying3
 a3:=Tryz.isAgg3
 z3:=Tryz.sizeOf3
 v3:=Tryz.zeroValue3
 t4:=Tryz.underlying4
 a4:=Tryz.isAgg4
 z4:=Tryz.sizeOf4
 v4:=Tryz.zeroValue4
 t5:=Tryz.underlying5
 a5:=Tryz.isAgg5
 z5:=Tryz.sizeOf5
 v5:=Tryz.zeroValue5
 t9:=Tryz.underlying9
 a9:=Tryz.isAgg9
 z9:=Tryz.sizeOf9
 v9:=Tryz.zeroValue9
 t20:=Tryz.underlying20
 a20:=Tryz.isAgg20
 z20:=Tryz.sizeOf20
 v20:=Tryz.zeroValue20
 t37:=Tryz.underlying128
 a37:=Tryz.isAgg128
 z37:=Tryz.sizeOf128
 v37:=Tryz.zeroValue128
 t46:=Tryz.underlying264
 a46:=Tryz.isAgg264
 z46:=Tryz.sizeOf264
 v46:=Tryz.zeroValue264
 t51:=Tryz.underlying262
 a51:=Tryz.isAgg262
 z51:=Tryz.sizeOf262
 v51:=Tryz.zeroValue262
 t53:=Tryz.underlying212
 a53:=Tryz.isAgg212
 z53:=Tryz.sizeOf212
 v53:=Tryz.zeroValue212
 t171:=Tryz.underlying211
 a171:=Tryz.isAgg211
 z171:=Tryz.sizeOf211
 v171:=Tryz.zeroValue211
 t173:=Tryz.underlying215
 a173:=Tryz.isAgg215
 z173:=Tryz.sizeOf215
 v173:=Tryz.zeroValue215
 t212:=Tryz.underlying261
 a212:=Tryz.isAgg261
 z212:=Tryz.sizeOf261
 v212:=Tryz.zeroValue261
 t213:=Tryz.underlying263
 a213:=Tryz.isAgg263
 z213:=Tryz.sizeOf263
 t232:=Tryz.underlying303
 a232:=Tryz.isAgg303
 z232:=Tryz.sizeOf303
 v232:=Tryz.zeroValue303
 t233:=Tryz.underlying304
 a233:=Tryz.isAgg304
 z233:=Tryz.sizeOf304
 v233:=Tryz.zeroValue304
 g17:=by kernel_rfl
 g18:=by kernel_rfl
 g19:=by kernel_rfl
 i0:=by kernel_rfl
 i2:=by kernel_rfl
 i3:=by kernel_rfl
 i4:=by kernel_rfl
 i5:=by kernel_rfl
 i9:=by kernel_rfl
 i20:=by kernel_rfl
 i37:=by kernel_rfl
 i46:=by kernel_rfl
 i51:=by kernel_rfl
 i53:=by kernel_rfl
 i171:=by kernel_rfl
 i173:=by kernel_rfl
 i212:=by kernel_rfl
 i232:=by kernel_rfl
 i233:=by kernel_rfl
 m17:=by kernel_rfl
 m18:=by kernel_rfl
 m19:=by kernel_rfl}
open Go.RowKit Go.Sort Go.Lib in
theorem Tryz.strconv_Itoa (n:Int) (h0: -9223372036854775808≤n) (h1:n≤9223372036854775807) (w:World) (htab:Lib.TabIs Tryz.prog w "internal/strconv.uint64pow10" .u64 Lib.pow10Tab):
  Calls Tryz.prog 35 #[.int .i64 n] w fun e w'=>e= .returned (.string ⟨(Lib.itoa n).toArray⟩)∧∃k os,w'=grow (w.drewN k) os:=Any.strconv_Itoa Tryz.bG n h0 h1 w htab
def Tryz.SW:Go.Shelf.Ren:=⟨fun | 173=>34 | 246=>90 | 283=>163 | 284=>164 | 285=>165 | 286=>166 | 129=>198 | 317=>197 | 318=>199 | 319=>200 | 320=>201 | 337=>230 | 338=>231 | n=>n,fun | 2=>2 | 3=>3 | 9=>9 | 4=>4 | 171=>211 | 0=>0 | 53=>212 | 37=>128 | 5=>5 | 173=>215 | 212=>261 | 51=>262 | 20=>20 | 213=>263 | 46=>264 | 232=>303 | 233=>304 | n=>n,fun | 17=>0 | 18=>2 | 19=>3 | n=>n⟩
theorem Tryz.bH:Go.Proofs.LaysM.n173 Tryz.prog Tryz.SW:={
 mixed:=by kernel_rfl
 f129:=Tryz.func198.trans (congrArg some (by kernel_rfl))
 f173:=Tryz.func34.trans (congrArg some (by kernel_rfl))
 f246:=Tryz.func90.trans (congrArg some (by kernel_rfl))
 f283:=Tryz.func163.trans (congrArg some (by kernel_rfl))
 f284:=Tryz.func164.trans (congrArg some (by kernel_rfl))
 f285:=Tryz.func165.trans (congrArg some (by kernel_rfl))
 f286:=Tryz.func166.trans (congrArg some (by kernel_rfl))
 f317:=Tryz.func197.trans (congrArg some (by kernel_rfl))
 f318:=Tryz.func199.trans (congrArg some (by kernel_rfl))
 f319:=Tryz.func200.trans (congrArg some (by kernel_rfl))
 f320:=Tryz.func201.trans (congrArg some (by kernel_rfl))
 f337:=Tryz.func230.trans (congrArg some (by kernel_rfl))
 f338:=Tryz.func231.trans (congrArg some (by kernel_rfl))
 t0:=Tryz.underlying0
 a0:=Tryz.isAgg0
 z0:=Tryz.sizeOf0
 v0:=Tryz.zeroValue0
 t2:=Tryz.underlying2
 a2:=Tryz.isAgg2
 z2:=Tryz.sizeOf2
 v2:=Tryz.zeroValue2
 t3:=Tryz.underlying3
 a3:=Tryz.isAgg3
 z3:=Tryz.sizeOf3
 v3:=Tryz.zeroValue3
 t4:=Tryz.underlying4
 a4:=Tryz.isAgg4
 z4:=Tryz.sizeOf4
 v4:=Tryz.zeroValue4
 t5:=Tryz.underlying5
 a5:=Tryz.isAgg5
 z5:=Tryz.sizeOf5
 v5:=Tryz.zeroValue5
 t9:=Tryz.underlying9
 a9:=Tryz.isAgg9
 z9:=Tryz.sizeOf9
 v9:=Tryz.zeroValue9
 t20:=Tryz.underlying20
 a20:=Tryz.isAgg20
 z20:=Tryz.sizeOf20
 v20:=Tryz.zeroValue20
 t37:=Tryz.underlying128
 a37:=Tryz.isAgg128
 z37:=Tryz.sizeOf128
 v37:=Tryz.zeroValue128
 t46:=Tryz.underlying264
 a46:=Tryz.isAgg264
 z46:=Tryz.sizeOf264
 v46:=Tryz.zeroValue264
 t51:=Tryz.underlying262
 a51:=Tryz.isAgg262
 z51:=Tryz.sizeOf262
 v51:=Tryz.zeroValue262
 t53:=Tryz.underlying212
 a53:=Tryz.isAgg212
 z53:=Tryz.sizeOf212
 v53:=Tryz.zeroValue212
 t171:=Tryz.underlying211
 a171:=Tryz.isAgg211
 z171:=Tryz.sizeOf211
 v171:=Tryz.zeroValue211
 t173:=Tryz.underlying215
 a173:=Tryz.isAgg215
 z173:=Tryz.sizeOf215
 v173:=Tryz.zeroValue215
 t212:=Tryz.underlying261
 a212:=Tryz.isAgg261
 z212:=Tryz.sizeOf261
 v212:=Tryz.zeroValue261
 t213:=Tryz.underlying263
 a213:=Tryz.isAgg263
 z213:=Tryz.sizeOf263
 t232:=Tryz.underlying303
 a232:=Tryz.isAgg303
 z232:=Tryz.sizeOf303
 v232:=Tryz.zeroValue303
 t233:=Tryz.underlying304
 a233:=Tryz.isAgg304
 z233:=Tryz.sizeOf304
 v233:=Tryz.zeroValue304
 g17:=by kernel_rfl
 g18:=by kernel_rfl
 g19:=by kernel_rfl
 i0:=by kernel_rfl
 i2:=by kernel_rfl
 i3:=by kernel_rfl
 i4:=by kernel_rfl
 i5:=by kernel_rfl
 i9:=by kernel_rfl
 i20:=by kernel_rfl
 i37:=by kernel_rfl
 i46:=by kernel_rfl
 i51:=by kernel_rfl
 i53:=by kernel_rfl
 i171:=by kernel_rfl
 i173:=by kernel_rfl
 i212:=by kernel_rfl
 i232:=by kernel_rfl
 i233:=by kernel_rfl
 m17:=by kernel_rfl
 m18:=by kernel_rfl
 m19:=by kernel_rfl}
open Go.RowKit Go.Sort Go.Lib in
theorem Tryz.strconv_FormatInt_10 (n:Int) (h0: -9223372036854775808≤n) (h1:n≤9223372036854775807) (w:World) (htab:Lib.TabIs Tryz.prog w "internal/strconv.uint64pow10" .u64 Lib.pow10Tab):
  Calls Tryz.prog 34 #[.int .i64 n,.int .i64 10] w fun e w'=>e= .returned (.string ⟨(Lib.itoa n).toArray⟩)∧∃k os,w'=grow (w.drewN k) os:=Any.strconv_FormatInt_10 Tryz.bH n h0 h1 w htab
end Go.Proofs
set_option linter.unusedVariables false
namespace Go.Proofs.YtaomkgkdfafiiaaGreatDoor
open Go Go.AM
theorem two {vals:Array Value}(h:vals.size=2):∃v u,vals=#[v,u]:=
 ⟨vals[0],vals[1],by
  apply Array.ext
  ·simpa using h
  ·intro i h1 h2
   match i,h2 with
   | 0,_=>rfl
   | 1,_=>rfl⟩
theorem Qt {w:World}{Z:Ad}{s:ByteArray}{v:Value}(h:AX w Z (.str s) v):v= .string s:=by cases h;rfl
def A5 (z:Int):ByteArray:=⟨(Lib.itoa z).toArray⟩
def Ef (xs:List ByteArray) (sep:ByteArray):ByteArray:=⟨(Lib.join (xs.map (·.data.toList)) sep.data.toList).toArray⟩
def kF (n:Nat) (z:Int):Option ByteArray:=if -9223372036854775808≤z∧z≤9223372036854775807 then some (A5 z)else none
def lJ (n:Nat) (z b:Int):Option ByteArray:=if b=10∧ -9223372036854775808≤z∧z≤9223372036854775807 then some (A5 z)else none
def iT (n:Nat) (l:List D) (sep:ByteArray):Option ByteArray:=
 match N9 l with
 | some xs=>if xs.length≤140737488355328∧(Lib.join (xs.map (·.data.toList)) sep.data.toList).length≤140737488355328 then some (Ef xs sep)else none
 | none=>none
theorem oV (n:Nat):∀⦃z:Int⦄ ⦃r1:ByteArray⦄,kF n z=some r1→Bf Tryz.prog inv 35 [.d (.int .i64 z)] [] (.v (.d (.str r1))) [] []:=by
 intro z r1 h
 unfold kF at h
 split at h
 ·rename_i hz
  cases h
  refine Bf.SU (xs:=[.int .i64 z]) ⟨_,_,Tryz.func35,rfl,by kernel_rfl⟩ fun w Z vals hr hsz hv=>?_
  obtain⟨v,rfl⟩:∃v,vals=#[v]:=Array.size_eq_one_iff.1 hsz
  cases hv 0 _ _ rfl rfl
  refine (Tryz.strconv_Itoa z hz.1 hz.2 w hr).mono ?_
  rintro e w' ⟨rfl,k,os,rfl⟩
  exact⟨_,rfl,Hn (Lib.below_grow _ w (Nat.le_refl _) k os),fun _ _ _=>.str _⟩
 ·cases h
theorem pG (n:Nat):∀⦃z b:Int⦄ ⦃r1:ByteArray⦄,lJ n z b=some r1→Bf Tryz.prog inv 34 [.d (.int .i64 z),.d (.int .i64 b)] [] (.v (.d (.str r1))) [] []:=by
 intro z b r1 h
 unfold lJ at h
 split at h
 ·rename_i hz
  cases h
  obtain⟨rfl,hz⟩:=hz
  refine Bf.SU (xs:=[.int .i64 z,.int .i64 10]) ⟨_,_,Tryz.func34,rfl,by kernel_rfl⟩ fun w Z vals hr hsz hv=>?_
  obtain⟨v,u,rfl⟩:∃v u,vals=#[v,u]:=two hsz
  cases hv 0 _ _ rfl rfl
  cases hv 1 _ _ rfl rfl
  refine (Tryz.strconv_FormatInt_10 z hz.1 hz.2 w hr).mono ?_
  rintro e w' ⟨rfl,k,os,rfl⟩
  exact⟨_,rfl,Hn (Lib.below_grow _ w (Nat.le_refl _) k os),fun _ _ _=>.str _⟩
 ·cases h
theorem oW (n:Nat):∀⦃l:List D⦄ ⦃sep r1:ByteArray⦄,iT n l sep=some r1→Bf Tryz.prog inv 37 [.d (.list false 1 l),.d (.str sep)] [] (.v (.d (.str r1))) [] []:=by
 intro l sep r1 h
 unfold iT at h
 split at h
 rotate_left
 ·cases h
 rename_i xs hxs
 obtain rfl:=Pv hxs
 split at h
 rotate_left
 ·cases h
 rename_i hb
 cases h
 refine Bf.SU (xs:=[.list false 1 (xs.map D.str),.str sep]) ⟨_,_,Tryz.func37,rfl,by kernel_rfl⟩ fun w Z vals hr hsz hv=>?_
 obtain⟨v,u,rfl⟩:∃v u,vals=#[v,u]:=two hsz
 cases hv 1 _ _ rfl rfl
 cases hv 0 _ _ rfl rfl with
 | list _ _ _ A cap b o U hcap hmax hfit ha hc hrr=>
  by_cases he:xs=[]
  ·subst he
   refine (Tryz.strings_Join_none A cap sep w).mono ?_
   rintro e w' ⟨rfl,rfl⟩
   exact⟨_,rfl,⟨rfl,rfl,rfl,Nat.le_refl _,fun _ _ _=>rfl⟩,fun _ _ _=>.str _⟩
  ·have hA:=ha (by simpa using he)
   subst hA
   have cells:∀(j:Nat) x,xs[j]?=some x→w.cell? ⟨b,o+j,none⟩=some (.string x):=by
    intro j x hx
    have h1:(xs.map D.str)[j]?=some (.str x):=by simp[hx]
    have h2:=(hc j _ 0 _ h1 rfl).1
    have h3:=hrr j _ 0 _ h1 rfl
    simp only[Nat.mul_one,Nat.add_zero]at h2
    rw[h2,Qt h3]
   have hbk:b<w.heap.size:=by
    obtain⟨x,xs',rfl⟩:=List.exists_cons_of_ne_nil he
    have:=World.block_lt_of_cell? w ⟨b,o+0,none⟩ (cells 0 x rfl)
    exact this
   have:=Tryz.strings_Join b o cap xs sep w cells hbk hb.1 (by simpa using hcap) hb.2
   rw[List.length_map]
   refine this.mono ?_
   rintro e w' ⟨rfl,hbl⟩
   exact⟨_,rfl,Hn hbl,fun _ _ _=>.str _⟩
end Go.Proofs.YtaomkgkdfafiiaaGreatDoor
set_option maxRecDepth 100000
set_option maxHeartbeats 40000000
set_option linter.unusedVariables false
noncomputable section
namespace Go.Proofs.YtaomkgkdfafiiaaGreatDoor
open Go Go.AM
def RC {γ:Type}(x:D) (k:Int→Option γ):Option γ:=match x with | .int .i64 a0=>k a0 | _=>none
theorem Uy {γ:Type}{x:D}{k:Int→Option γ}{r:γ}(h:RC x k=some r):∃a0,x= .int .i64 a0∧k a0=some r:=by
 unfold RC at h
 split at h
 ·exact⟨_,rfl,h⟩
 ·cases h
def OB:ByteArray:=⟨#[63]⟩
def JR:ByteArray:=⟨#[111,118,101,114]⟩
def JS:ByteArray:=⟨#[122,101,114,111]⟩
def FV:ByteArray:=⟨#[99,108,111,115,101,100]⟩
def Da:ByteArray:=⟨#[112,111,105,115,111,110,101,100]⟩
def G5:ByteArray:=⟨#[108,105,109,105,116]⟩
def G6:ByteArray:=⟨#[99,104,105,108,100]⟩
def G7:ByteArray:=⟨#[102,114,101,101,100]⟩
def G8:ByteArray:=⟨#[116,119,105,99,101]⟩
def FW:ByteArray:=⟨#[117,110,105,110,105,116]⟩
def G9:ByteArray:=⟨#[103,117,97,114,100]⟩
def FX:ByteArray:=⟨#[117,110,108,111,99,107]⟩
def Db:ByteArray:=⟨#[99,111,110,102,117,115,101,100]⟩
def EE:ByteArray:=⟨#[100,111,110,101]⟩
def V3 {γ:Type}(x:D) (k:ByteArray→Option γ):Option γ:=match x with | .agg [.str a0]=>k a0 | _=>none
theorem XM {γ:Type}{x:D}{k:ByteArray→Option γ}{r:γ}(h:V3 x k=some r):∃a0,x= .agg [.str a0]∧k a0=some r:=by
 unfold V3 at h
 split at h
 ·exact⟨_,rfl,h⟩
 ·cases h
def E1:ByteArray:=⟨#[112,97,110,105,99]⟩
def E2:ByteArray:=⟨#[102,97,117,108,116]⟩
def LM:ByteArray:=⟨#[102,117,101,108]⟩
def EF:ByteArray:=⟨#[115,99,104,101,100,117,108,101]⟩
def EG:ByteArray:=⟨#[100,101,97,100,108,111,99,107]⟩
def BK:ByteArray:=⟨#[32]⟩
def Ta:ByteArray:=⟨#[45]⟩
def RD:ByteArray:=⟨#[100,111,110,101,32]⟩
def RE {γ:Type}(x:D) (k:ByteArray→Option γ):Option γ:=match x with | .str a0=>k a0 | _=>none
theorem Uz {γ:Type}{x:D}{k:ByteArray→Option γ}{r:γ}(h:RE x k=some r):∃a0,x= .str a0∧k a0=some r:=by
 unfold RE at h
 split at h
 ·exact⟨_,rfl,h⟩
 ·cases h
def OC:ByteArray:=⟨#[112,97,110,105,99,32]⟩
def OD:ByteArray:=⟨#[102,97,117,108,116,32]⟩
mutual
def Hp:Nat→Int→Bool→Option (ByteArray)
 | 0,_,_=>none
 | n+1,z1,b2=>
  (if b2=true then DL (IntKind.wrap .i64 (48 - z1)) fun z3=>DL (IntKind.wrap .u8 z3) fun z4=>TZ ([.int .u8 z4]) fun s5=>Ee Ta s5 fun s6=>some s6 else (if z1<(0:Int)then Iz n z1 true else Iz n z1 false))
def Iz:Nat→Int→Bool→Option (ByteArray)
 | 0,_,_=>none
 | n+1,z1,b7=>
  (if b7=true then Ec ((10:Int)≠0) (DL (IntKind.wrap .i64 (Int.tdiv z1 10)) fun z8=>bO1 (XN n z8) fun s9=>Ec ((10:Int)≠0) (DL (Int.tmod z1 10) fun z10=>DL (IntKind.wrap .i64 (48 - z10)) fun z11=>DL (IntKind.wrap .u8 z11) fun z12=>TZ ([.int .u8 z12]) fun s13=>Ee s9 s13 fun s14=>some s14))else (if z1<(10:Int)then KI n z1 true else KI n z1 false))
def KI:Nat→Int→Bool→Option (ByteArray)
 | 0,_,_=>none
 | n+1,z1,b15=>
  (if b15=true then DL (IntKind.wrap .i64 (48+z1)) fun z16=>DL (IntKind.wrap .u8 z16) fun z17=>TZ ([.int .u8 z17]) fun s18=>some s18 else Ec ((10:Int)≠0) (DL (IntKind.wrap .i64 (Int.tdiv z1 10)) fun z19=>bO1 (XN n z19) fun s20=>Ec ((10:Int)≠0) (DL (Int.tmod z1 10) fun z21=>DL (IntKind.wrap .i64 (48+z21)) fun z22=>DL (IntKind.wrap .u8 z22) fun z23=>TZ ([.int .u8 z23]) fun s24=>Ee s20 s24 fun s25=>some s25)))
def XN:Nat→Int→Option (ByteArray)
 | 0,_=>none
 | n+1,z1=>
  (if z1<(0:Int)then (if (-10:Int)<z1 then Hp n z1 true else Hp n z1 false)else Hp n z1 false)
end
theorem nV (n:Nat):∀⦃z1:Int⦄ ⦃r1:ByteArray⦄,XN n z1=some r1→
    Bf Tryz.prog inv 38 [.d (.int .i64 z1)] [] (.v (.d (.str r1))) [] []:=by
 induction n using Nat.strongRecOn with | _ n ih=>
 obtain _ | n:=n
 ·intro z1 r1 h
  cases (show (none:Option _)=some _ from h)
 intro z1 r1 h
 rw[XN]at h
 refine Bf.of Dp DE XL Tryz.func38 rfl (by kernel_rfl) rfl rfl rfl (fun M hM hI=>?_)
 try cbv
 refine Ap ?_
 try cbv
 refine Ap ?_
 try cbv
 refine Ax (T:=Nat×Bool) (fun t=>⟨[(0,.v (.d (.int .i64 z1))),(2,.v (.d (.str ByteArray.empty))),(8,.v (.d (.bool t.2)))],[],224⟩) (fun t=>t.1≤n∧Hp t.1 z1 t.2=some r1) ?_ ?_
 ·try cbv
  refine FT (fun e=>?_) (fun e=>?_)
  ·replace h:=BF e h
   clear e
   try cbv
   refine FT (fun e=>?_) (fun e=>?_)
   ·replace h:=BF e h
    clear e
    try cbv
    exact AO (n,true) [0,2,8] [] 224 ⟨by omega,h⟩ (by cbv)
   replace h:=BG (Int.not_lt.2 e) h
   clear e
   try cbv
   exact AO (n,false) [0,2,8] [] 224 ⟨by omega,h⟩ (by cbv)
  replace h:=BG (Int.not_lt.2 e) h
  clear e
  try cbv
  exact AO (n,false) [0,2,8] [] 224 ⟨by omega,h⟩ (by cbv)
 clear h
 rintro⟨m1,b2⟩ ⟨hm1,h⟩
 replace hm1:m1≤n:=hm1
 obtain _ | m1:=m1
 ·replace h:Hp 0 z1 b2=some r1:=h
  rw[Hp]at h
  cases h
 replace h:Hp (m1+1) z1 b2=some r1:=h
 rw[Hp]at h
 try cbv
 cases b2
 rotate_left
 ·replace h:=BF rfl h
  try cbv
  refine Ap ?_
  try cbv
  replace h:=BO h
  obtain⟨z3,hz,h⟩:=h
  refine⟨z3,hz,?_⟩
  clear hz
  try cbv
  replace h:=BO h
  obtain⟨z4,hz,h⟩:=h
  refine⟨z4,hz,?_⟩
  clear hz
  try cbv
  refine⟨false,?_⟩
  try cbv
  refine⟨true,?_⟩
  try cbv
  replace h:=Ho h
  obtain⟨ns,s5,hz,hy,h⟩:=h
  refine⟨ns,(M.lock_iff _).2 hz,s5,hy,?_⟩
  clear hz hy ns
  try cbv
  replace h:=Ck h
  obtain⟨s6,hz,hb,h⟩:=h
  refine⟨s6,hz,hb,?_⟩
  clear hb hz
  try cbv
  obtain rfl:=Option.some.inj h
  refine Br ?_
  try cbv
  exact⟨[],rfl,rfl,trivial,trivial,trivial⟩
 replace h:=BG Bool.false_ne_true h
 try cbv
 refine Ap ?_
 try cbv
 refine Ax (T:=Nat×Bool) (fun t=>⟨[(0,.v (.d (.int .i64 z1))),(2,.v (.d (.str ByteArray.empty))),(16,.v (.d (.bool t.2)))],[],288⟩) (fun t=>t.1≤m1∧Iz t.1 z1 t.2=some r1) ?_ ?_
 ·try cbv
  refine FT (fun e=>?_) (fun e=>?_)
  ·replace h:=BF e h
   clear e
   try cbv
   exact AO (m1,true) [0,2,16] [] 288 ⟨by omega,h⟩ (by cbv)
  replace h:=BG (Int.not_lt.2 e) h
  clear e
  try cbv
  exact AO (m1,false) [0,2,16] [] 288 ⟨by omega,h⟩ (by cbv)
 clear h
 rintro⟨m2,b7⟩ ⟨hm2,h⟩
 replace hm2:m2≤m1:=hm2
 obtain _ | m2:=m2
 ·replace h:Iz 0 z1 b7=some r1:=h
  rw[Iz]at h
  cases h
 replace h:Iz (m2+1) z1 b7=some r1:=h
 rw[Iz]at h
 try cbv
 cases b7
 rotate_left
 ·replace h:=BF rfl h
  try cbv
  refine Ap ?_
  try cbv
  replace h:=Bm h
  obtain⟨hn,h⟩:=h
  replace h:=BO h
  obtain⟨z8,hz,h⟩:=h
  refine⟨z8,hn,hz,?_⟩
  clear hn hz
  try cbv
  replace h:=CJ h
  obtain⟨s9,hr,h⟩:=h
  first | refine .inr (.inl ⟨[],?_⟩) | refine .inl ⟨[],?_⟩
  try cbv
  refine⟨true,?_⟩
  try cbv
  refine BU hM hI ((ih _ (by omega)) hr) rfl ?_
  clear hr
  try cbv
  replace h:=Bm h
  obtain⟨hn,h⟩:=h
  replace h:=BO h
  obtain⟨z10,hz,h⟩:=h
  refine⟨z10,hn,hz,?_⟩
  clear hn hz
  try cbv
  replace h:=BO h
  obtain⟨z11,hz,h⟩:=h
  refine⟨z11,hz,?_⟩
  clear hz
  try cbv
  replace h:=BO h
  obtain⟨z12,hz,h⟩:=h
  refine⟨z12,hz,?_⟩
  clear hz
  try cbv
  refine⟨false,?_⟩
  try cbv
  refine⟨true,?_⟩
  try cbv
  replace h:=Ho h
  obtain⟨ns,s13,hz,hy,h⟩:=h
  refine⟨ns,(M.lock_iff _).2 hz,s13,hy,?_⟩
  clear hz hy ns
  try cbv
  replace h:=Ck h
  obtain⟨s14,hz,hb,h⟩:=h
  refine⟨s14,hz,hb,?_⟩
  clear hb hz
  try cbv
  refine drawn ?_ ?_
  ·show _=true
   kernel_rfl
  try cbv
  obtain rfl:=Option.some.inj h
  refine Br ?_
  try cbv
  exact⟨[],rfl,rfl,trivial,trivial,trivial⟩
 replace h:=BG Bool.false_ne_true h
 try cbv
 refine Ap ?_
 try cbv
 refine Ax (T:=Nat×Bool) (fun t=>⟨[(0,.v (.d (.int .i64 z1))),(2,.v (.d (.str ByteArray.empty))),(28,.v (.d (.bool t.2)))],[],352⟩) (fun t=>t.1≤m2∧KI t.1 z1 t.2=some r1) ?_ ?_
 ·try cbv
  refine FT (fun e=>?_) (fun e=>?_)
  ·replace h:=BF e h
   clear e
   try cbv
   exact AO (m2,true) [0,2,28] [] 352 ⟨by omega,h⟩ (by cbv)
  replace h:=BG (Int.not_lt.2 e) h
  clear e
  try cbv
  exact AO (m2,false) [0,2,28] [] 352 ⟨by omega,h⟩ (by cbv)
 clear h
 rintro⟨m3,b15⟩ ⟨hm3,h⟩
 replace hm3:m3≤m2:=hm3
 obtain _ | m3:=m3
 ·replace h:KI 0 z1 b15=some r1:=h
  rw[KI]at h
  cases h
 replace h:KI (m3+1) z1 b15=some r1:=h
 rw[KI]at h
 try cbv
 cases b15
 rotate_left
 ·replace h:=BF rfl h
  try cbv
  refine Ap ?_
  try cbv
  replace h:=BO h
  obtain⟨z16,hz,h⟩:=h
  refine⟨z16,hz,?_⟩
  clear hz
  try cbv
  replace h:=BO h
  obtain⟨z17,hz,h⟩:=h
  refine⟨z17,hz,?_⟩
  clear hz
  try cbv
  refine⟨false,?_⟩
  try cbv
  refine⟨true,?_⟩
  try cbv
  replace h:=Ho h
  obtain⟨ns,s18,hz,hy,h⟩:=h
  refine⟨ns,(M.lock_iff _).2 hz,s18,hy,?_⟩
  clear hz hy ns
  try cbv
  obtain rfl:=Option.some.inj h
  refine Br ?_
  try cbv
  exact⟨[],rfl,rfl,trivial,trivial,trivial⟩
 replace h:=BG Bool.false_ne_true h
 try cbv
 refine Ap ?_
 try cbv
 replace h:=Bm h
 obtain⟨hn,h⟩:=h
 replace h:=BO h
 obtain⟨z19,hz,h⟩:=h
 refine⟨z19,hn,hz,?_⟩
 clear hn hz
 try cbv
 replace h:=CJ h
 obtain⟨s20,hr,h⟩:=h
 first | refine .inr (.inl ⟨[],?_⟩) | refine .inl ⟨[],?_⟩
 try cbv
 refine⟨true,?_⟩
 try cbv
 refine BU hM hI ((ih _ (by omega)) hr) rfl ?_
 clear hr
 try cbv
 replace h:=Bm h
 obtain⟨hn,h⟩:=h
 replace h:=BO h
 obtain⟨z21,hz,h⟩:=h
 refine⟨z21,hn,hz,?_⟩
 clear hn hz
 try cbv
 replace h:=BO h
 obtain⟨z22,hz,h⟩:=h
 refine⟨z22,hz,?_⟩
 clear hz
 try cbv
 replace h:=BO h
 obtain⟨z23,hz,h⟩:=h
 refine⟨z23,hz,?_⟩
 clear hz
 try cbv
 refine⟨false,?_⟩
 try cbv
 refine⟨true,?_⟩
 try cbv
 replace h:=Ho h
 obtain⟨ns,s24,hz,hy,h⟩:=h
 refine⟨ns,(M.lock_iff _).2 hz,s24,hy,?_⟩
 clear hz hy ns
 try cbv
 replace h:=Ck h
 obtain⟨s25,hz,hb,h⟩:=h
 refine⟨s25,hz,hb,?_⟩
 clear hb hz
 try cbv
 refine drawn ?_ ?_
 ·show _=true
  kernel_rfl
 try cbv
 obtain rfl:=Option.some.inj h
 refine Br ?_
 try cbv
 exact⟨[],rfl,rfl,trivial,trivial,trivial⟩
end Go.Proofs.YtaomkgkdfafiiaaGreatDoor
end
namespace Go.AM
open Go
def Ev {α:Type}(A:Nat→Option α) (r:α):Prop:=∃N,∀n,N≤n→A n=some r
section
variable {α β γ:Type}
theorem Ev.ret {r:α}:Ev (fun _=>some r) r:=⟨0,fun _ _=>rfl⟩
theorem Ev.of {A:Nat→Option α}{r:α}(h:∀n,A n=some r):Ev A r:=⟨0,fun n _=>h n⟩
theorem Ev.succ {A:Nat→Option α}{r:α}(h:Ev (fun n=>A (n+1)) r):Ev A r:=by
 obtain⟨N,h⟩:=h
 refine⟨N+1,fun n hn=>?_⟩
 obtain⟨m,rfl⟩:∃m,n=m+1:=⟨n - 1,by omega⟩
 exact h m (by omega)
theorem Ev.congr {A B:Nat→Option α}{r:α}(h:Ev A r) (e:∀n,A n=B n):Ev B r:=by
 obtain⟨N,h⟩:=h
 exact⟨N,fun n hn=>(e n)▸h n hn⟩
theorem Ev.bO0 {A:Nat→Option Unit}{k:Nat→Option γ}{r:γ}(ha:Ev A ()) (hk:Ev k r):Ev (fun n=>bO0 (A n) (k n)) r:=by
 obtain⟨N,ha⟩:=ha
 obtain⟨M,hk⟩:=hk
 refine⟨N+M,fun n hn=>?_⟩
 show Go.AM.bO0 (A n) (k n)=some r
 rw[ha n (by omega)]
 exact hk n (by omega)
theorem Ev.bO1 {A:Nat→Option α}{a:α}{k:Nat→α→Option γ}{r:γ}(ha:Ev A a) (hk:Ev (fun n=>k n a) r):Ev (fun n=>bO1 (A n) (k n)) r:=by
 obtain⟨N,ha⟩:=ha
 obtain⟨M,hk⟩:=hk
 refine⟨N+M,fun n hn=>?_⟩
 show Go.AM.bO1 (A n) (k n)=some r
 rw[ha n (by omega)]
 exact hk n (by omega)
theorem Ev.run {A:Nat→Option α}{r:α}(h:Ev A r):∃n,A n=some r:=let ⟨N,h⟩:=h;⟨N,h N (Nat.le_refl _)⟩
theorem down {P:Nat→Prop}(N:Nat) (h0:P N) (h:∀i,i<N→P (i+1)→P i):∀i,i≤N→P i:=by
 intro i hi
 obtain⟨d,hd⟩:∃d,d=N - i:=⟨_,rfl⟩
 induction d generalizing i with
 | zero=>
      obtain rfl:i=N:=by omega
      exact h0
 | succ d ih=>exact h i (by omega) (ih (i+1) (by omega) (by omega))
end
section
variable {γ:Type}
theorem ZD {L:List D}{i:Nat}{x:D}{k:D→Option γ}(hx:L[i]?=some x):MR L (i:Int) k=k x:=XG (by omega) (by simpa using hx)
theorem XO {x:Int}(h: -9223372036854775808≤x∧x≤9223372036854775807):IntKind.i64.wrap x=x:=IntWalk.i64_in x h
theorem Pw {i N:Nat}(h:i<N) (hN:N≤maxLen):IntKind.i64.wrap ((i:Int)+1)=((i+1:Nat):Int):=by
 have:maxLen=9223372036854775807:=rfl
 rw[XO (by omega)];omega
end
def Tb (ti:Types) (e:TypeId) (x:D):Prop:=Shape ti e x.cells∧∀y,ti e=some y→x.isAgg=AU y.desc
def fH (ti:Types) (e:TypeId) (L:List D):Prop:=L.length≤maxLen∧∀x∈L,Tb ti e x
theorem fH.get {ti:Types}{e:TypeId}{L:List D}{i:Nat}(h:fH ti e L) (hi:i<L.length):∃x,L[i]?=some x∧x∈L∧Tb ti e x:=
 ⟨L[i],List.getElem?_eq_getElem hi,List.getElem_mem hi,h.2 _ (List.getElem_mem hi)⟩
def RG (ti:Types) (rec:TypeId→Option (List TypeId)):Nat→List Field→Option (List TypeId)
 | _,[]=>some []
 | off,f::r=>match Nat.beq f.offset off with
  | false=>none
  | true=>match ti f.type with
   | none=>none
   | some y=>match rec f.type with
    | none=>none
    | some l=>match Nat.beq l.length y.size with
     | false=>none
     | true=>match RG ti rec (off+y.size) r with
      | none=>none
      | some l'=>some (l++l')
def ZE (ti:Types):Nat→TypeId→Option (List TypeId)
 | 0,_=>none
 | n+1,t=>match ti t with
  | none=>none
  | some x=>match x.desc with
   | .struct fs=>match RG ti (ZE ti n) 0 fs.toList with
    | none=>none
    | some l=>match Nat.beq l.length x.size with
     | true=>some l
     | false=>none
   | .array ..=>none
   | _=>some [t]
theorem Shape.one {ti:Types}{t:TypeId}{x:TI}{ds:List D}(h:Shape ti t ds) (hx:ti t=some x) (hd:∀fs,x.desc≠ .struct fs):∃c,ds=[c]:=by
 cases h with
 | struct ds h1 h2=>rw[hx]at h1;obtain rfl:=Option.some.inj h1;exact absurd h2 (hd _)
 | _=>exact⟨_,rfl⟩
theorem Px {ti:Types}{rec:TypeId→Option (List TypeId)}{ds:List D}
  (hrec:∀t ls cs,rec t=some ls→Shape ti t cs→cs.length=ls.length∧∀(j:Nat) c tl,cs[j]?=some c→ls[j]?=some tl→Shape ti tl [c]):
  ∀(fs:List Field) (off:Nat) (ls:List TypeId),RG ti rec off fs=some ls→(∀f∈fs,∀y,ti f.type=some y→Shape ti f.type ((ds.drop f.offset).take y.size))→
   ∀(j:Nat) c tl,ds[off+j]?=some c→ls[j]?=some tl→Shape ti tl [c]
 | [],off,ls,h,_,j,c,tl,_,hl=>by
  cases h;simp at hl
 | f::fs,off,ls,h,hs,j,c,tl,hc,hl=>by
  unfold RG at h
  split at h
  ·cases h
  ·rename_i ho
   have ho:=Nat.eq_of_beq_eq_true ho
   split at h
   ·cases h
   ·rename_i y hy
    split at h
    ·cases h
    ·rename_i l hr
     split at h
     ·cases h
     ·rename_i hb
      have hb:=Nat.eq_of_beq_eq_true hb
      split at h
      ·cases h
      ·rename_i l' hl'
       cases h
       obtain⟨h1,h2⟩:=hrec _ _ _ hr (hs f (by simp) y hy)
       by_cases hj:j<l.length
       ·rw[List.getElem?_append_left hj]at hl
        refine h2 j c tl ?_ hl
        rw[List.getElem?_take,if_pos (by omega),List.getElem?_drop,ho]
        exact hc
       ·rw[List.getElem?_append_right (by omega)]at hl
        refine Px hrec fs _ l' hl' (fun f' hf'=>hs f' (List.mem_cons_of_mem _ hf')) (j - l.length) c tl ?_ hl
        rw[←hc];congr 1;omega
theorem Shape.flat {ti:Types}:
  ∀(n:Nat) (t:TypeId) (ls:List TypeId) (ds:List D),ZE ti n t=some ls→Shape ti t ds→ds.length=ls.length∧∀(j:Nat) c tl,ds[j]?=some c→ls[j]?=some tl→Shape ti tl [c]
 | 0,t,ls,ds,h,_=>by cases h
 | n+1,t,ls,ds,h,hs=>by
  unfold ZE at h
  split at h
  ·cases h
  ·rename_i x hx
   have single:(∀fs,x.desc≠ .struct fs)→ls=[t]→ds.length=ls.length∧∀(j:Nat) c tl,ds[j]?=some c→ls[j]?=some tl→Shape ti tl [c]:=by
    rintro hd rfl
    obtain⟨c,rfl⟩:=hs.one hx hd
    refine⟨rfl,fun j c' tl h1 h2=>?_⟩
    match j with
    | 0=>simp at h1 h2;subst h1;subst h2;exact hs
    | j+1=>simp at h1
   split at h
   ·rename_i fs hd
    obtain⟨h1,_,h3⟩:=hs.Vk hx hd
    split at h
    ·cases h
    ·rename_i l hl
     split at h
     ·rename_i hb
      cases h
      refine⟨h1.trans (Nat.eq_of_beq_eq_true hb).symm,fun j c tl h4 h5=>?_⟩
      exact Px (fun t ls cs h6 h7=>Shape.flat n t ls cs h6 h7) fs.toList 0 ls hl h3 j c tl (by simpa using h4) h5
     ·cases h
   ·cases h
   ·rename_i h1 h2
    cases h
    exact single h1 rfl
theorem Tb.agg {ti:Types}{e:TypeId}{x:D}{y:TI}(h:Tb ti e x) (hy:ti e=some y) (hr:AU y.desc=true):∃cs,x= .agg cs∧Shape ti e cs:=by
 have h1:=(h.2 y hy).trans hr
 cases x<;>simp[D.isAgg]at h1
 exact⟨_,rfl,h.1⟩
theorem Tb.mR {ti:Types}{e:TypeId}{x:D}{y:TI}(h:Tb ti e x) (hy:ti e=some y) (hr:AU y.desc=false):Shape ti e [x]:=by
 have h1:=(h.2 y hy).trans hr
 have h0:=h.1
 cases x<;>simp_all [D.isAgg,D.cells]
theorem Shape.X1 {ti:Types}{t:TypeId}{x:TI}{k:IntKind}{c:D}(h:Shape ti t [c]) (hx:ti t=some x) (hd:x.desc= .int k):∃n,c= .int k n∧(Lit.int k n).wf=true:=by
 obtain⟨n,e,hw⟩:=h.eI hx hd
 exact⟨n,(List.cons.inj e).1,hw⟩
theorem ZF {n:Int}(h:(Lit.int .u8 n).wf=true):0≤n∧n<256:=by
 simp[Lit.wf,show IntKind.u8.min=0 from rfl,show IntKind.u8.max=255 from rfl,show IntKind.i64.min= -9223372036854775808 from rfl,show IntKind.i64.max=9223372036854775807 from rfl]at h
 omega
theorem LN {n:Int}(h:(Lit.int .i64 n).wf=true): -9223372036854775808≤n∧n≤9223372036854775807:=by
 simp[Lit.wf,show IntKind.u8.min=0 from rfl,show IntKind.u8.max=255 from rfl,show IntKind.i64.min= -9223372036854775808 from rfl,show IntKind.i64.max=9223372036854775807 from rfl]at h
 omega
end Go.AM
set_option linter.unusedVariables false
noncomputable section
namespace Go.Proofs.YtaomkgkdfafiiaaGreatDoor
open Go Go.AM
theorem EP {γ:Type}{s t:ByteArray}{k:ByteArray→Option γ}(h:((s.size+t.size:Nat):Int)≤9223372036854775807):Ee s t k=k (s++t):=by
 unfold Ee
 rw[if_pos]
 exact h
theorem V4 {γ:Type}(z:Int) (k:ByteArray→Option γ):TZ [.int .u8 z] k=k ⟨#[UInt8.ofNat z.toNat]⟩:=id rfl
theorem iU {α γ:Type}(a:α) (k:α→Option γ):bO1 (some a) k=k a:=id rfl
theorem letE {γ:Type}(z:Int) (k:Int→Option γ):DL z k=k z:=id rfl
theorem ZG {γ:Type}(l:List D) (k:Int→Option γ):Q9 l k=k l.length:=id rfl
theorem EH {z:Int}(h: -9223372036854775808≤z∧z≤9223372036854775807):(A5 z).size≤21:=by
 have:=Lib.itoa_length_le z h.1 h.2
 show (Lib.itoa z).toArray.size≤21
 simpa using this
theorem Py {u:Nat}(h:u<10):Lib.decDigits u=[UInt8.ofNat (48+u)]:=by rw[Lib.decDigits,dif_pos h]
theorem V5 {u:Nat}(h:¬u<10):Lib.decDigits u=Lib.decDigits (u / 10)++[UInt8.ofNat (48+u % 10)]:=by rw[Lib.decDigits,dif_neg h]
theorem OE (u:Nat):A5 (u:Int)=⟨(Lib.decDigits u).toArray⟩:=by unfold A5;rw[Lib.itoa_nonneg]
theorem OG {u:Nat}(h:1≤u):A5 (-(u:Int))=⟨(45::Lib.decDigits u).toArray⟩:=by unfold A5;rw[Lib.itoa_neg u h]
theorem RI (l:List UInt8) (b:UInt8):(⟨l.toArray⟩:ByteArray)++⟨#[b]⟩=⟨(l++[b]).toArray⟩:=by
 apply ByteArray.ext
 rw[ByteArray.data_append]
 simp
theorem lK {z:Int}(h:0≤z∧z<256):IntKind.u8.wrap z=z:=by rw[IntKind.wrap_u8];omega
theorem lL:∀(u:Nat),(u:Int)≤9223372036854775807→Ev (fun n=>XN n (u:Int)) (A5 u):=by
 intro u
 induction u using Nat.strongRecOn with
 | _ u ih=>
  intro hu
  refine Ev.succ ?_
  simp only[XN,if_neg (show ¬(u:Int)<0 by omega)]
  refine Ev.succ ?_
  simp only[Hp,Bool.false_eq_true,if_false,if_neg (show ¬(u:Int)<0 by omega)]
  by_cases c:u<10
  ·refine Ev.succ ?_
   simp only[Iz,Bool.false_eq_true,if_false,if_pos (show (u:Int)<10 by omega)]
   refine Ev.succ ?_
   simp only[KI,if_true,letE,V4]
   rw[IntWalk.i64_in _ (by omega),lK (by omega),OE,Py c,show ((48:Int)+u).toNat=48+u by omega]
   exact Ev.ret
  ·refine Ev.succ ?_
   simp only[Iz,Bool.false_eq_true,if_false,if_neg (show ¬(u:Int)<10 by omega)]
   refine Ev.succ ?_
   have e1:Int.tdiv (u:Int) 10=((u / 10:Nat):Int):=by rw[Int.tdiv_eq_ediv_of_nonneg (by omega)];omega
   have e2:Int.tmod (u:Int) 10=((u % 10:Nat):Int):=by rw[Int.tmod_eq_emod_of_nonneg (by omega)];omega
   simp only[KI,Bool.false_eq_true,if_false,Ec,if_pos (show (10:Int)≠0 by decide),letE,e1,e2,V4]
   rw[IntWalk.i64_in _ (show -9223372036854775808≤((u / 10:Nat):Int)∧((u / 10:Nat):Int)≤9223372036854775807 by omega)]
   refine Ev.bO1 (ih (u / 10) (by omega) (by omega)) ?_
   rw[IntWalk.i64_in _ (show -9223372036854775808≤(48:Int)+((u % 10:Nat):Int)∧(48:Int)+((u % 10:Nat):Int)≤9223372036854775807 by omega),lK (by omega),show ((48:Int)+((u % 10:Nat):Int)).toNat=48+u % 10 by omega]
   have hs:=EH (z:=((u / 10:Nat):Int)) (by omega)
   have e:A5 ((u / 10:Nat):Int)++⟨#[UInt8.ofNat (48+u % 10)]⟩=A5 (u:Int):=by
    rw[OE,OE,RI,←V5 c]
   have q:∀k:ByteArray→Option ByteArray,Ee (A5 ((u / 10:Nat):Int)) ⟨#[UInt8.ofNat (48+u % 10)]⟩ k=k (A5 ((u / 10:Nat):Int)++⟨#[UInt8.ofNat (48+u % 10)]⟩):=fun k=>EP (by
    have:(⟨#[UInt8.ofNat (48+u % 10)]⟩:ByteArray).size=1:=rfl
    omega)
   simp only[q,e]
   exact Ev.ret
theorem lM:∀(u:Nat),1≤u→(u:Int)≤9223372036854775808→Ev (fun n=>XN n (-(u:Int))) (A5 (-(u:Int))):=by
 intro u
 induction u using Nat.strongRecOn with
 | _ u ih=>
  intro h1 hu
  refine Ev.succ ?_
  by_cases c:u<10
  ·simp only[XN,if_pos (show -(u:Int)<0 by omega),if_pos (show (-10:Int)< -(u:Int)by omega)]
   refine Ev.succ ?_
   simp only[Hp,if_true,letE,V4]
   rw[IntWalk.i64_in _ (by omega),lK (by omega),OG h1,Py c,show ((48:Int) - -(u:Int)).toNat=48+u by omega]
   have q:∀k:ByteArray→Option ByteArray,Ee Ta ⟨#[UInt8.ofNat (48+u)]⟩ k=k (Ta++⟨#[UInt8.ofNat (48+u)]⟩):=fun k=>EP (by
    have:(⟨#[UInt8.ofNat (48+u)]⟩:ByteArray).size=1:=rfl
    have:Ta.size=1:=rfl
    omega)
   have e:Ta++⟨#[UInt8.ofNat (48+u)]⟩=⟨(45::[UInt8.ofNat (48+u)]).toArray⟩:=RI [45] _
   simp only[q,e]
   exact Ev.ret
  ·simp only[XN,if_pos (show -(u:Int)<0 by omega),if_neg (show ¬(-10:Int)< -(u:Int)by omega)]
   refine Ev.succ ?_
   simp only[Hp,Bool.false_eq_true,if_false,if_pos (show -(u:Int)<0 by omega)]
   refine Ev.succ ?_
   have e1:Int.tdiv (-(u:Int)) 10= -((u / 10:Nat):Int):=by rw[Int.neg_tdiv,Int.tdiv_eq_ediv_of_nonneg (by omega)];omega
   have e2:Int.tmod (-(u:Int)) 10= -((u % 10:Nat):Int):=by rw[Int.neg_tmod,Int.tmod_eq_emod_of_nonneg (by omega)];omega
   simp only[Iz,if_true,Ec,if_pos (show (10:Int)≠0 by decide),letE,e1,e2,V4]
   rw[IntWalk.i64_in _ (show -9223372036854775808≤ -((u / 10:Nat):Int)∧ -((u / 10:Nat):Int)≤9223372036854775807 by omega)]
   refine Ev.bO1 (ih (u / 10) (by omega) (by omega) (by omega)) ?_
   rw[IntWalk.i64_in _ (show -9223372036854775808≤(48:Int) - -((u % 10:Nat):Int)∧(48:Int) - -((u % 10:Nat):Int)≤9223372036854775807 by omega),lK (by omega),show ((48:Int) - -((u % 10:Nat):Int)).toNat=48+u % 10 by omega]
   have hs:=EH (z:= -((u / 10:Nat):Int)) (by omega)
   have e:A5 (-((u / 10:Nat):Int))++⟨#[UInt8.ofNat (48+u % 10)]⟩=A5 (-(u:Int)):=by
    rw[OG (by omega),OG h1,RI,V5 c];rfl
   have q:∀k:ByteArray→Option ByteArray,Ee (A5 (-((u / 10:Nat):Int))) ⟨#[UInt8.ofNat (48+u % 10)]⟩ k=k (A5 (-((u / 10:Nat):Int))++⟨#[UInt8.ofNat (48+u % 10)]⟩):=fun k=>EP (by
    have:(⟨#[UInt8.ofNat (48+u % 10)]⟩:ByteArray).size=1:=rfl
    omega)
   simp only[q,e]
   exact Ev.ret
theorem iV {z:Int}(h: -9223372036854775808≤z∧z≤9223372036854775807):Ev (fun n=>XN n z) (A5 z):=by
 by_cases c:z<0
 ·obtain⟨u,rfl⟩:∃u:Nat,z= -(u:Int):=⟨z.natAbs,by omega⟩
  exact lM u (by omega) (by omega)
 ·obtain⟨u,rfl⟩:∃u:Nat,z=u:=⟨z.toNat,by omega⟩
  exact lL u (by omega)
theorem oX {z:Int}(h: -9223372036854775808≤z∧z≤9223372036854775807) (n:Nat):kF n z=some (A5 z):=by unfold kF;rw[if_pos h]
theorem pH {z:Int}(h: -9223372036854775808≤z∧z≤9223372036854775807) (n:Nat):lJ n z 10=some (A5 z):=by unfold lJ;rw[if_pos ⟨rfl,h⟩]
end Go.Proofs.YtaomkgkdfafiiaaGreatDoor
end
set_option linter.unusedVariables false
noncomputable section
namespace Go.Proofs.YtaomkgkdfafiiaaGreatDoor
open Go Go.AM
mutual
def I0:Nat→Int→(List D)→Int→Option (List D)
 | 0,_,_,_=>none
 | n+1,z3,l4,z5=>
  (if z5<z3 then KJ n z3 l4 z5 true else KJ n z3 l4 z5 false)
def KJ:Nat→Int→(List D)→Int→Bool→Option (List D)
 | 0,_,_,_,_=>none
 | n+1,z3,l4,z5,b6=>
  (if b6=true then Ed 8 l4 ([.int .i64 z5]) fun l7=>DL (IntKind.wrap .i64 (z5+1)) fun z8=>I0 n z3 l7 z8 else some l4)
end
def lN (n:Nat) (z1:Int):Option (List D):=
 DL (if (0:Int)>z1 then (0:Int)else z1) fun z2=>DL (if (5000:Int)<z2 then (5000:Int)else z2) fun z3=>I0 n z3 ([]:List D) (0:Int)
theorem pI (n:Nat):∀⦃z1:Int⦄ ⦃r1:List D⦄,lN n z1=some r1→
    Bf Tryz.prog inv 14 [.d (.int .i64 z1)] [] (.v (.d (.list false 1 r1))) [] []:=by
 intro z1 r1 h
 unfold lN at h
 refine Bf.of Dp DE XL Tryz.func14 rfl (by kernel_rfl) rfl rfl rfl (fun M hM hI=>?_)
 try cbv
 refine Ap ?_
 try cbv
 refine Ap ?_
 try cbv
 refine Ap ?_
 try cbv
 refine Ap ?_
 try cbv
 replace h:=BO h
 obtain⟨z2,hz,h⟩:=h
 refine⟨z2,hz,?_⟩
 clear hz
 try cbv
 replace h:=BO h
 obtain⟨z3,hz,h⟩:=h
 refine⟨z3,hz,?_⟩
 clear hz
 try cbv
 refine XE (T:=Nat×List D×Int) [.slot 3 false 1 3] [2,3,7,8] [.loc 192] 224 (fun t=>⟨[(2,.v (.c (.nils false 1))),(3,.v (.c (.lst (.loc 192) false 1 t.2.1))),(7,.v (.d (.int .i64 z3))),(8,.v (.d (.int .i64 t.2.2)))],[(.loc 192,.tok t.2.1.length 1 3)],224⟩)
   (fun t=>t.1≤n∧I0 t.1 z3 t.2.1 t.2.2=some r1) (fun t=>t.1) (n,(([]:List D),(0:Int))) ⟨Nat.le_refl _,h⟩ (by cbv) ?_
 clear h
 rintro⟨m1,l4,z5⟩ ⟨hm1,h⟩
 replace hm1:m1≤n:=hm1
 obtain _ | m1:=m1
 ·replace h:I0 0 z3 l4 z5=some r1:=h
  rw[I0]at h
  cases h
 replace h:I0 (m1+1) z3 l4 z5=some r1:=h
 rw[I0]at h
 try cbv
 refine Ax (T:=Nat×Bool) (fun t=>⟨[(2,.v (.c (.nils false 1))),(3,.v (.c (.lst (.loc 192) false 1 l4))),(7,.v (.d (.int .i64 z3))),(8,.v (.d (.int .i64 z5))),(9,.v (.d (.bool t.2)))],[(.loc 192,.tok l4.length 1 3)],256⟩) (fun t=>t.1≤m1∧KJ t.1 z3 l4 z5 t.2=some r1) ?_ ?_
 ·try cbv
  refine FT (fun e=>?_) (fun e=>?_)
  ·replace h:=BF e h
   clear e
   try cbv
   exact AO (m1,true) [2,3,7,8,9] [.loc 192] 256 ⟨by omega,h⟩ (by cbv)
  replace h:=BG (Int.not_lt.2 e) h
  clear e
  try cbv
  exact AO (m1,false) [2,3,7,8,9] [.loc 192] 256 ⟨by omega,h⟩ (by cbv)
 clear h
 rintro⟨m2,b6⟩ ⟨hm2,h⟩
 replace hm2:m2≤m1:=hm2
 obtain _ | m2:=m2
 ·replace h:KJ 0 z3 l4 z5 b6=some r1:=h
  rw[KJ]at h
  cases h
 replace h:KJ (m2+1) z3 l4 z5 b6=some r1:=h
 rw[KJ]at h
 try cbv
 refine Ap ?_
 try cbv
 cases b6
 ·replace h:=BG Bool.false_ne_true h
  try cbv
  refine Ap ?_
  try cbv
  obtain rfl:=Option.some.inj h
  refine Br ?_
  try cbv
  exact⟨[],rfl,rfl,trivial,trivial,trivial⟩
 replace h:=BF rfl h
 try cbv
 refine Ap ?_
 try cbv
 refine Ap ?_
 try cbv
 refine⟨false,?_⟩
 try cbv
 refine⟨true,?_⟩
 try cbv
 replace h:=DM h
 obtain⟨l7,hb,hz,h⟩:=h
 refine⟨false,?_⟩
 try cbv
 first | refine⟨rfl,(M.lock_iff _).2 hb,l7,hz,?_⟩ | refine⟨(M.lock_iff _).2 hb,l7,hz,?_⟩
 clear hb hz
 try cbv
 replace h:=BO h
 obtain⟨z8,hz,h⟩:=h
 refine⟨z8,hz,?_⟩
 clear hz
 try cbv
 exact Pu (m2,(l7,z8)) [2,3,7,8] [.loc 192] 224 ⟨by omega,h⟩ (Nat.lt_succ_of_le (by omega)) (by cbv)
def iW (n:Nat):Option (Unit):=
 some ()
theorem pJ (n:Nat):iW n=some ()→
    Bf Tryz.prog inv 33 [] [] (.v (.d (.agg [.str OB,.str JR,.str JS,.str FV,.str Da,.str G5,.str G6,.str OB,.str G7,.str G8,.str FW,.str G9,.str FX,.str Db]))) [] []:=by
 intro h
 unfold iW at h
 refine Bf.of Dp DE XL Tryz.func33 rfl (by kernel_rfl) rfl rfl rfl (fun M hM hI=>?_)
 try cbv
 refine Ap ?_
 try cbv
 refine Ap ?_
 try cbv
 skip
 refine Br ?_
 try cbv
 exact⟨[],rfl,rfl,trivial,trivial,trivial⟩
def KK:Nat→ByteArray→ByteArray→ByteArray→ByteArray→ByteArray→ByteArray→ByteArray→Int→Bool→Option (ByteArray)
 | 0,_,_,_,_,_,_,_,_,_=>none
 | n+1,s1,s2,s3,s4,s5,s6,s7,z8,b10=>
  (if b10=true then Ec (0≤z8∧z8<7) (MR [.agg [.str s1],.agg [.str s2],.agg [.str s3],.agg [.str s4],.agg [.str s5],.agg [.str s6],.agg [.str s7]] z8 fun x12=>V3 x12 fun s11=>some s11)else some OB)
def cX (n:Nat) (s1:ByteArray) (s2:ByteArray) (s3:ByteArray) (s4:ByteArray) (s5:ByteArray) (s6:ByteArray) (s7:ByteArray) (z8:Int):Option (ByteArray):=
 DL (IntKind.wrap .i64 z8) fun z9=>(if z9<(7:Int)then KK n s1 s2 s3 s4 s5 s6 s7 z8 true else KK n s1 s2 s3 s4 s5 s6 s7 z8 false)
theorem oY (n:Nat):∀⦃s1:ByteArray⦄ ⦃s2:ByteArray⦄ ⦃s3:ByteArray⦄ ⦃s4:ByteArray⦄ ⦃s5:ByteArray⦄ ⦃s6:ByteArray⦄ ⦃s7:ByteArray⦄ ⦃z8:Int⦄ ⦃r1:ByteArray⦄,cX n s1 s2 s3 s4 s5 s6 s7 z8=some r1→
    Bf Tryz.prog inv 36 [.d (.agg [.str s1,.str s2,.str s3,.str s4,.str s5,.str s6,.str s7]),.d (.int .u8 z8)] [] (.v (.d (.str r1))) [] []:=by
 intro s1 s2 s3 s4 s5 s6 s7 z8 r1 h
 unfold cX at h
 refine Bf.of Dp DE XL Tryz.func36 rfl (by kernel_rfl) rfl rfl rfl (fun M hM hI=>?_)
 try cbv
 refine Ap ?_
 try cbv
 refine Ap ?_
 try cbv
 refine Ax (T:=Nat×Bool) (fun t=>⟨[(1,.v (.d (.int .u8 z8))),(2,.v (.c (.ptr (.loc 0) 0))),(4,.v (.d (.str ByteArray.empty))),(7,.v (.d (.bool t.2)))],[(.loc 0,.cells [.d (.str s1),.d (.str s2),.d (.str s3),.d (.str s4),.d (.str s5),.d (.str s6),.d (.str s7)])],160⟩) (fun t=>t.1≤n∧KK t.1 s1 s2 s3 s4 s5 s6 s7 z8 t.2=some r1) ?_ ?_
 ·try cbv
  replace h:=BO h
  obtain⟨z9,hz,h⟩:=h
  refine⟨z9,hz,?_⟩
  clear hz
  try cbv
  refine FT (fun e=>?_) (fun e=>?_)
  ·replace h:=BF e h
   clear e
   try cbv
   exact AO (n,true) [1,2,4,7] [.loc 0] 160 ⟨by omega,h⟩ (by cbv)
  replace h:=BG (Int.not_lt.2 e) h
  clear e
  try cbv
  exact AO (n,false) [1,2,4,7] [.loc 0] 160 ⟨by omega,h⟩ (by cbv)
 clear h
 rintro⟨m1,b10⟩ ⟨hm1,h⟩
 replace hm1:m1≤n:=hm1
 obtain _ | m1:=m1
 ·replace h:KK 0 s1 s2 s3 s4 s5 s6 s7 z8 b10=some r1:=h
  rw[KK]at h
  cases h
 replace h:KK (m1+1) s1 s2 s3 s4 s5 s6 s7 z8 b10=some r1:=h
 rw[KK]at h
 try cbv
 cases b10
 ·replace h:=BG Bool.false_ne_true h
  try cbv
  refine Ap ?_
  try cbv
  obtain rfl:=Option.some.inj h
  refine Br ?_
  try cbv
  exact⟨[],rfl,rfl,trivial,trivial,trivial⟩
 replace h:=BF rfl h
 try cbv
 refine Ap ?_
 try cbv
 replace h:=Bm h
 obtain⟨hn,h⟩:=h
 refine⟨hn.1,hn.2,false,?_⟩
 clear hn
 try cbv
 replace h:=Hl h
 obtain⟨x12,⟨hx0,hx⟩,h⟩:=h
 replace h:=XM h
 obtain⟨s11,rfl,h⟩:=h
 refine⟨7,_,rfl,hx,?_⟩
 clear hx0 hx
 try cbv
 obtain rfl:=Option.some.inj h
 refine Br ?_
 try cbv
 exact⟨[],rfl,rfl,trivial,trivial,trivial⟩
def F0:Nat→Int→(List D)→Option (ByteArray)
 | 0,_,_=>none
 | n+1,z5,l16=>
  bO1 (kF n z5) fun s17=>Ed 16 l16 ([.str s17]) fun l18=>bO1 (iT n l18 BK) fun s19=>some s19
def KL:Nat→Int→Bool→Option (ByteArray)
 | 0,_,_=>none
 | n+1,z5,b15=>
  (if b15=true then F0 n z5 ([.str EG])else some OB)
def I1:Nat→Int→Int→Bool→Option (ByteArray)
 | 0,_,_,_=>none
 | n+1,z1,z5,b14=>
  (if b14=true then F0 n z5 ([.str EF])else (if z1=(5:Int)then KL n z5 true else KL n z5 false))
def Hq:Nat→Int→Int→Bool→Option (ByteArray)
 | 0,_,_,_=>none
 | n+1,z1,z5,b13=>
  (if b13=true then F0 n z5 ([.str LM])else (if z1=(4:Int)then I1 n z1 z5 true else I1 n z1 z5 false))
def Gj:Nat→Int→Int→Int→Bool→Option (ByteArray)
 | 0,_,_,_,_=>none
 | n+1,z1,z4,z5,b11=>
  (if b11=true then bO1 (cX n OB G7 G8 FW G9 FX Db z4) fun s12=>F0 n z5 ([.str E2,.str s12])else (if z1=(3:Int)then Hq n z1 z5 true else Hq n z1 z5 false))
def I2:Nat→Int→Int→Int→Bool→Option (ByteArray)
 | 0,_,_,_,_=>none
 | n+1,z1,z4,z5,b9=>
  (if b9=true then bO1 (cX n OB JR JS FV Da G5 G6 z4) fun s10=>F0 n z5 ([.str E1,.str s10])else (if z1=(6:Int)then Gj n z1 z4 z5 true else Gj n z1 z4 z5 false))
def Hr:Nat→Int→Int→Int→Int→Int→Bool→Option (ByteArray)
 | 0,_,_,_,_,_,_=>none
 | n+1,z1,z2,z3,z4,z5,b6=>
  (if b6=true then bO1 (lJ n z2 (10:Int)) fun s7=>bO1 (kF n z3) fun s8=>F0 n z5 ([.str EE,.str s7,.str s8])else (if z1=(2:Int)then I2 n z1 z4 z5 true else I2 n z1 z4 z5 false))
def cY (n:Nat) (z1:Int) (z2:Int) (z3:Int) (z4:Int) (z5:Int):Option (ByteArray):=
 bO0 (iW n) ((if z1=(1:Int)then Hr n z1 z2 z3 z4 z5 true else Hr n z1 z2 z3 z4 z5 false))
theorem pK (n:Nat):∀⦃z1:Int⦄ ⦃z2:Int⦄ ⦃z3:Int⦄ ⦃z4:Int⦄ ⦃z5:Int⦄ ⦃r1:ByteArray⦄,cY n z1 z2 z3 z4 z5=some r1→
    Bf Tryz.prog inv 15 [.d (.agg [.int .u8 z1,.int .i64 z2,.int .i64 z3,.int .u8 z4,.int .i64 z5])] [] (.v (.d (.str r1))) [] []:=by
 intro z1 z2 z3 z4 z5 r1 h
 unfold cY at h
 refine Bf.of Dp DE XL Tryz.func15 rfl (by kernel_rfl) rfl rfl rfl (fun M hM hI=>?_)
 try cbv
 refine Ap ?_
 try cbv
 refine Ap ?_
 try cbv
 refine Ap ?_
 try cbv
 replace h:=cW h
 obtain⟨hr,h⟩:=h
 refine E0 rfl rfl ?_
 try cbv
 refine⟨true,?_⟩
 try cbv
 refine BU hM hI (pJ _ hr) rfl ?_
 clear hr
 try cbv
 refine Ax (T:=Nat×List D) (fun t=>⟨[(1,.v (.c (.ptr (.loc 0) 0))),(2,.v (.d (.str ByteArray.empty))),(3,.v (.c (.tl false 1 t.2)))],[(.loc 0,.cells [.d (.int .u8 z1),.d (.int .i64 z2),.d (.int .i64 z3),.d (.int .u8 z4),.d (.int .i64 z5)])],704⟩) (fun t=>t.1≤n∧F0 t.1 z5 t.2=some r1) ?_ ?_
 rotate_left
 ·clear h
  rintro⟨m7,l16⟩ ⟨hm7,h⟩
  replace hm7:m7≤n:=hm7
  obtain _ | m7:=m7
  ·replace h:F0 0 z5 l16=some r1:=h
   rw[F0]at h
   cases h
  replace h:F0 (m7+1) z5 l16=some r1:=h
  rw[F0]at h
  try cbv
  refine Ap ?_
  try cbv
  replace h:=CJ h
  obtain⟨s17,hr,h⟩:=h
  refine E0 rfl rfl ?_
  try cbv
  refine⟨true,?_⟩
  try cbv
  refine BU hM hI (oV _ hr) rfl ?_
  clear hr
  try cbv
  refine⟨false,?_⟩
  try cbv
  refine⟨true,?_⟩
  try cbv
  replace h:=DM h
  obtain⟨l18,hb,hz,h⟩:=h
  refine⟨false,?_⟩
  try cbv
  refine⟨(M.lock_iff _).2 hb,l18,hz,true,.inr (by simp),?_⟩
  clear hb hz
  try cbv
  replace h:=CJ h
  obtain⟨s19,hr,h⟩:=h
  refine E0 rfl rfl ?_
  try cbv
  refine⟨true,?_⟩
  try cbv
  refine BU hM hI (oW _ hr) rfl ?_
  clear hr
  try cbv
  obtain rfl:=Option.some.inj h
  refine Br ?_
  try cbv
  exact⟨[],rfl,rfl,trivial,trivial,trivial⟩
 try cbv
 refine Ap ?_
 try cbv
 refine Ax (T:=Nat×Bool) (fun t=>⟨[(1,.v (.c (.ptr (.loc 0) 0))),(2,.v (.d (.str ByteArray.empty))),(3,.v (.c (.nils false 1))),(4,.v (.c (.ptr (.loc 128) 0))),(7,.v (.d (.int .u8 z1))),(8,.v (.d (.bool t.2)))],[(.loc 0,.cells [.d (.int .u8 z1),.d (.int .i64 z2),.d (.int .i64 z3),.d (.int .u8 z4),.d (.int .i64 z5)]),(.loc 128,.cells [.d (.str OB),.d (.str JR),.d (.str JS),.d (.str FV),.d (.str Da),.d (.str G5),.d (.str G6),.d (.str OB),.d (.str G7),.d (.str G8),.d (.str FW),.d (.str G9),.d (.str FX),.d (.str Db)])],320⟩) (fun t=>t.1≤n∧Hr t.1 z1 z2 z3 z4 z5 t.2=some r1) ?_ ?_
 ·try cbv
  refine Dr (fun e=>?_) (fun e=>?_)
  ·replace h:=BF e h
   clear e
   try cbv
   exact AO (n,true) [1,2,3,4,7,8] [.loc 0,.loc 128] 320 ⟨by omega,h⟩ (by cbv)
  replace h:=BG e h
  clear e
  try cbv
  exact AO (n,false) [1,2,3,4,7,8] [.loc 0,.loc 128] 320 ⟨by omega,h⟩ (by cbv)
 clear h
 rintro⟨m1,b6⟩ ⟨hm1,h⟩
 replace hm1:m1≤n:=hm1
 obtain _ | m1:=m1
 ·replace h:Hr 0 z1 z2 z3 z4 z5 b6=some r1:=h
  rw[Hr]at h
  cases h
 replace h:Hr (m1+1) z1 z2 z3 z4 z5 b6=some r1:=h
 rw[Hr]at h
 try cbv
 cases b6
 rotate_left
 ·replace h:=BF rfl h
  try cbv
  replace h:=CJ h
  obtain⟨s7,hr,h⟩:=h
  first | refine .inr (.inl ⟨[],?_⟩) | refine .inl ⟨[],?_⟩
  try cbv
  refine⟨true,?_⟩
  try cbv
  refine BU hM hI (pG _ hr) rfl ?_
  clear hr
  try cbv
  replace h:=CJ h
  obtain⟨s8,hr,h⟩:=h
  first | refine .inr (.inl ⟨[],?_⟩) | refine .inl ⟨[],?_⟩
  try cbv
  refine⟨true,?_⟩
  try cbv
  refine BU hM hI (oV _ hr) rfl ?_
  clear hr
  try cbv
  refine⟨false,?_⟩
  try cbv
  refine⟨true,?_⟩
  try cbv
  refine drawn ?_ ?_
  ·show _=true
   kernel_rfl
  try cbv
  exact AO (m1,[.str EE,.str s7,.str s8]) [1,2,3] [.loc 0] 704 ⟨by omega,h⟩ (by cbv)
 replace h:=BG Bool.false_ne_true h
 try cbv
 refine Ax (T:=Nat×Bool) (fun t=>⟨[(1,.v (.c (.ptr (.loc 0) 0))),(2,.v (.d (.str ByteArray.empty))),(3,.v (.c (.nils false 1))),(4,.v (.c (.ptr (.loc 128) 0))),(7,.v (.d (.int .u8 z1))),(17,.v (.d (.bool t.2)))],[(.loc 0,.cells [.d (.int .u8 z1),.d (.int .i64 z2),.d (.int .i64 z3),.d (.int .u8 z4),.d (.int .i64 z5)]),(.loc 128,.cells [.d (.str OB),.d (.str JR),.d (.str JS),.d (.str FV),.d (.str Da),.d (.str G5),.d (.str G6),.d (.str OB),.d (.str G7),.d (.str G8),.d (.str FW),.d (.str G9),.d (.str FX),.d (.str Db)])],384⟩) (fun t=>t.1≤m1∧I2 t.1 z1 z4 z5 t.2=some r1) ?_ ?_
 ·try cbv
  refine Dr (fun e=>?_) (fun e=>?_)
  ·replace h:=BF e h
   clear e
   try cbv
   exact AO (m1,true) [1,2,3,4,7,17] [.loc 0,.loc 128] 384 ⟨by omega,h⟩ (by cbv)
  replace h:=BG e h
  clear e
  try cbv
  exact AO (m1,false) [1,2,3,4,7,17] [.loc 0,.loc 128] 384 ⟨by omega,h⟩ (by cbv)
 clear h
 rintro⟨m2,b9⟩ ⟨hm2,h⟩
 replace hm2:m2≤m1:=hm2
 obtain _ | m2:=m2
 ·replace h:I2 0 z1 z4 z5 b9=some r1:=h
  rw[I2]at h
  cases h
 replace h:I2 (m2+1) z1 z4 z5 b9=some r1:=h
 rw[I2]at h
 try cbv
 cases b9
 rotate_left
 ·replace h:=BF rfl h
  try cbv
  first | refine⟨by decide,by decide,true,?_⟩ | refine⟨Int.NonNeg.mk _,true,?_⟩ | refine⟨Int.NonNeg.mk _,Int.NonNeg.mk _,true,?_⟩
  try cbv
  replace h:=CJ h
  obtain⟨s10,hr,h⟩:=h
  refine E0 rfl rfl ?_
  try cbv
  refine⟨true,?_⟩
  try cbv
  refine BU hM hI (oY _ hr) rfl ?_
  clear hr
  try cbv
  refine⟨false,?_⟩
  try cbv
  refine⟨true,?_⟩
  try cbv
  exact AO (m2,[.str E1,.str s10]) [1,2,3] [.loc 0] 704 ⟨by omega,h⟩ (by cbv)
 replace h:=BG Bool.false_ne_true h
 try cbv
 refine Ax (T:=Nat×Bool) (fun t=>⟨[(1,.v (.c (.ptr (.loc 0) 0))),(2,.v (.d (.str ByteArray.empty))),(3,.v (.c (.nils false 1))),(4,.v (.c (.ptr (.loc 128) 0))),(7,.v (.d (.int .u8 z1))),(25,.v (.d (.bool t.2)))],[(.loc 0,.cells [.d (.int .u8 z1),.d (.int .i64 z2),.d (.int .i64 z3),.d (.int .u8 z4),.d (.int .i64 z5)]),(.loc 128,.cells [.d (.str OB),.d (.str JR),.d (.str JS),.d (.str FV),.d (.str Da),.d (.str G5),.d (.str G6),.d (.str OB),.d (.str G7),.d (.str G8),.d (.str FW),.d (.str G9),.d (.str FX),.d (.str Db)])],448⟩) (fun t=>t.1≤m2∧Gj t.1 z1 z4 z5 t.2=some r1) ?_ ?_
 ·try cbv
  refine Dr (fun e=>?_) (fun e=>?_)
  ·replace h:=BF e h
   clear e
   try cbv
   exact AO (m2,true) [1,2,3,4,7,25] [.loc 0,.loc 128] 448 ⟨by omega,h⟩ (by cbv)
  replace h:=BG e h
  clear e
  try cbv
  exact AO (m2,false) [1,2,3,4,7,25] [.loc 0,.loc 128] 448 ⟨by omega,h⟩ (by cbv)
 clear h
 rintro⟨m3,b11⟩ ⟨hm3,h⟩
 replace hm3:m3≤m2:=hm3
 obtain _ | m3:=m3
 ·replace h:Gj 0 z1 z4 z5 b11=some r1:=h
  rw[Gj]at h
  cases h
 replace h:Gj (m3+1) z1 z4 z5 b11=some r1:=h
 rw[Gj]at h
 try cbv
 cases b11
 rotate_left
 ·replace h:=BF rfl h
  try cbv
  first | refine⟨by decide,by decide,true,?_⟩ | refine⟨Int.NonNeg.mk _,true,?_⟩ | refine⟨Int.NonNeg.mk _,Int.NonNeg.mk _,true,?_⟩
  try cbv
  replace h:=CJ h
  obtain⟨s12,hr,h⟩:=h
  refine E0 rfl rfl ?_
  try cbv
  refine⟨true,?_⟩
  try cbv
  refine BU hM hI (oY _ hr) rfl ?_
  clear hr
  try cbv
  refine⟨false,?_⟩
  try cbv
  refine⟨true,?_⟩
  try cbv
  exact AO (m3,[.str E2,.str s12]) [1,2,3] [.loc 0] 704 ⟨by omega,h⟩ (by cbv)
 replace h:=BG Bool.false_ne_true h
 try cbv
 refine Ax (T:=Nat×Bool) (fun t=>⟨[(1,.v (.c (.ptr (.loc 0) 0))),(2,.v (.d (.str ByteArray.empty))),(3,.v (.c (.nils false 1))),(7,.v (.d (.int .u8 z1))),(33,.v (.d (.bool t.2)))],[(.loc 0,.cells [.d (.int .u8 z1),.d (.int .i64 z2),.d (.int .i64 z3),.d (.int .u8 z4),.d (.int .i64 z5)])],512⟩) (fun t=>t.1≤m3∧Hq t.1 z1 z5 t.2=some r1) ?_ ?_
 ·try cbv
  refine Dr (fun e=>?_) (fun e=>?_)
  ·replace h:=BF e h
   clear e
   try cbv
   exact AO (m3,true) [1,2,3,7,33] [.loc 0] 512 ⟨by omega,h⟩ (by cbv)
  replace h:=BG e h
  clear e
  try cbv
  exact AO (m3,false) [1,2,3,7,33] [.loc 0] 512 ⟨by omega,h⟩ (by cbv)
 clear h
 rintro⟨m4,b13⟩ ⟨hm4,h⟩
 replace hm4:m4≤m3:=hm4
 obtain _ | m4:=m4
 ·replace h:Hq 0 z1 z5 b13=some r1:=h
  rw[Hq]at h
  cases h
 replace h:Hq (m4+1) z1 z5 b13=some r1:=h
 rw[Hq]at h
 try cbv
 cases b13
 rotate_left
 ·replace h:=BF rfl h
  try cbv
  refine⟨false,?_⟩
  try cbv
  refine⟨true,?_⟩
  try cbv
  exact AO (m4,[.str LM]) [1,2,3] [.loc 0] 704 ⟨by omega,h⟩ (by cbv)
 replace h:=BG Bool.false_ne_true h
 try cbv
 refine Ax (T:=Nat×Bool) (fun t=>⟨[(1,.v (.c (.ptr (.loc 0) 0))),(2,.v (.d (.str ByteArray.empty))),(3,.v (.c (.nils false 1))),(7,.v (.d (.int .u8 z1))),(36,.v (.d (.bool t.2)))],[(.loc 0,.cells [.d (.int .u8 z1),.d (.int .i64 z2),.d (.int .i64 z3),.d (.int .u8 z4),.d (.int .i64 z5)])],576⟩) (fun t=>t.1≤m4∧I1 t.1 z1 z5 t.2=some r1) ?_ ?_
 ·try cbv
  refine Dr (fun e=>?_) (fun e=>?_)
  ·replace h:=BF e h
   clear e
   try cbv
   exact AO (m4,true) [1,2,3,7,36] [.loc 0] 576 ⟨by omega,h⟩ (by cbv)
  replace h:=BG e h
  clear e
  try cbv
  exact AO (m4,false) [1,2,3,7,36] [.loc 0] 576 ⟨by omega,h⟩ (by cbv)
 clear h
 rintro⟨m5,b14⟩ ⟨hm5,h⟩
 replace hm5:m5≤m4:=hm5
 obtain _ | m5:=m5
 ·replace h:I1 0 z1 z5 b14=some r1:=h
  rw[I1]at h
  cases h
 replace h:I1 (m5+1) z1 z5 b14=some r1:=h
 rw[I1]at h
 try cbv
 cases b14
 rotate_left
 ·replace h:=BF rfl h
  try cbv
  refine⟨false,?_⟩
  try cbv
  refine⟨true,?_⟩
  try cbv
  exact AO (m5,[.str EF]) [1,2,3] [.loc 0] 704 ⟨by omega,h⟩ (by cbv)
 replace h:=BG Bool.false_ne_true h
 try cbv
 refine Ax (T:=Nat×Bool) (fun t=>⟨[(1,.v (.c (.ptr (.loc 0) 0))),(2,.v (.d (.str ByteArray.empty))),(3,.v (.c (.nils false 1))),(39,.v (.d (.bool t.2)))],[(.loc 0,.cells [.d (.int .u8 z1),.d (.int .i64 z2),.d (.int .i64 z3),.d (.int .u8 z4),.d (.int .i64 z5)])],640⟩) (fun t=>t.1≤m5∧KL t.1 z5 t.2=some r1) ?_ ?_
 ·try cbv
  refine Dr (fun e=>?_) (fun e=>?_)
  ·replace h:=BF e h
   clear e
   try cbv
   exact AO (m5,true) [1,2,3,39] [.loc 0] 640 ⟨by omega,h⟩ (by cbv)
  replace h:=BG e h
  clear e
  try cbv
  exact AO (m5,false) [1,2,3,39] [.loc 0] 640 ⟨by omega,h⟩ (by cbv)
 clear h
 rintro⟨m6,b15⟩ ⟨hm6,h⟩
 replace hm6:m6≤m5:=hm6
 obtain _ | m6:=m6
 ·replace h:KL 0 z5 b15=some r1:=h
  rw[KL]at h
  cases h
 replace h:KL (m6+1) z5 b15=some r1:=h
 rw[KL]at h
 try cbv
 cases b15
 ·replace h:=BG Bool.false_ne_true h
  try cbv
  refine Ap ?_
  try cbv
  obtain rfl:=Option.some.inj h
  refine Br ?_
  try cbv
  exact⟨[],rfl,rfl,trivial,trivial,trivial⟩
 replace h:=BF rfl h
 try cbv
 refine⟨false,?_⟩
 try cbv
 refine⟨true,?_⟩
 try cbv
 exact AO (m6,[.str EG]) [1,2,3] [.loc 0] 704 ⟨by omega,h⟩ (by cbv)
def Hs:Nat→(List D)→Int→Bool→Option (ByteArray)
 | 0,_,_,_=>none
 | n+1,l1,z2,b5=>
  (if b5=true then some OB else DL (IntKind.wrap .u8 (z2 - 1)) fun z6=>MR l1 z6 fun x7=>RE x7 fun s8=>some s8)
def bJ (n:Nat) (l1:List D) (z2:Int):Option (ByteArray):=
 (if z2<(1:Int)then Hs n l1 z2 true else DL (IntKind.wrap .i64 z2) fun z3=>Q9 l1 fun z4=>(if z4<z3 then Hs n l1 z2 true else Hs n l1 z2 false))
theorem oZ (n:Nat):∀⦃l1:List D⦄ ⦃z2:Int⦄ ⦃r1:ByteArray⦄,bJ n l1 z2=some r1→
    Bf Tryz.prog inv 39 [.d (.list false 1 l1),.d (.int .u8 z2)] [] (.v (.d (.str r1))) [] []:=by
 intro l1 z2 r1 h
 unfold bJ at h
 refine Bf.of Dp DE XL Tryz.func39 rfl (by kernel_rfl) rfl rfl rfl (fun M hM hI=>?_)
 try cbv
 refine Ap ?_
 try cbv
 refine Ap ?_
 try cbv
 refine Ax (T:=Nat×Bool) (fun t=>⟨[(0,.v (.d (.list false 1 l1))),(1,.v (.d (.int .u8 z2))),(4,.v (.d (.str ByteArray.empty))),(13,.v (.d (.bool t.2)))],[],320⟩) (fun t=>t.1≤n∧Hs t.1 l1 z2 t.2=some r1) ?_ ?_
 ·try cbv
  refine FT (fun e=>?_) (fun e=>?_)
  ·replace h:=BF e h
   clear e
   try cbv
   exact AO (n,true) [0,1,4,13] [] 320 ⟨by omega,h⟩ (by cbv)
  replace h:=BG (Int.not_lt.2 e) h
  clear e
  try cbv
  replace h:=BO h
  obtain⟨z3,hz,h⟩:=h
  refine⟨z3,hz,?_⟩
  clear hz
  try cbv
  replace h:=FU M h
  obtain⟨z4,hz,h⟩:=h
  refine⟨z4,hz,?_⟩
  clear hz
  try cbv
  refine FT (fun e=>?_) (fun e=>?_)
  ·replace h:=BF e h
   clear e
   try cbv
   exact AO (n,true) [0,1,4,13] [] 320 ⟨by omega,h⟩ (by cbv)
  replace h:=BG (Int.not_lt.2 e) h
  clear e
  try cbv
  exact AO (n,false) [0,1,4,13] [] 320 ⟨by omega,h⟩ (by cbv)
 clear h
 rintro⟨m1,b5⟩ ⟨hm1,h⟩
 replace hm1:m1≤n:=hm1
 obtain _ | m1:=m1
 ·replace h:Hs 0 l1 z2 b5=some r1:=h
  rw[Hs]at h
  cases h
 replace h:Hs (m1+1) l1 z2 b5=some r1:=h
 rw[Hs]at h
 try cbv
 cases b5
 ·replace h:=BG Bool.false_ne_true h
  try cbv
  refine Ap ?_
  try cbv
  replace h:=BO h
  obtain⟨z6,hz,h⟩:=h
  refine⟨z6,hz,?_⟩
  clear hz
  try cbv
  replace h:=Hl h
  obtain⟨x7,⟨hx0,hx⟩,h⟩:=h
  refine⟨x7,hx0,hx,?_⟩
  clear hx0 hx
  replace h:=Uz h
  obtain⟨s8,rfl,h⟩:=h
  try cbv
  obtain rfl:=Option.some.inj h
  refine Br ?_
  try cbv
  exact⟨[],rfl,rfl,trivial,trivial,trivial⟩
 replace h:=BF rfl h
 try cbv
 refine Ap ?_
 try cbv
 obtain rfl:=Option.some.inj h
 refine Br ?_
 try cbv
 exact⟨[],rfl,rfl,trivial,trivial,trivial⟩
def F1:Nat→Int→ByteArray→Option (ByteArray)
 | 0,_,_=>none
 | n+1,z5,s21=>
  Ee s21 BK fun s22=>bO1 (XN n z5) fun s23=>Ee s22 s23 fun s24=>some s24
def KM:Nat→Int→Bool→Option (ByteArray)
 | 0,_,_=>none
 | n+1,z5,b20=>
  (if b20=true then F1 n z5 EG else some OB)
def I3:Nat→Int→Int→Bool→Option (ByteArray)
 | 0,_,_,_=>none
 | n+1,z1,z5,b19=>
  (if b19=true then F1 n z5 EF else (if z1=(5:Int)then KM n z5 true else KM n z5 false))
def Ht:Nat→Int→Int→Bool→Option (ByteArray)
 | 0,_,_,_=>none
 | n+1,z1,z5,b18=>
  (if b18=true then F1 n z5 LM else (if z1=(4:Int)then I3 n z1 z5 true else I3 n z1 z5 false))
def Gk:Nat→Int→Int→Int→Bool→Option (ByteArray)
 | 0,_,_,_,_=>none
 | n+1,z1,z4,z5,b15=>
  (if b15=true then bO1 (bJ n ([.str G7,.str G8,.str FW,.str G9,.str FX,.str Db]) z4) fun s16=>Ee OD s16 fun s17=>F1 n z5 s17 else (if z1=(3:Int)then Ht n z1 z5 true else Ht n z1 z5 false))
def I4:Nat→Int→Int→Int→Bool→Option (ByteArray)
 | 0,_,_,_,_=>none
 | n+1,z1,z4,z5,b12=>
  (if b12=true then bO1 (bJ n ([.str JR,.str JS,.str FV,.str Da,.str G5,.str G6]) z4) fun s13=>Ee OC s13 fun s14=>F1 n z5 s14 else (if z1=(6:Int)then Gk n z1 z4 z5 true else Gk n z1 z4 z5 false))
def Hu:Nat→Int→Int→Int→Int→Int→Bool→Option (ByteArray)
 | 0,_,_,_,_,_,_=>none
 | n+1,z1,z2,z3,z4,z5,b6=>
  (if b6=true then bO1 (XN n z2) fun s7=>Ee RD s7 fun s8=>Ee s8 BK fun s9=>bO1 (XN n z3) fun s10=>Ee s9 s10 fun s11=>F1 n z5 s11 else (if z1=(2:Int)then I4 n z1 z4 z5 true else I4 n z1 z4 z5 false))
def cZ (n:Nat) (z1:Int) (z2:Int) (z3:Int) (z4:Int) (z5:Int):Option (ByteArray):=
 (if z1=(1:Int)then Hu n z1 z2 z3 z4 z5 true else Hu n z1 z2 z3 z4 z5 false)
theorem pL (n:Nat):∀⦃z1:Int⦄ ⦃z2:Int⦄ ⦃z3:Int⦄ ⦃z4:Int⦄ ⦃z5:Int⦄ ⦃r1:ByteArray⦄,cZ n z1 z2 z3 z4 z5=some r1→
    Bf Tryz.prog inv 16 [.d (.agg [.int .u8 z1,.int .i64 z2,.int .i64 z3,.int .u8 z4,.int .i64 z5])] [] (.v (.d (.str r1))) [] []:=by
 intro z1 z2 z3 z4 z5 r1 h
 unfold cZ at h
 refine Bf.of Dp DE XL Tryz.func16 rfl (by kernel_rfl) rfl rfl rfl (fun M hM hI=>?_)
 try cbv
 refine Ap ?_
 try cbv
 refine Ap ?_
 try cbv
 refine Ax (T:=Nat×ByteArray) (fun t=>⟨[(1,.v (.c (.ptr (.loc 0) 0))),(2,.v (.d (.str ByteArray.empty))),(3,.v (.d (.str t.2)))],[(.loc 0,.cells [.d (.int .u8 z1),.d (.int .i64 z2),.d (.int .i64 z3),.d (.int .u8 z4),.d (.int .i64 z5)])],576⟩) (fun t=>t.1≤n∧F1 t.1 z5 t.2=some r1) ?_ ?_
 rotate_left
 ·clear h
  rintro⟨m7,s21⟩ ⟨hm7,h⟩
  replace hm7:m7≤n:=hm7
  obtain _ | m7:=m7
  ·replace h:F1 0 z5 s21=some r1:=h
   rw[F1]at h
   cases h
  replace h:F1 (m7+1) z5 s21=some r1:=h
  rw[F1]at h
  try cbv
  refine Ap ?_
  try cbv
  replace h:=Ck h
  obtain⟨s22,hz,hb,h⟩:=h
  refine⟨s22,hz,hb,?_⟩
  clear hb hz
  try cbv
  replace h:=CJ h
  obtain⟨s23,hr,h⟩:=h
  refine E0 rfl rfl ?_
  try cbv
  refine⟨true,?_⟩
  try cbv
  refine BU hM hI (nV _ hr) rfl ?_
  clear hr
  try cbv
  replace h:=Ck h
  obtain⟨s24,hz,hb,h⟩:=h
  refine⟨s24,hz,hb,?_⟩
  clear hb hz
  try cbv
  obtain rfl:=Option.some.inj h
  refine Br ?_
  try cbv
  exact⟨[],rfl,rfl,trivial,trivial,trivial⟩
 try cbv
 refine Ap ?_
 try cbv
 refine Ax (T:=Nat×Bool) (fun t=>⟨[(1,.v (.c (.ptr (.loc 0) 0))),(2,.v (.d (.str ByteArray.empty))),(3,.v (.d (.str ByteArray.empty))),(5,.v (.d (.int .u8 z1))),(6,.v (.d (.bool t.2)))],[(.loc 0,.cells [.d (.int .u8 z1),.d (.int .i64 z2),.d (.int .i64 z3),.d (.int .u8 z4),.d (.int .i64 z5)])],224⟩) (fun t=>t.1≤n∧Hu t.1 z1 z2 z3 z4 z5 t.2=some r1) ?_ ?_
 ·try cbv
  refine Dr (fun e=>?_) (fun e=>?_)
  ·replace h:=BF e h
   clear e
   try cbv
   exact AO (n,true) [1,2,3,5,6] [.loc 0] 224 ⟨by omega,h⟩ (by cbv)
  replace h:=BG e h
  clear e
  try cbv
  exact AO (n,false) [1,2,3,5,6] [.loc 0] 224 ⟨by omega,h⟩ (by cbv)
 clear h
 rintro⟨m1,b6⟩ ⟨hm1,h⟩
 replace hm1:m1≤n:=hm1
 obtain _ | m1:=m1
 ·replace h:Hu 0 z1 z2 z3 z4 z5 b6=some r1:=h
  rw[Hu]at h
  cases h
 replace h:Hu (m1+1) z1 z2 z3 z4 z5 b6=some r1:=h
 rw[Hu]at h
 try cbv
 cases b6
 rotate_left
 ·replace h:=BF rfl h
  try cbv
  replace h:=CJ h
  obtain⟨s7,hr,h⟩:=h
  first | refine .inr (.inl ⟨[],?_⟩) | refine .inl ⟨[],?_⟩
  try cbv
  refine⟨true,?_⟩
  try cbv
  refine BU hM hI (nV _ hr) rfl ?_
  clear hr
  try cbv
  replace h:=Ck h
  obtain⟨s8,hz,hb,h⟩:=h
  refine⟨s8,hz,hb,?_⟩
  clear hb hz
  try cbv
  replace h:=Ck h
  obtain⟨s9,hz,hb,h⟩:=h
  refine⟨s9,hz,hb,?_⟩
  clear hb hz
  try cbv
  replace h:=CJ h
  obtain⟨s10,hr,h⟩:=h
  first | refine .inr (.inl ⟨[],?_⟩) | refine .inl ⟨[],?_⟩
  try cbv
  refine⟨true,?_⟩
  try cbv
  refine BU hM hI (nV _ hr) rfl ?_
  clear hr
  try cbv
  replace h:=Ck h
  obtain⟨s11,hz,hb,h⟩:=h
  refine⟨s11,hz,hb,?_⟩
  clear hb hz
  try cbv
  refine drawn ?_ ?_
  ·show _=true
   kernel_rfl
  try cbv
  exact AO (m1,s11) [1,2,3] [.loc 0] 576 ⟨by omega,h⟩ (by cbv)
 replace h:=BG Bool.false_ne_true h
 try cbv
 refine Ax (T:=Nat×Bool) (fun t=>⟨[(1,.v (.c (.ptr (.loc 0) 0))),(2,.v (.d (.str ByteArray.empty))),(3,.v (.d (.str ByteArray.empty))),(5,.v (.d (.int .u8 z1))),(17,.v (.d (.bool t.2)))],[(.loc 0,.cells [.d (.int .u8 z1),.d (.int .i64 z2),.d (.int .i64 z3),.d (.int .u8 z4),.d (.int .i64 z5)])],288⟩) (fun t=>t.1≤m1∧I4 t.1 z1 z4 z5 t.2=some r1) ?_ ?_
 ·try cbv
  refine Dr (fun e=>?_) (fun e=>?_)
  ·replace h:=BF e h
   clear e
   try cbv
   exact AO (m1,true) [1,2,3,5,17] [.loc 0] 288 ⟨by omega,h⟩ (by cbv)
  replace h:=BG e h
  clear e
  try cbv
  exact AO (m1,false) [1,2,3,5,17] [.loc 0] 288 ⟨by omega,h⟩ (by cbv)
 clear h
 rintro⟨m2,b12⟩ ⟨hm2,h⟩
 replace hm2:m2≤m1:=hm2
 obtain _ | m2:=m2
 ·replace h:I4 0 z1 z4 z5 b12=some r1:=h
  rw[I4]at h
  cases h
 replace h:I4 (m2+1) z1 z4 z5 b12=some r1:=h
 rw[I4]at h
 try cbv
 cases b12
 rotate_left
 ·replace h:=BF rfl h
  try cbv
  refine⟨false,?_⟩
  try cbv
  refine⟨true,?_⟩
  try cbv
  replace h:=CJ h
  obtain⟨s13,hr,h⟩:=h
  refine E0 rfl rfl ?_
  try cbv
  refine⟨true,?_⟩
  try cbv
  refine BU hM hI (oZ _ hr) rfl ?_
  clear hr
  try cbv
  replace h:=Ck h
  obtain⟨s14,hz,hb,h⟩:=h
  refine⟨s14,hz,hb,?_⟩
  clear hb hz
  try cbv
  exact AO (m2,s14) [1,2,3] [.loc 0] 576 ⟨by omega,h⟩ (by cbv)
 replace h:=BG Bool.false_ne_true h
 try cbv
 refine Ax (T:=Nat×Bool) (fun t=>⟨[(1,.v (.c (.ptr (.loc 0) 0))),(2,.v (.d (.str ByteArray.empty))),(3,.v (.d (.str ByteArray.empty))),(5,.v (.d (.int .u8 z1))),(24,.v (.d (.bool t.2)))],[(.loc 0,.cells [.d (.int .u8 z1),.d (.int .i64 z2),.d (.int .i64 z3),.d (.int .u8 z4),.d (.int .i64 z5)])],352⟩) (fun t=>t.1≤m2∧Gk t.1 z1 z4 z5 t.2=some r1) ?_ ?_
 ·try cbv
  refine Dr (fun e=>?_) (fun e=>?_)
  ·replace h:=BF e h
   clear e
   try cbv
   exact AO (m2,true) [1,2,3,5,24] [.loc 0] 352 ⟨by omega,h⟩ (by cbv)
  replace h:=BG e h
  clear e
  try cbv
  exact AO (m2,false) [1,2,3,5,24] [.loc 0] 352 ⟨by omega,h⟩ (by cbv)
 clear h
 rintro⟨m3,b15⟩ ⟨hm3,h⟩
 replace hm3:m3≤m2:=hm3
 obtain _ | m3:=m3
 ·replace h:Gk 0 z1 z4 z5 b15=some r1:=h
  rw[Gk]at h
  cases h
 replace h:Gk (m3+1) z1 z4 z5 b15=some r1:=h
 rw[Gk]at h
 try cbv
 cases b15
 rotate_left
 ·replace h:=BF rfl h
  try cbv
  refine⟨false,?_⟩
  try cbv
  refine⟨true,?_⟩
  try cbv
  replace h:=CJ h
  obtain⟨s16,hr,h⟩:=h
  refine E0 rfl rfl ?_
  try cbv
  refine⟨true,?_⟩
  try cbv
  refine BU hM hI (oZ _ hr) rfl ?_
  clear hr
  try cbv
  replace h:=Ck h
  obtain⟨s17,hz,hb,h⟩:=h
  refine⟨s17,hz,hb,?_⟩
  clear hb hz
  try cbv
  exact AO (m3,s17) [1,2,3] [.loc 0] 576 ⟨by omega,h⟩ (by cbv)
 replace h:=BG Bool.false_ne_true h
 try cbv
 refine Ax (T:=Nat×Bool) (fun t=>⟨[(1,.v (.c (.ptr (.loc 0) 0))),(2,.v (.d (.str ByteArray.empty))),(3,.v (.d (.str ByteArray.empty))),(5,.v (.d (.int .u8 z1))),(31,.v (.d (.bool t.2)))],[(.loc 0,.cells [.d (.int .u8 z1),.d (.int .i64 z2),.d (.int .i64 z3),.d (.int .u8 z4),.d (.int .i64 z5)])],416⟩) (fun t=>t.1≤m3∧Ht t.1 z1 z5 t.2=some r1) ?_ ?_
 ·try cbv
  refine Dr (fun e=>?_) (fun e=>?_)
  ·replace h:=BF e h
   clear e
   try cbv
   exact AO (m3,true) [1,2,3,5,31] [.loc 0] 416 ⟨by omega,h⟩ (by cbv)
  replace h:=BG e h
  clear e
  try cbv
  exact AO (m3,false) [1,2,3,5,31] [.loc 0] 416 ⟨by omega,h⟩ (by cbv)
 clear h
 rintro⟨m4,b18⟩ ⟨hm4,h⟩
 replace hm4:m4≤m3:=hm4
 obtain _ | m4:=m4
 ·replace h:Ht 0 z1 z5 b18=some r1:=h
  rw[Ht]at h
  cases h
 replace h:Ht (m4+1) z1 z5 b18=some r1:=h
 rw[Ht]at h
 try cbv
 cases b18
 rotate_left
 ·replace h:=BF rfl h
  try cbv
  exact AO (m4,LM) [1,2,3] [.loc 0] 576 ⟨by omega,h⟩ (by cbv)
 replace h:=BG Bool.false_ne_true h
 try cbv
 refine Ax (T:=Nat×Bool) (fun t=>⟨[(1,.v (.c (.ptr (.loc 0) 0))),(2,.v (.d (.str ByteArray.empty))),(3,.v (.d (.str ByteArray.empty))),(5,.v (.d (.int .u8 z1))),(33,.v (.d (.bool t.2)))],[(.loc 0,.cells [.d (.int .u8 z1),.d (.int .i64 z2),.d (.int .i64 z3),.d (.int .u8 z4),.d (.int .i64 z5)])],480⟩) (fun t=>t.1≤m4∧I3 t.1 z1 z5 t.2=some r1) ?_ ?_
 ·try cbv
  refine Dr (fun e=>?_) (fun e=>?_)
  ·replace h:=BF e h
   clear e
   try cbv
   exact AO (m4,true) [1,2,3,5,33] [.loc 0] 480 ⟨by omega,h⟩ (by cbv)
  replace h:=BG e h
  clear e
  try cbv
  exact AO (m4,false) [1,2,3,5,33] [.loc 0] 480 ⟨by omega,h⟩ (by cbv)
 clear h
 rintro⟨m5,b19⟩ ⟨hm5,h⟩
 replace hm5:m5≤m4:=hm5
 obtain _ | m5:=m5
 ·replace h:I3 0 z1 z5 b19=some r1:=h
  rw[I3]at h
  cases h
 replace h:I3 (m5+1) z1 z5 b19=some r1:=h
 rw[I3]at h
 try cbv
 cases b19
 rotate_left
 ·replace h:=BF rfl h
  try cbv
  exact AO (m5,EF) [1,2,3] [.loc 0] 576 ⟨by omega,h⟩ (by cbv)
 replace h:=BG Bool.false_ne_true h
 try cbv
 refine Ax (T:=Nat×Bool) (fun t=>⟨[(1,.v (.c (.ptr (.loc 0) 0))),(2,.v (.d (.str ByteArray.empty))),(3,.v (.d (.str ByteArray.empty))),(35,.v (.d (.bool t.2)))],[(.loc 0,.cells [.d (.int .u8 z1),.d (.int .i64 z2),.d (.int .i64 z3),.d (.int .u8 z4),.d (.int .i64 z5)])],544⟩) (fun t=>t.1≤m5∧KM t.1 z5 t.2=some r1) ?_ ?_
 ·try cbv
  refine Dr (fun e=>?_) (fun e=>?_)
  ·replace h:=BF e h
   clear e
   try cbv
   exact AO (m5,true) [1,2,3,35] [.loc 0] 544 ⟨by omega,h⟩ (by cbv)
  replace h:=BG e h
  clear e
  try cbv
  exact AO (m5,false) [1,2,3,35] [.loc 0] 544 ⟨by omega,h⟩ (by cbv)
 clear h
 rintro⟨m6,b20⟩ ⟨hm6,h⟩
 replace hm6:m6≤m5:=hm6
 obtain _ | m6:=m6
 ·replace h:KM 0 z5 b20=some r1:=h
  rw[KM]at h
  cases h
 replace h:KM (m6+1) z5 b20=some r1:=h
 rw[KM]at h
 try cbv
 cases b20
 ·replace h:=BG Bool.false_ne_true h
  try cbv
  refine Ap ?_
  try cbv
  obtain rfl:=Option.some.inj h
  refine Br ?_
  try cbv
  exact⟨[],rfl,rfl,trivial,trivial,trivial⟩
 replace h:=BF rfl h
 try cbv
 exact AO (m6,EG) [1,2,3] [.loc 0] 576 ⟨by omega,h⟩ (by cbv)
def ME:Nat→(List D)→Bool→Option (List D)
 | 0,_,_=>none
 | n+1,l1,b2=>
  (if b2=true then some ([]:List D)else Ed 8 [] l1 fun l3=>some l3)
def nA (n:Nat) (l1:List D):Option (List D):=
 (RB l1 (ME n l1 true) (ME n l1 false))
theorem pM (n:Nat):∀⦃l1:List D⦄ ⦃r1:List D⦄,nA n l1=some r1→
    Bf Tryz.prog inv 28 [.d (.list false 1 l1)] [] (.v (.d (.list false 1 r1))) [] []:=by
 intro l1 r1 h
 unfold nA at h
 refine Bf.of Dp DE XL Tryz.func28 rfl (by kernel_rfl) rfl rfl rfl (fun M hM hI=>?_)
 try cbv
 refine Ap ?_
 try cbv
 refine Ap ?_
 try cbv
 refine Ax (T:=Nat×Bool) (fun t=>⟨[(0,.v (.d (.list false 1 l1))),(2,.v (.c (.nils false 1))),(4,.v (.d (.bool t.2)))],[],96⟩) (fun t=>t.1≤n∧ME t.1 l1 t.2=some r1) ?_ ?_
 ·try cbv
  replace h:=Hm h
  obtain⟨h,hA⟩:=h
  refine KG ?_ (fun e=>?_)
  ·clear hA
   try cbv
   exact AO (n,false) [0,2,4] [] 96 ⟨by omega,h⟩ (by cbv)
  replace h:=hA e
  clear hA
  try cbv
  exact AO (n,true) [0,2,4] [] 96 ⟨by omega,h⟩ (by cbv)
 clear h
 rintro⟨m1,b2⟩ ⟨hm1,h⟩
 replace hm1:m1≤n:=hm1
 obtain _ | m1:=m1
 ·replace h:ME 0 l1 b2=some r1:=h
  rw[ME]at h
  cases h
 replace h:ME (m1+1) l1 b2=some r1:=h
 rw[ME]at h
 try cbv
 cases b2
 ·replace h:=BG Bool.false_ne_true h
  try cbv
  refine Ap ?_
  try cbv
  refine⟨false,?_⟩
  try cbv
  refine⟨true,?_⟩
  try cbv
  replace h:=DM h
  obtain⟨l3,hb,hz,h⟩:=h
  refine⟨false,?_⟩
  try cbv
  refine⟨(M.lock_iff _).2 hb,l3,hz,false,?_⟩
  clear hb hz
  try cbv
  obtain rfl:=Option.some.inj h
  refine Br ?_
  try cbv
  exact⟨[],rfl,rfl,trivial,trivial,trivial⟩
 replace h:=BF rfl h
 try cbv
 refine Ap ?_
 try cbv
 obtain rfl:=Option.some.inj h
 refine Br ?_
 try cbv
 exact⟨[],rfl,rfl,trivial,trivial,trivial⟩
def Hv:Nat→(List D)→Bool→Option (List D)
 | 0,_,_=>none
 | n+1,l1,b2=>
  (if b2=true then some ([]:List D)else Ed 88 [] l1 fun l3=>some l3)
def dA (n:Nat) (l1:List D):Option (List D):=
 (RB l1 (Hv n l1 true) (Hv n l1 false))
theorem nW (n:Nat):∀⦃l1:List D⦄ ⦃r1:List D⦄,dA n l1=some r1→
    Bf Tryz.prog inv 126 [.d (.list true 6 l1)] [] (.v (.d (.list true 6 r1))) [] []:=by
 intro l1 r1 h
 unfold dA at h
 refine Bf.of Dp DE XL Tryz.func126 rfl (by kernel_rfl) rfl rfl rfl (fun M hM hI=>?_)
 try cbv
 refine Ap ?_
 try cbv
 refine Ap ?_
 try cbv
 refine Ax (T:=Nat×Bool) (fun t=>⟨[(0,.v (.d (.list true 6 l1))),(2,.v (.c (.nils true 6))),(4,.v (.d (.bool t.2)))],[],96⟩) (fun t=>t.1≤n∧Hv t.1 l1 t.2=some r1) ?_ ?_
 ·try cbv
  replace h:=Hm h
  obtain⟨h,hA⟩:=h
  refine KG ?_ (fun e=>?_)
  ·clear hA
   try cbv
   exact AO (n,false) [0,2,4] [] 96 ⟨by omega,h⟩ (by cbv)
  replace h:=hA e
  clear hA
  try cbv
  exact AO (n,true) [0,2,4] [] 96 ⟨by omega,h⟩ (by cbv)
 clear h
 rintro⟨m1,b2⟩ ⟨hm1,h⟩
 replace hm1:m1≤n:=hm1
 obtain _ | m1:=m1
 ·replace h:Hv 0 l1 b2=some r1:=h
  rw[Hv]at h
  cases h
 replace h:Hv (m1+1) l1 b2=some r1:=h
 rw[Hv]at h
 try cbv
 cases b2
 ·replace h:=BG Bool.false_ne_true h
  try cbv
  refine Ap ?_
  try cbv
  refine⟨false,?_⟩
  try cbv
  refine⟨true,?_⟩
  try cbv
  replace h:=DM h
  obtain⟨l3,hb,hz,h⟩:=h
  refine⟨false,?_⟩
  try cbv
  refine⟨(M.lock_iff _).2 hb,l3,hz,false,?_⟩
  clear hb hz
  try cbv
  obtain rfl:=Option.some.inj h
  refine Br ?_
  try cbv
  exact⟨[],rfl,rfl,trivial,trivial,trivial⟩
 replace h:=BF rfl h
 try cbv
 refine Ap ?_
 try cbv
 obtain rfl:=Option.some.inj h
 refine Br ?_
 try cbv
 exact⟨[],rfl,rfl,trivial,trivial,trivial⟩
def Hw:Nat→(List D)→Bool→Option (List D)
 | 0,_,_=>none
 | n+1,l1,b2=>
  (if b2=true then some ([]:List D)else Ed 16 [] l1 fun l3=>some l3)
def dB (n:Nat) (l1:List D):Option (List D):=
 (RB l1 (Hw n l1 true) (Hw n l1 false))
theorem nX (n:Nat):∀⦃l1:List D⦄ ⦃r1:List D⦄,dB n l1=some r1→
    Bf Tryz.prog inv 195 [.d (.list false 1 l1)] [] (.v (.d (.list false 1 r1))) [] []:=by
 intro l1 r1 h
 unfold dB at h
 refine Bf.of Dp DE XL Tryz.func195 rfl (by kernel_rfl) rfl rfl rfl (fun M hM hI=>?_)
 try cbv
 refine Ap ?_
 try cbv
 refine Ap ?_
 try cbv
 refine Ax (T:=Nat×Bool) (fun t=>⟨[(0,.v (.d (.list false 1 l1))),(2,.v (.c (.nils false 1))),(4,.v (.d (.bool t.2)))],[],96⟩) (fun t=>t.1≤n∧Hw t.1 l1 t.2=some r1) ?_ ?_
 ·try cbv
  replace h:=Hm h
  obtain⟨h,hA⟩:=h
  refine KG ?_ (fun e=>?_)
  ·clear hA
   try cbv
   exact AO (n,false) [0,2,4] [] 96 ⟨by omega,h⟩ (by cbv)
  replace h:=hA e
  clear hA
  try cbv
  exact AO (n,true) [0,2,4] [] 96 ⟨by omega,h⟩ (by cbv)
 clear h
 rintro⟨m1,b2⟩ ⟨hm1,h⟩
 replace hm1:m1≤n:=hm1
 obtain _ | m1:=m1
 ·replace h:Hw 0 l1 b2=some r1:=h
  rw[Hw]at h
  cases h
 replace h:Hw (m1+1) l1 b2=some r1:=h
 rw[Hw]at h
 try cbv
 cases b2
 ·replace h:=BG Bool.false_ne_true h
  try cbv
  refine Ap ?_
  try cbv
  refine⟨false,?_⟩
  try cbv
  refine⟨true,?_⟩
  try cbv
  replace h:=DM h
  obtain⟨l3,hb,hz,h⟩:=h
  refine⟨false,?_⟩
  try cbv
  refine⟨(M.lock_iff _).2 hb,l3,hz,false,?_⟩
  clear hb hz
  try cbv
  obtain rfl:=Option.some.inj h
  refine Br ?_
  try cbv
  exact⟨[],rfl,rfl,trivial,trivial,trivial⟩
 replace h:=BF rfl h
 try cbv
 refine Ap ?_
 try cbv
 obtain rfl:=Option.some.inj h
 refine Br ?_
 try cbv
 exact⟨[],rfl,rfl,trivial,trivial,trivial⟩
def Hx:Nat→(List D)→Bool→Option (List D)
 | 0,_,_=>none
 | n+1,l1,b2=>
  (if b2=true then some ([]:List D)else Ed 64 [] l1 fun l3=>some l3)
def dC (n:Nat) (l1:List D):Option (List D):=
 (RB l1 (Hx n l1 true) (Hx n l1 false))
theorem nY (n:Nat):∀⦃l1:List D⦄ ⦃r1:List D⦄,dC n l1=some r1→
    Bf Tryz.prog inv 196 [.d (.list true 4 l1)] [] (.v (.d (.list true 4 r1))) [] []:=by
 intro l1 r1 h
 unfold dC at h
 refine Bf.of Dp DE XL Tryz.func196 rfl (by kernel_rfl) rfl rfl rfl (fun M hM hI=>?_)
 try cbv
 refine Ap ?_
 try cbv
 refine Ap ?_
 try cbv
 refine Ax (T:=Nat×Bool) (fun t=>⟨[(0,.v (.d (.list true 4 l1))),(2,.v (.c (.nils true 4))),(4,.v (.d (.bool t.2)))],[],96⟩) (fun t=>t.1≤n∧Hx t.1 l1 t.2=some r1) ?_ ?_
 ·try cbv
  replace h:=Hm h
  obtain⟨h,hA⟩:=h
  refine KG ?_ (fun e=>?_)
  ·clear hA
   try cbv
   exact AO (n,false) [0,2,4] [] 96 ⟨by omega,h⟩ (by cbv)
  replace h:=hA e
  clear hA
  try cbv
  exact AO (n,true) [0,2,4] [] 96 ⟨by omega,h⟩ (by cbv)
 clear h
 rintro⟨m1,b2⟩ ⟨hm1,h⟩
 replace hm1:m1≤n:=hm1
 obtain _ | m1:=m1
 ·replace h:Hx 0 l1 b2=some r1:=h
  rw[Hx]at h
  cases h
 replace h:Hx (m1+1) l1 b2=some r1:=h
 rw[Hx]at h
 try cbv
 cases b2
 ·replace h:=BG Bool.false_ne_true h
  try cbv
  refine Ap ?_
  try cbv
  refine⟨false,?_⟩
  try cbv
  refine⟨true,?_⟩
  try cbv
  replace h:=DM h
  obtain⟨l3,hb,hz,h⟩:=h
  refine⟨false,?_⟩
  try cbv
  refine⟨(M.lock_iff _).2 hb,l3,hz,false,?_⟩
  clear hb hz
  try cbv
  obtain rfl:=Option.some.inj h
  refine Br ?_
  try cbv
  exact⟨[],rfl,rfl,trivial,trivial,trivial⟩
 replace h:=BF rfl h
 try cbv
 refine Ap ?_
 try cbv
 obtain rfl:=Option.some.inj h
 refine Br ?_
 try cbv
 exact⟨[],rfl,rfl,trivial,trivial,trivial⟩
end Go.Proofs.YtaomkgkdfafiiaaGreatDoor
end
namespace Go.AM
open Go Go.RowKit
structure Jg where
 res:AV
 post:List AB
 new:List AB
section
variable {γ:Type}{r:γ}
def ZH (op:BinOp) (q:IntKind) (a b:Int) (k:D→Option γ):Option γ:=
 match op with
 | .add=>DL (q.wrap (a+b)) fun z=>k (.int q z)
 | .sub=>DL (q.wrap (a - b)) fun z=>k (.int q z)
 | .mul=>DL (q.wrap (a*b)) fun z=>k (.int q z)
 | .eql=>if a=b then k (.bool true)else k (.bool false)
 | .neq=>if a=b then k (.bool false)else k (.bool true)
 | .lss=>if a<b then k (.bool true)else k (.bool false)
 | .leq=>if a≤b then k (.bool true)else k (.bool false)
 | .gtr=>if b<a then k (.bool true)else k (.bool false)
 | .geq=>if b≤a then k (.bool true)else k (.bool false)
 | _=>none
theorem ZI {M:AY}{op:BinOp}{q:IntKind}{a b:Int}{k:D→Option γ}{P:D→Prop}(hk:∀d,k d=some r→P d) (h:ZH op q a b k=some r):Es M op q a b P:=by
 cases op<;>simp only[ZH]at h<;>try contradiction
 ·exact⟨_,rfl,hk _ h⟩
 ·exact⟨_,rfl,hk _ h⟩
 ·exact⟨_,rfl,hk _ h⟩
 ·simp only[Es,M.split_iff,M.eqI_eq]
  by_cases c:a=b
  ·rw[if_pos c]at h;rw[beq_iff_eq.2 c];exact hk _ h
  ·rw[if_neg c]at h;rw[beq_eq_false_iff_ne.2 c];exact hk _ h
 ·simp only[Es,M.split_iff,M.eqI_eq]
  by_cases c:a=b
  ·rw[if_pos c]at h;rw[beq_iff_eq.2 c];exact hk _ h
  ·rw[if_neg c]at h;rw[beq_eq_false_iff_ne.2 c];exact hk _ h
 ·simp only[Es,M.split_iff,M.ltI_eq]
  by_cases c:a<b
  ·rw[if_pos c]at h;rw[decide_eq_true c];exact hk _ h
  ·rw[if_neg c]at h;rw[decide_eq_false c];exact hk _ h
 ·simp only[Es,M.split_iff,M.leI_eq]
  by_cases c:a≤b
  ·rw[if_pos c]at h;rw[decide_eq_true c];exact hk _ h
  ·rw[if_neg c]at h;rw[decide_eq_false c];exact hk _ h
 ·simp only[Es,M.split_iff,M.ltI_eq]
  by_cases c:b<a
  ·rw[if_pos c]at h;rw[decide_eq_true c];exact hk _ h
  ·rw[if_neg c]at h;rw[decide_eq_false c];exact hk _ h
 ·simp only[Es,M.split_iff,M.leI_eq]
  by_cases c:b≤a
  ·rw[if_pos c]at h;rw[decide_eq_true c];exact hk _ h
  ·rw[if_neg c]at h;rw[decide_eq_false c];exact hk _ h
def ZJ (op:BinOp) (a b:ByteArray) (k:D→Option γ):Option γ:=
 match op with
 | .add=>Ee a b fun c=>k (.str c)
 | .eql=>if a=b then k (.bool true)else k (.bool false)
 | .neq=>if a=b then k (.bool false)else k (.bool true)
 | _=>none
theorem ZK {M:AY}{op:BinOp}{a b:ByteArray}{k:D→Option γ}{P:D→Prop}(hk:∀d,k d=some r→P d) (h:ZJ op a b k=some r):Lx M op a b P:=by
 cases op<;>simp only[ZJ]at h<;>try contradiction
 ·obtain⟨c,h1,h2,h3⟩:=Ck h
  exact⟨c,h1,h2,hk _ h3⟩
 ·simp only[Lx,M.split_iff,M.eqS_eq]
  by_cases c:a=b
  ·rw[if_pos c]at h;rw[Cj.2 c];exact hk _ h
  ·rw[if_neg c]at h;rw[Bool.eq_false_iff.2 fun e=>c (Cj.1 e)];exact hk _ h
 ·simp only[Lx,M.split_iff,M.eqS_eq]
  by_cases c:a=b
  ·rw[if_pos c]at h;rw[Cj.2 c];exact hk _ h
  ·rw[if_neg c]at h;rw[Bool.eq_false_iff.2 fun e=>c (Cj.1 e)];exact hk _ h
def V6 (x:AV) (k:Bool→Option γ):Option γ:=
 match x with
 | .v (.d (.bool b))=>k b
 | _=>none
def PG (x:AV) (k:Int→Option γ):Option γ:=
 match x with
 | .v (.d (.int _ n))=>k n
 | _=>none
def CZ (ti:Types) (t:TypeId) (k:TI→Option γ):Option γ:=
 match ti t with
 | some x=>k x
 | none=>none
def dD (x:AV) (k:Bool→Nat→List D→Option γ):Option γ:=
 match x with
 | .v (.d (.list ag sz rows))=>k ag sz rows
 | .v (.c (.lst _ ag sz rows))=>k ag sz rows
 | .v (.c (.nils ag sz))=>k ag sz []
 | .v (.c (.tl ag sz rows))=>k ag sz rows
 | _=>none
def Aj (c:Bool) (x:Option γ):Option γ:=
 match c with
 | true=>x
 | false=>none
theorem Af {ti:Types}{t:TypeId}{k:TI→Option γ}{P:TI→Prop}(hk:∀i,k i=some r→P i) (h:CZ ti t k=some r):Ac ti t P:=by
 unfold CZ at h
 unfold Ac
 split at h
 ·rename_i x hx;rw[hx];exact hk _ h
 ·cases h
theorem AQ {c:Bool}{x:Option γ}{P:Prop}(hk:x=some r→P) (h:Aj c x=some r):Ay c P:=by
 cases c
 ·cases h
 ·exact hk h
theorem Hy {x:AV}{k:Int→Option γ}{P:IntKind→Int→Prop}(hk:∀q n,k n=some r→P q n) (h:PG x k=some r):Cy x P:=by
 unfold PG at h
 split at h
 ·exact hk _ _ h
 ·cases h
theorem LO {x:AV}{k:Bool→Nat→List D→Option γ}{P:Bool→Nat→List D→Prop}(hk:∀a s l,k a s l=some r→P a s l) (h:dD x k=some r):HJ x P:=by
 unfold dD at h
 split at h
 ·exact hk _ _ _ h
 ·exact hk _ _ _ h
 ·exact hk _ _ _ h
 ·exact hk _ _ _ h
 ·cases h
theorem U0 {x:AV}{k:Bool→Option γ}{P:Bool→Prop}(hk:∀b,k b=some r→P b) (h:V6 x k=some r):Lw x P:=by
 unfold V6 at h
 split at h
 ·exact hk _ h
 ·cases h
def LP (ti:Types) (t:TypeId) (x:AV) (h:AE) (k:Out→Option γ):Option γ:=
 CZ ti t fun i=>match x with
 | .v (.c (.ptr id o))=>(match h id with
  | some (.cells cs)=>Aj (Nat.ble (o+i.size) cs.length) (k ⟨.v (V1.AZ (AU i.desc) ((cs.drop o).take i.size)),[id],[]⟩)
  | _=>none)
 | .v (.c (.row ag sz d))=>Aj (AU i.desc==ag) (Aj (Nat.beq sz i.size) (k ⟨.v (.d d),[],[]⟩))
 | .v (.c (.rp cs))=>Aj (Nat.ble i.size cs.length) (k ⟨.v (V1.AZ (AU i.desc) ((cs.take i.size).map CV.d)),[],[]⟩)
 | .v (.c (.fb id))=>Aj (Nat.beq i.size 1) (k ⟨.v (V1.AZ (AU i.desc) [.ptr id 0]),[],[]⟩)
 | _=>none
theorem LQ {ti:Types}{t:TypeId}{x:AV}{h:AE}{k:Out→Option γ}{P:Out→Prop}(hk:∀o,k o=some r→P o) (e:LP ti t x h k=some r):Fm ti t x h P:=by
 unfold LP at e
 unfold Fm
 refine Af (fun i e=>?_) e
 split at e
 ·split at e
  ·rename_i hc
   simp only[hc]
   exact AQ (hk _) e
  ·cases e
 ·exact AQ (AQ (hk _)) e
 ·exact AQ (hk _) e
 ·exact AQ (hk _) e
 ·cases e
def Mj (ti:Types) (t:TypeId) (x y:AV) (h:AE) (k:Out→Option γ):Option γ:=
 CZ ti t fun i=>match y with
 | .v y=>(match x with
  | .v (.c (.ptr id o))=>(match h id with
   | some (.cells cs)=>Aj (Nat.ble (o+i.size) cs.length) (Aj (Nat.beq y.cells.length i.size) (k ⟨.u,[id],[(id,.cells (cs.take o++y.cells++cs.drop (o+i.size)))]⟩))
   | _=>none)
  | _=>none)
 | _=>none
theorem OH {ti:Types}{t:TypeId}{x y:AV}{h:AE}{k:Out→Option γ}{P:Out→Prop}(hk:∀o,k o=some r→P o) (e:Mj ti t x y h k=some r):HN ti t x y h P:=by
 unfold Mj at e
 unfold HN
 refine Af (fun i e=>?_) e
 split at e
 ·split at e
  ·split at e
   ·rename_i hc
    simp only[DI,hc]
    exact AQ (AQ (hk _)) e
   ·cases e
  ·cases e
 ·cases e
def KN (ti:Types) (t:TypeId) (x:AV) (f:Nat) (k:Out→Option γ):Option γ:=
 CZ ti t fun i=>match i.desc with
 | .struct fs=>(match fs[f]? with
  | some fd=>CZ ti fd.type fun j=>Aj (Nat.blt 0 j.size) (match x with
   | .v (.c (.ptr id o))=>k ⟨.v (.c (.ptr id (o+fd.offset))),[],[]⟩
   | .v (.c (.row _ _ d))=>k ⟨.v (.c (.rp (d.cells.drop fd.offset))),[],[]⟩
   | .v (.c (.rp cs))=>k ⟨.v (.c (.rp (cs.drop fd.offset))),[],[]⟩
   | _=>none)
  | none=>none)
 | _=>none
theorem OI {ti:Types}{t:TypeId}{x:AV}{f:Nat}{k:Out→Option γ}{P:Out→Prop}(hk:∀o,k o=some r→P o) (e:KN ti t x f k=some r):HO ti t x f P:=by
 unfold KN at e
 unfold HO
 refine Af (fun i e=>?_) e
 split at e
 ·rename_i fs hf
  split at e
  ·rename_i fd hfd
   simp only[hf,hfd]
   refine Af (fun j e=>AQ (fun e=>?_) e) e
   split at e
   ·exact hk _ e
   ·exact hk _ e
   ·exact hk _ e
   ·cases e
  ·cases e
 ·cases e
abbrev Ds (γ:Type):=TypeId→D→(D→Option γ)→Option γ
def Ds.ok (ds:Ds γ):Prop:=∀t x k r,ds t x k=some r→k x=some r
theorem fI {c:Bool}{x:Option γ}(h:Aj c x=some r):c=true∧x=some r:=by
 cases c
 ·cases h
 ·exact⟨rfl,h⟩
def Mk (ds:Ds γ) (ti:Types) (t:TypeId) (x i:AV) (k:Out→Option γ):Option γ:=
 PG i fun n=>CZ ti t fun q=>match q.desc with
 | .slice e=>CZ ti e fun j=>(match x with
  | .v (.c (.sl id len))=>(match n with
   | .ofNat p=>Aj (Nat.blt p len) (k ⟨.v (.c (.ptr id (p*j.size))),[],[]⟩)
   | .negSucc _=>none)
  | x=>dD x fun ag sz rows=>Aj (AU j.desc==ag)<| Aj (Nat.beq sz j.size)<| MR rows n fun d=>ds e d fun d=>k ⟨.v (.c (.row ag sz d)),[],[]⟩)
 | .array len e=>CZ ti e fun j=>(match x with
  | .v (.c (.ptr id o))=>(match n with
   | .ofNat p=>Aj (Nat.blt p len) (k ⟨.v (.c (.ptr id (o+p*j.size))),[],[]⟩)
   | .negSucc _=>none)
  | _=>none)
 | _=>none
theorem OJ {ds:Ds γ}(hd:ds.ok) {ti:Types}{t:TypeId}{x i:AV}{k:Out→Option γ}{P:Out→Prop}(hk:∀o,k o=some r→P o) (e:Mk ds ti t x i k=some r):HP ti t x i P:=by
 unfold Mk at e
 unfold HP
 refine Hy (fun _ n e=>Af (fun q e=>?_) e) e
 split at e
 ·rename_i el hq
  simp only[hq]
  refine Af (fun j e=>?_) e
  split at e
  ·split at e
   ·obtain⟨h1,e⟩:=fI e
    exact⟨_,⟨rfl,by simpa using h1⟩,hk _ e⟩
   ·cases e
  have main:HJ x fun ag sz rows=>Ay (AU j.desc==ag)<| Ay (Nat.beq sz j.size)<| ∃r_1,0≤n∧rows[n.toNat]?=some r_1∧P ⟨.v (.c (.row ag sz r_1)),[],[]⟩:=by
   refine LO (fun ag sz rows e=>AQ (AQ fun e=>?_) e) e
   obtain⟨d,⟨h1,h2⟩,h3⟩:=Hl e
   exact⟨d,h1,h2,hk _ (hd _ _ _ _ h3)⟩
  split
  ·exact main.elim
  ·exact main
 ·rename_i hq
  simp only[hq]
  refine Af (fun j e=>?_) e
  split at e
  ·split at e
   ·obtain⟨h1,e⟩:=fI e
    exact⟨Int.natCast_nonneg _,Int.ofNat_lt.2 (by simpa using h1),true,hk _ e⟩
   ·cases e
  ·cases e
 ·cases e
def ZL (ti:Types) (op:BinOp) (t:TypeId) (x y:AV) (k:Out→Option γ):Option γ:=
 match x,y with
 | .v (.d (.int q a)),.v (.d (.int q' b))=>Aj (decide (q=q')) (ZH op q a b fun d=>k ⟨.v (.d d),[],[]⟩)
 | .v (.d (.str a)),.v (.d (.str b))=>ZJ op a b fun d=>k ⟨.v (.d d),[],[]⟩
 | .v (.d (.bool a)),.v (.d (.bool b))=>CZ ti t fun i=>(match i.desc with
  | .bool=>(match op with
   | .eql=>Y9 (a==b) fun q=>k ⟨.v (.d (.bool q)),[],[]⟩
   | .neq=>Y9 (!(a==b)) fun q=>k ⟨.v (.d (.bool q)),[],[]⟩
   | _=>none)
  | _=>none)
 | _,_=>none
theorem ZM {M:AY}{ti:Types}{op:BinOp}{t:TypeId}{x y:AV}{k:Out→Option γ}{P:Out→Prop}(hk:∀o,k o=some r→P o) (e:ZL ti op t x y k=some r):M8 M ti op t x y P:=by
 unfold ZL at e
 split at e
 ·exact AQ (fun e=>ZI (fun d h=>hk _ h) e) e
 ·exact ZK (fun d h=>hk _ h) e
 ·refine Af (fun i e=>?_) e
  split at e
  ·rename_i hi
   simp only[hi]
   split at e
   ·exact⟨_,Ex _ _,hk _ e⟩
   ·exact⟨_,by rw[DB,Ex],hk _ e⟩
   ·cases e
  ·cases e
 ·cases e
def dE (op:UnOp) (x:AV) (k:Out→Option γ):Option γ:=
 match op,x with
 | .not,.v (.d (.bool b))=>Y9 (!b) fun q=>k ⟨.v (.d (.bool q)),[],[]⟩
 | _,_=>none
theorem V7 {op:UnOp}{x:AV}{k:Out→Option γ}{P:Out→Prop}(hk:∀o,k o=some r→P o) (e:dE op x k=some r):Vn op x P:=by
 unfold dE at e
 split at e
 ·exact⟨_,DB _,hk _ e⟩
 ·cases e
def V8 (ti:Types) (t:TypeId) (x:AV) (k:Out→Option γ):Option γ:=
 CZ ti t fun q=>match q.desc with
 | .slice _=>(match x with
  | .v (.c (.sl _ n))=>k ⟨.v (.d (.int .i64 n)),[],[]⟩
  | x=>dD x fun _ _ rows=>Q9 rows fun z=>k ⟨.v (.d (.int .i64 z)),[],[]⟩)
 | .string=>(match x with
  | .v (.d (.str s))=>oT s fun z=>k ⟨.v (.d (.int .i64 z)),[],[]⟩
  | _=>none)
 | .array n _=>k ⟨.v (.d (.int .i64 n)),[],[]⟩
 | _=>none
theorem Tc {M:AY}{ti:Types}{t:TypeId}{x:AV}{k:Out→Option γ}{P:Out→Prop}(hk:∀o,k o=some r→P o) (e:V8 ti t x k=some r):M6 M ti t x P:=by
 unfold V8 at e
 unfold M6
 refine Af (fun q e=>?_) e
 split at e
 ·rename_i hq
  simp only[hq]
  split at e
  ·exact⟨_,rfl,hk _ e⟩
  have main:HJ x fun _ _ rows=>∃z:Int,M.lenI rows=z∧P ⟨.v (.d (.int .i64 z)),[],[]⟩:=LO (fun _ _ rows e=>(FU M e).imp fun z h=>⟨h.1,hk _ h.2⟩) e
  split
  ·exact main.elim
  ·exact main
 ·rename_i hq
  simp only[hq]
  split at e
  ·exact (cU M e).imp fun z h=>⟨h.1,hk _ h.2⟩
  ·cases e
 ·rename_i hq
  simp only[hq]
  exact hk _ e
 ·cases e
def RJ (ti:Types) (s:AN) (fs:List Field) (cs:List CV):List (Nat×Operand)→(List CV→Option γ)→Option γ
 | [],k=>k cs
 | (i,x)::r,k=>match fs[i]? with
  | some fd=>CZ ti fd.type fun j=>(match AP ti s fd.type x with
   | .v y=>Aj (Nat.beq y.cells.length j.size)<| Aj (Nat.ble (fd.offset+j.size) cs.length)<| RJ ti s fs (cs.take fd.offset++y.cells++cs.drop (fd.offset+j.size)) r k
   | _=>none)
  | none=>none
theorem Pz {ti:Types}{s:AN}{fs:List Field}:∀{l:List (Nat×Operand)}{cs:List CV}{k:List CV→Option γ}{P:List CV→Prop},(∀cs,k cs=some r→P cs)→RJ ti s fs cs l k=some r→PN ti s fs cs l P
 | [],_,_,_,hk,e=>hk _ e
 | (i,x)::l,cs,k,P,hk,e=>by
  unfold RJ at e
  unfold PN
  split at e
  ·rename_i fd hfd
   simp only[hfd]
   refine Af (fun j e=>?_) e
   split at e
   ·rename_i y hy
    simp only[hy,DI]
    exact AQ (AQ fun e=>Pz hk e) e
   ·cases e
  ·cases e
def Ml (ti:Types) (s:AN) (e:TypeId) (sz:Nat) (cs:List CV):List (Nat×Operand)→(List CV→Option γ)→Option γ
 | [],k=>k cs
 | (i,x)::r,k=>match AP ti s e x with
  | .v y=>Aj (Nat.beq y.cells.length sz)<| Aj (Nat.ble (i*sz+sz) cs.length)<| Ml ti s e sz (cs.take (i*sz)++y.cells++cs.drop (i*sz+sz)) r k
  | _=>none
theorem OL {ti:Types}{s:AN}{e:TypeId}{sz:Nat}:∀{l:List (Nat×Operand)}{cs:List CV}{k:List CV→Option γ}{P:List CV→Prop},(∀cs,k cs=some r→P cs)→Ml ti s e sz cs l k=some r→PO ti s e sz cs l P
 | [],_,_,_,hk,h=>hk _ h
 | (i,x)::l,cs,k,P,hk,h=>by
  unfold Ml at h
  unfold PO
  split at h
  ·rename_i y hy
   simp only[hy,DI]
   exact AQ (AQ fun h=>OL hk h) h
  ·cases h
def Mm (ti:Types) (s:AN) (t:TypeId) (parts:List (Nat×Operand)) (k:Out→Option γ):Option γ:=
 CZ ti t fun q=>match q.desc with
 | .struct fs=>Aj (Sc ti fs.toList)<| RJ ti s fs.toList q.zc parts fun cs=>k ⟨.v (V1.AZ true cs),[],[]⟩
 | .array _ e=>CZ ti e fun j=>Ml ti s e j.size q.zc parts fun cs=>k ⟨.v (V1.AZ true cs),[],[]⟩
 | _=>none
theorem OM {ti:Types}{s:AN}{t:TypeId}{parts:List (Nat×Operand)}{k:Out→Option γ}{P:Out→Prop}(hk:∀o,k o=some r→P o) (e:Mm ti s t parts k=some r):HQ ti s t parts P:=by
 unfold Mm at e
 unfold HQ
 refine Af (fun q e=>?_) e
 split at e
 ·rename_i hq
  simp only[hq]
  exact AQ (fun e=>Pz (fun cs h=>hk _ h) e) e
 ·rename_i hq
  simp only[hq]
  exact Af (fun j e=>OL (fun cs h=>hk _ h) e) e
 ·cases e
def KO (ti:Types) (t:TypeId) (x:AV) (f:Nat) (k:Out→Option γ):Option γ:=
 CZ ti t fun i=>match i.desc with
 | .struct fs=>(match fs[f]? with
  | some fd=>CZ ti fd.type fun j=>(match x with
   | .v y=>Aj (NB y)<| Aj (Nat.ble (fd.offset+j.size) y.cells.length)<| k ⟨.v (V1.AZ (AU j.desc) ((y.cells.drop fd.offset).take j.size)),[],[]⟩
   | _=>none)
  | none=>none)
 | _=>none
theorem MF {ti:Types}{t:TypeId}{x:AV}{f:Nat}{k:Out→Option γ}{P:Out→Prop}(hk:∀o,k o=some r→P o) (e:KO ti t x f k=some r):GS ti t x f P:=by
 unfold KO at e
 unfold GS
 refine Af (fun i e=>?_) e
 split at e
 ·rename_i fs hf
  split at e
  ·rename_i fd hfd
   simp only[hf,hfd]
   refine Af (fun j e=>?_) e
   split at e
   ·simp only[DI];exact AQ (AQ (hk _)) e
   ·cases e
  ·cases e
 ·cases e
def IZ (x:AV) (i:Nat) (k:Out→Option γ):Option γ:=
 match x with
 | .t xs=>(match Wc xs i with
  | some y=>k ⟨.v y,[],[]⟩
  | none=>none)
 | _=>none
theorem KQ {x:AV}{i:Nat}{k:Out→Option γ}{P:Out→Prop}(hk:∀o,k o=some r→P o) (e:IZ x i k=some r):FF x i P:=by
 unfold IZ at e
 split at e
 ·split at e
  ·rename_i hy
   simp only[FF,hy];exact hk _ e
  ·cases e
 ·cases e
def ZN (ti:Types) (t:TypeId) (x i:AV) (k:Out→Option γ):Option γ:=
 PG i fun n=>CZ ti t fun q=>match q.desc with
 | .string=>(match x with
  | .v (.d (.str b))=>mZ b n fun z=>k ⟨.v (.d (.int .u8 z)),[],[]⟩
  | _=>none)
 | _=>none
theorem ZO {ti:Types}{t:TypeId}{x i:AV}{k:Out→Option γ}{P:Out→Prop}(hk:∀o,k o=some r→P o) (e:ZN ti t x i k=some r):D3 ti t x i P:=by
 unfold ZN at e
 unfold D3
 refine Hy (fun _ n e=>Af (fun q e=>?_) e) e
 split at e
 ·rename_i hq
  simp only[hq]
  split at e
  ·obtain⟨z,h1,h2⟩:=V2 e
   exact⟨z,h1,hk _ h2⟩
  ·cases e
 ·cases e
def Ia (ti:Types) (src dst:TypeId) (x:AV) (k:Out→Option γ):Option γ:=
 CZ ti src fun a=>CZ ti dst fun b=>match a.desc,b.desc with
 | .int _,.int q=>PG x fun n=>DL (q.wrap n) fun z=>k ⟨.v (.d (.int q z)),[],[]⟩
 | _,_=>none
theorem KR {ti:Types}{src dst:TypeId}{x:AV}{k:Out→Option γ}{P:Out→Prop}(hk:∀o,k o=some r→P o) (e:Ia ti src dst x k=some r):FG ti src dst x P:=by
 unfold Ia at e
 unfold FG
 refine Af (fun a e=>Af (fun b e=>?_) e) e
 split at e
 ·rename_i h1 h2
  simp only[h1,h2]
  exact Hy (fun _ n e=>(BO e).imp fun z h=>⟨h.1,hk _ h.2⟩) e
 ·cases e
def Df (ds:Ds γ) (ti:Types) (o:Oper) (fresh:Nat) (s:AN) (h:AE) (k:Out→Option γ):Option γ:=
 match o.op with
 | .move x=>k ⟨AP ti s o.type x,[],[]⟩
 | .assign x=>k ⟨AP ti s o.type x,[],[]⟩
 | .alloc t=>CZ ti t fun i=>k ⟨ptrTo fresh,[],[(.loc fresh,.cells i.zc)]⟩
 | .box t x=>(match AP ti s t x with
  | .v y=>k ⟨ptrTo fresh,[],[(.loc fresh,.cells y.cells)]⟩
  | _=>none)
 | .load t x=>LP ti t (AP ti s 0 x) h k
 | .store t x y=>Mj ti t (AP ti s 0 x) (AP ti s t y) h k
 | .fieldAddr t x f=>KN ti t (AP ti s 0 x) f k
 | .indexAddr t x i=>Mk ds ti t (AP ti s t x) (AP ti s 3 i) k
 | .nilCheck x=>(match AP ti s 0 x with
  | .v (.c (.ptr i q))=>k ⟨.v (.c (.ptr i q)),[],[]⟩
  | _=>none)
 | .binOp op t x y _=>ZL ti op t (AP ti s t x) (AP ti s t y) k
 | .unOp op _ x=>dE op (AP ti s o.type x) k
 | .makeFunc fn first captured=>(match fn,first.toList with
  | .func f,[]=>(match BD (captured.toList.map (AP ti s 0))with
   | some l=>k ⟨.v (.c (.fn f l)),[],[]⟩
   | none=>none)
  | _,_=>none)
 | .build t parts=>Mm ti s t parts.toList k
 | .index t x i=>ZN ti t (AP ti s t x) (AP ti s 3 i) k
 | .field t x f=>KO ti t (AP ti s t x) f k
 | .extract x i=>IZ (AP ti s 0 x) i k
 | .convert a b x=>Ia ti a b (AP ti s a x) k
 | .call c=>(match c.callee with
  | .builtin .len=>(match c.args.toList,c.argTypes.toList with
   | [x],[t]=>V8 ti t (AP ti s t x) k
   | _,_=>none)
  | _=>none)
 | _=>none
theorem Dt {ds:Ds γ}(hd:ds.ok) {M:AY}{ti:Types}{o:Oper}{fresh:Nat}{s:AN}{h:AE}{k:Out→Option γ}{P:Out→Prop}(hk:∀o,k o=some r→P o) (e:Df ds ti o fresh s h k=some r):Ab M ti o fresh s h P:=by
 unfold Df at e
 unfold Ab
 split at e<;>rename_i ho<;>first | (cases e;done) | simp only[ho]
 ·exact hk _ e
 ·exact hk _ e
 ·exact Af (fun _ e=>hk _ e) e
 ·split at e
  ·rename_i hy;simp only[hy,DI];exact hk _ e
  ·cases e
 ·exact LQ hk e
 ·exact OH hk e
 ·exact OI hk e
 ·exact OJ hd hk e
 ·split at e
  ·rename_i hy;simp only[hy];exact hk _ e
  ·cases e
 ·exact ZM hk e
 ·exact V7 hk e
 ·split at e
  ·rename_i hf
   simp only[hf]
   split at e
   ·rename_i h3;simp only[h3];exact hk _ e
   ·cases e
  ·cases e
 ·exact OM hk e
 ·exact ZO hk e
 ·exact MF hk e
 ·exact KQ hk e
 ·exact KR hk e
 ·split at e
  ·rename_i hc
   simp only[hc]
   split at e
   ·rename_i h1 h2
    simp only[h1,h2]
    exact Tc hk e
   ·cases e
  ·cases e
end
end Go.AM
namespace Go.AM
open Go Go.RowKit
def iX:CV→List Id
 | .ptr i _=>[i]
 | .fn _ cap=>cap
 | .lst i _ _ _=>[i]
 | .sl i _=>[i]
 | .map i=>[i]
 | .ap i _ _ _ _=>[i]
 | .ow i=>[i]
 | .op i _ _ _=>[i]
 | .yl i=>[i]
 | .bm _ i=>[i]
 | .fb i=>[i]
 | _=>[]
def ZP:List CV→List Id
 | []=>[]
 | c::cs=>iX c++ZP cs
def nZ:V1→List Id
 | .d _=>[]
 | .c x=>iX x
 | .agg cs=>ZP cs
def Cm:List V1→List Id
 | []=>[]
 | x::xs=>nZ x++Cm xs
def oA:Option AB→List Id
 | some (.cells cs)=>ZP cs
 | _=>[]
def Bs (h:AE):Nat→List Id→List Id→List Id
 | 0,_,acc=>acc
 | _+1,[],acc=>acc
 | n+1,i::t,acc=>match Jk i acc with
  | true=>Bs h n t acc
  | false=>Bs h n (oA (h i)++t) (acc++[i])
def iY:List Id→Nat→Id→Option Nat
 | [],_,_=>none
 | j::l,n,i=>match Id.beq j i with
  | true=>some n
  | false=>iY l (n+1) i
def Td (m:List Id) (i:Id):Id:=match iY m 0 i with
 | some j=>.ext j
 | none=>i
def C6 (h:AE):List Id→Option (List AB)
 | []=>some []
 | i::l=>match h i with
  | some o=>(match C6 h l with
   | some r=>some (o::r)
   | none=>none)
  | none=>none
theorem JT {h:AE}:∀{l:List Id}{r:List AB},C6 h l=some r→l.length=r.length∧∀(j:Nat) i o,l[j]?=some i→r[j]?=some o→h i=some o
 | [],r,e=>by cases e;exact⟨rfl,by simp⟩
 | i::l,r,e=>by
  unfold C6 at e
  split at e
  ·rename_i o ho
   split at e
   ·rename_i r' hr
    cases e
    obtain⟨h1,h2⟩:=JT hr
    refine⟨by simp[h1],fun j x y hx hy=>?_⟩
    cases j with
    | zero=>simp at hx hy;subst hx;subst hy;exact ho
    | succ j=>simp at hx hy;exact h2 j x y hx hy
   ·cases e
  ·cases e
def ZQ:AB→AB→Bool
 | .cells _,.cells _=>true
 | _,.gone=>true
 | _,_=>false
def RK:List AB→List AB→Bool
 | [],[]=>true
 | a::al,b::bs=>match ZQ a b with
  | true=>RK al bs
  | false=>false
 | _,_=>false
theorem ZR {a b:AB}(h:ZQ a b=true):sameKind a b:=by
 unfold ZQ at h
 split at h
 ·trivial
 ·cases a<;>trivial
 ·cases h
theorem P2:∀{a b:List AB},RK a b=true→BI a b
 | [],[],_=>trivial
 | a::al,b::bs,h=>by
  unfold RK at h
  split at h
  ·rename_i hk;exact⟨ZR hk,P2 h⟩
  ·cases h
 | [],_::_,h=>by cases h
 | _::_,[],h=>by cases h
section
variable {γ:Type}{r:γ}
abbrev Cl (γ:Type):=FuncId→List V1→List AB→(Jg→Option γ)→Option γ
def Cl.ok (P:Program) (I:Inv) (call:Cl γ):Prop:=∀f args pre k r,call f args pre k=some r→∃res post new,Bf P I f args pre res post new∧k ⟨res,post,new⟩=some r
def OO (m:List Id) (fresh:Nat) (i:Id):Bool:=Id.beq (Av m fresh (Td m i)) i
theorem KS {m:List Id}{fresh:Nat}{i:Id}(h:OO m fresh i=true):Av m fresh (Td m i)=i:=Id.beq_iff.1 h
def U1 (call:Cl γ) (f:FuncId) (xs:List V1) (fresh:Nat) (h:AE) (k:Out→Option γ):Option γ:=
 match C6 h (Bs h 100 (Cm xs) [])with
 | none=>none
 | some objs=>Aj (BP (kD (OO (Bs h 100 (Cm xs) []) fresh)) xs)<| Aj (BP (KC (OO (Bs h 100 (Cm xs) []) fresh)) objs)<| Aj (nodupB (Bs h 100 (Cm xs) []))<|
   call f (xs.map (V1.Ar (Td (Bs h 100 (Cm xs) [])))) (objs.map (AB.Ar (Td (Bs h 100 (Cm xs) [])))) fun ret=>
    Aj (RK (objs.map (AB.Ar (Td (Bs h 100 (Cm xs) [])))) ret.post)<| Aj (Nat.ble ret.new.length 31)<|
     k ⟨ret.res.Ar (Av (Bs h 100 (Cm xs) []) fresh),Bs h 100 (Cm xs) [],Iv (Bs h 100 (Cm xs) []) (Av (Bs h 100 (Cm xs) []) fresh) ret.post++B4 fresh (Av (Bs h 100 (Cm xs) []) fresh) 0 ret.new⟩
theorem AD {c:Bool}{x:Option γ}(h:Aj c x=some r):c=true∧x=some r:=by
 cases c
 ·cases h
 ·exact⟨rfl,h⟩
theorem Te {l:List Id}(h:nodupB l=true):l.Nodup:=by
 induction l with
 | nil=>exact List.nodup_nil
 | cons i l ih=>
  unfold nodupB at h
  split at h
  ·cases h
  ·rename_i hi
   refine List.nodup_cons.2 ⟨fun hm=>?_,ih h⟩
   rw[HT.2 hm]at hi
   cases hi
theorem XP {P:Program}{I:Inv}{call:Cl γ}(hc:call.ok P I) {f:FuncId}{xs:List V1}{fresh:Nat}{h:AE}{k:Out→Option γ}{A:Out→Prop}(hk:∀o,k o=some r→A o) (e:U1 call f xs fresh h k=some r):IK P I f xs fresh h A:=by
 unfold U1 at e
 generalize Bs h 100 (Cm xs) []=m at e
 split at e
 ·cases e
 ·rename_i objs ho
  obtain⟨h1,e⟩:=AD e
  obtain⟨h2,e⟩:=AD e
  obtain⟨h3,e⟩:=AD e
  obtain⟨res,post,new,ht,e⟩:=hc _ _ _ _ _ e
  obtain⟨h4,e⟩:=AD e
  obtain⟨h5,e⟩:=AD e
  obtain⟨g1,g2⟩:=JT ho
  refine⟨m,_,_,res,post,new,ht,?_,by simpa using g1,Te h3,fun j i o hm hp=>?_,P2 h4,Nat.le_of_ble_eq_true h5,hk _ e⟩
  ·rw[List.map_map]
   rw[Az]at h1
   exact (B3 fun x hx=>Q7 (fun i hi=>KS hi) (h1 x hx)).symm
  ·rw[List.getElem?_map,Option.map_eq_some_iff]at hp
   obtain⟨o',ho',rfl⟩:=hp
   rw[Az]at h2
   rw[KE (p:=OO m fresh) (fun i hi=>KS hi) (h2 o' (List.mem_of_getElem? ho'))]
   exact g2 j i o' hm ho'
def V9:List Id→List Id→Bool
 | [],[]=>true
 | i::a,j::b=>(match Id.beq i j with
  | true=>V9 a b
  | false=>false)
 | _,_=>false
theorem Tf:∀{a b:List Id},V9 a b=true→a=b
 | [],[],_=>rfl
 | i::a,j::b,h=>by
  unfold V9 at h
  split at h
  ·rename_i hb;rw[Id.beq_iff.1 hb,Tf h]
  ·cases h
 | [],_::_,h=>by cases h
 | _::_,[],h=>by cases h
def iZ:CV→CV→Bool
 | .ptr i o,.ptr j q=>(match Id.beq i j with
  | true=>Nat.beq o q
  | false=>false)
 | .fn f c,.fn g d=>(match Nat.beq f g with
  | true=>V9 c d
  | false=>false)
 | .nilp,.nilp=>true
 | .nilf,.nilf=>true
 | _,_=>false
theorem dF {a b:CV}(h:iZ a b=true):a=b:=by
 unfold iZ at h
 split at h
 ·split at h
  ·rename_i hb;rw[Id.beq_iff.1 hb,Nat.eq_of_beq_eq_true h]
  ·cases h
 ·split at h
  ·rename_i hb;rw[Nat.eq_of_beq_eq_true hb,Tf h]
  ·cases h
 ·rfl
 ·rfl
 ·cases h
def Tg:List CV→List CV→Bool
 | [],[]=>true
 | i::a,j::b=>(match iZ i j with
  | true=>Tg a b
  | false=>false)
 | _,_=>false
theorem Th:∀{a b:List CV},Tg a b=true→a=b
 | [],[],_=>rfl
 | i::a,j::b,h=>by
  unfold Tg at h
  split at h
  ·rename_i hb;rw[dF hb,Th h]
  ·cases h
 | [],_::_,h=>by cases h
 | _::_,[],h=>by cases h
def FY (h:AE):List Id→List Id
 | []=>[]
 | i::l=>(match h i with
  | some (.cells cs)=>(match Tg cs cs with
   | true=>i::FY h l
   | false=>FY h l)
  | _=>FY h l)
def Ib (h:AE) (ids rd:List Id):List (Id×AB)→(List (Id×AB)→Option γ)→Option γ
 | [],K=>K []
 | x::l,K=>(match Jk x.1 ids with
  | true=>(match Jk x.1 rd with
   | true=>(match h x.1,x.2 with
    | some (.cells a),.cells b=>Aj (Tg a b) (Ib h ids rd l K)
    | _,_=>none)
   | false=>none)
  | false=>Ib h ids rd l fun wr=>K (x::wr))
theorem HA {h:AE}{ids rd:List Id}:∀{wr:List (Id×AB)}{K:List (Id×AB)→Option γ}{A:List (Id×AB)→Prop},(∀w,K w=some r→A w)→Ib h ids rd wr K=some r→Ng h ids rd wr A
 | [],_,_,hk,e=>hk _ e
 | x::l,K,A,hk,e=>by
  obtain⟨i,o⟩:=x
  unfold Ib at e
  unfold Ng
  simp only[]at e ⊢
  split at e
  ·rename_i h1
   rw[h1]
   split at e
   ·rename_i h2
    rw[h2]
    split at e
    ·rename_i h3
     obtain⟨h4,e⟩:=AD e
     exact⟨by rw[h3,Th h4],HA hk e⟩
    ·cases e
   ·cases e
  ·rename_i h1
   rw[h1]
   exact HA (fun w hw=>hk _ hw) e
def RL (ti:Types) (s:AN) (e:TypeId) (ag:Bool) (sz:Nat):Nat→List (Nat×Operand)→(List D→Option γ)→Option γ
 | _,[],k=>k []
 | n,(i,x)::l,k=>Aj (Nat.beq i n)<| (match AP ti s e x with
  | .v y=>(match y.norm with
   | .d d=>Aj (d.isAgg==ag)<| Aj (Nat.beq d.cells.length sz)<| RL ti s e ag sz (n+1) l fun ds=>k (d::ds)
   | _=>none)
  | _=>none)
theorem P3 {ti:Types}{s:AN}{e:TypeId}{ag:Bool}{sz:Nat}:∀{l:List (Nat×Operand)}{n:Nat}{k:List D→Option γ}{A:List D→Prop},(∀w,k w=some r→A w)→RL ti s e ag sz n l k=some r→PQ ti s e ag sz n l A
 | [],_,_,_,hk,h=>hk _ h
 | (i,x)::l,n,k,A,hk,h=>by
  unfold RL at h
  unfold PQ
  refine AQ (fun h=>?_) h
  split at h
  ·rename_i hy
   simp only[hy]
   split at h
   ·rename_i hd
    simp only[hd]
    exact AQ (AQ fun h=>P3 (fun w hw=>hk _ hw) h) h
   ·cases h
  ·cases h
def E3 (ti:Types) (s:AN) (t:TypeId) (len:Nat) (parts:List (Nat×Operand)) (k:Out→Option γ):Option γ:=
 CZ ti t fun q=>match q.desc with
 | .slice e=>CZ ti e fun j=>Aj (Nat.ble (len*j.size) 16777216)<| Aj (Nat.beq parts.length len)<| Aj (Nat.blt 0 j.size)<| RL ti s e (AU j.desc) j.size 0 parts fun ds=>
   k ⟨.v (.c (.tl (AU j.desc) j.size ds)),[],[]⟩
 | _=>none
theorem HK {ti:Types}{s:AN}{t:TypeId}{len:Nat}{parts:List (Nat×Operand)}{k:Out→Option γ}{A:Out→Prop}(hk:∀o,k o=some r→A o) (h:E3 ti s t len parts k=some r):DK ti s t len parts A:=by
 unfold E3 at h
 unfold DK
 refine Af (fun q h=>?_) h
 split at h
 ·rename_i hq
  simp only[hq]
  exact Af (fun j h=>AQ (AQ (AQ fun h=>P3 (fun w hw=>hk _ hw) h)) h) h
 ·cases h
def XQ (mn:Bool) (x y:AV) (k:Out→Option γ):Option γ:=
 match x,y with
 | .v (.d (.int q a)),.v (.d (.int q' b))=>Aj (decide (q=q'))<| (match mn with
  | true=>DL (if b<a then b else a) fun z=>k ⟨.v (.d (.int q z)),[],[]⟩
  | false=>DL (if b>a then b else a) fun z=>k ⟨.v (.d (.int q z)),[],[]⟩)
 | _,_=>none
theorem Mn {mn:Bool}{x y:AV}{k:Out→Option γ}{A:Out→Prop}(hk:∀o,k o=some r→A o) (e:XQ mn x y k=some r):Ga mn x y A:=by
 unfold XQ at e
 split at e
 ·refine AQ (fun e=>?_) e
  cases mn with
  | true=>obtain⟨z,h1,h2⟩:=BO e;exact⟨z,h1,hk _ h2⟩
  | false=>obtain⟨z,h1,h2⟩:=BO e;exact⟨z,h1,hk _ h2⟩
 ·cases e
def dG (ds:Ds γ) (call:Cl γ) (ti:Types) (o:Oper) (fresh:Nat) (s:AN) (h:AE) (k:Out→Option γ):Option γ:=
 match o.op with
 | .call c=>(match c.callee with
  | .value f=>(match AP ti s 0 f with
   | .v (.c (.fn n cap))=>(match GM (BM ti s c.args.toList c.argTypes.toList)with
    | some xs=>U1 call n (xs++cap.map fun i=>V1.c (.ptr i 0)) fresh h fun out=>Ib h (FY h (Bs h 100 (Cm (xs++cap.map fun i=>V1.c (.ptr i 0))) [])) out.rd out.wr fun wr=>k ⟨out.val,out.rd,wr⟩
    | none=>none)
   | _=>none)
  | .builtin .len=>(match c.args.toList,c.argTypes.toList with
   | [x],[t]=>Aj (BQ (Jf (AP ti s t x))) (Df ds ti o fresh s h k)
   | _,_=>none)
  | .builtin .max=>(match c.args.toList,c.argTypes.toList with
   | [x,y],[t,t']=>XQ false (AP ti s t x) (AP ti s t' y) k
   | _,_=>none)
  | .builtin .min=>(match c.args.toList,c.argTypes.toList with
   | [x,y],[t,t']=>XQ true (AP ti s t x) (AP ti s t' y) k
   | _,_=>none)
  | _=>none)
 | .load _ x=>Aj (BQ (Jf (AP ti s 0 x)))<| Aj (BQ (L5 (AP ti s 0 x) h)) (Df ds ti o fresh s h k)
 | .store _ x _=>Aj (BQ (Jf (AP ti s 0 x)))<| Aj (BQ (L5 (AP ti s 0 x) h)) (Df ds ti o fresh s h k)
 | .fieldAddr _ x _=>Aj (BQ (Jf (AP ti s 0 x))) (Df ds ti o fresh s h k)
 | .indexAddr t x _=>Aj (BQ (Jf (AP ti s t x))) (Df ds ti o fresh s h k)
 | .nilCheck x=>Aj (BQ (Jf (AP ti s 0 x))) (Df ds ti o fresh s h k)
 | .binOp _ t x _ _=>Aj (BQ (Qi (AP ti s t x)))<| Aj (BQ (Jf (AP ti s t x))) (Df ds ti o fresh s h k)
 | .convert a _ x=>Aj (Uf (AP ti s a x)) (Df ds ti o fresh s h k)
 | .move _=>Df ds ti o fresh s h k
 | .assign _=>Df ds ti o fresh s h k
 | .alloc _=>Df ds ti o fresh s h k
 | .box _ _=>Df ds ti o fresh s h k
 | .unOp _ _ _=>Df ds ti o fresh s h k
 | .makeFunc _ _ _=>Df ds ti o fresh s h k
 | .build _ _=>Df ds ti o fresh s h k
 | .index _ _ _=>Df ds ti o fresh s h k
 | .field _ _ _=>Df ds ti o fresh s h k
 | .extract _ _=>Df ds ti o fresh s h k
 | .buildSlice t len parts=>Aj (BQ (Ya ti s parts.toList)) (E3 ti s t len parts.toList k)
 | .pick c a b=>V6 (AP ti s 0 c) fun q=>if q=true then k ⟨AP ti s o.type a,[],[]⟩else k ⟨AP ti s o.type b,[],[]⟩
 | _=>none
theorem B1 {b:Bool}(h:BQ b=true):b=false:=by cases b;rfl;cases h
theorem WA {M:AY}{ds:Ds γ}(hd:ds.ok) {call:Cl γ}(hc:call.ok M.P M.I) {ti:Types}{o:Oper}{fresh:Nat}{s:AN}{h:AE}{k:Out→Option γ}{A:Out→Prop}(hk:∀o,k o=some r→A o) (e:dG ds call ti o fresh s h k=some r):CI M ti o fresh s h A:=by
 unfold dG at e
 unfold CI
 split at e<;>rename_i ho<;>first | (cases e;done) | simp only[ho]
 ·split at e
  ·rename_i hcal
   simp only[hcal]
   split at e
   ·rename_i n cap hf
    split at e
    ·rename_i xs hxs
     refine .inr (.inr ⟨FY h (Bs h 100 (Cm (xs++cap.map fun i=>V1.c (.ptr i 0))) []),?_⟩)
     show Ab M ti o fresh s h _
     unfold Ab
     simp only[ho,hcal]
     unfold GQ
     simp only[hf]
     refine⟨true,?_⟩
     show withArgs _ _
     unfold withArgs
     simp only[hxs]
     exact (M.lock_iff _).2 (XP hc (fun out e=>HA (fun w hw=>hk _ hw) e) e)
    ·cases e
   ·cases e
  ·rename_i hcal
   simp only[hcal]
   split at e
   ·rename_i h1 h2
    simp only[h1,h2]
    obtain⟨h3,e⟩:=AD e
    simp only[B1 h3]
    exact Dt hd hk e
   ·cases e
  ·rename_i hcal
   simp only[hcal]
   split at e
   ·rename_i h1 h2
    simp only[h1,h2]
    exact Mn hk e
   ·cases e
  ·rename_i hcal
   simp only[hcal]
   split at e
   ·rename_i h1 h2
    simp only[h1,h2]
    exact Mn hk e
   ·cases e
  ·cases e
 all_goals first | exact Dt hd hk e | skip
 rotate_right 2
 ·obtain⟨h3,e⟩:=AD e
  simp only[B1 h3]
  refine⟨false,?_⟩
  show Ab M ti o fresh s h _
  unfold Ab
  simp only[ho]
  exact⟨true,HK hk e⟩
 ·show Ab M ti o fresh s h _
  unfold Ab
  simp only[ho]
  refine U0 (fun q e=>?_) e
  cases q with
  | true=>rw[if_pos rfl]at e;exact hk _ e
  | false=>rw[if_neg Bool.false_ne_true]at e;exact hk _ e
 ·obtain⟨h3,e⟩:=AD e
  obtain⟨h4,e⟩:=AD e
  simp only[B1 h3,B1 h4];exact Dt hd hk e
 ·obtain⟨h3,e⟩:=AD e
  obtain⟨h4,e⟩:=AD e
  simp only[B1 h3,B1 h4];exact Dt hd hk e
 ·obtain⟨h3,e⟩:=AD e;simp only[B1 h3];exact Dt hd hk e
 ·obtain⟨h3,e⟩:=AD e;simp only[B1 h3];exact Dt hd hk e
 ·obtain⟨h3,e⟩:=AD e;simp only[B1 h3];exact Dt hd hk e
 ·obtain⟨h3,e⟩:=AD e
  obtain⟨h4,e⟩:=AD e
  simp only[B1 h3,B1 h4];exact Dt hd hk e
 ·obtain⟨h3,e⟩:=AD e;simp only[h3];exact Dt hd hk e
def Ct (o:Oper):Bool:=
 match o.op with
 | .store ..=>o.dst.isNone
 | .mapUpdate ..=>o.dst.isNone
 | .insert ..=>o.dst.isNone
 | .defer _=>false
 | _=>true
theorem MG {o:Oper}(h:Ct o=true):FM o=none:=by
 unfold Ct at h
 unfold FM
 split at h<;>rename_i ho<;>simp[ho]at h ⊢
theorem EI {o:Oper}{K:Prop}(h:Ct o=true) (hk:K):EN o K:=by
 unfold Ct at h
 unfold EN
 split at h<;>rename_i ho<;>simp only[ho]
 ·cases hd:o.dst with
  | none=>exact hk
  | some d=>rw[hd]at h;cases h
 ·cases hd:o.dst with
  | none=>exact hk
  | some d=>rw[hd]at h;cases h
 ·cases hd:o.dst with
  | none=>exact hk
  | some d=>rw[hd]at h;cases h
 ·cases h
 ·exact hk
def GB (nt:Nat) (d:Option Tmp):Bool:=
 match d with
 | none=>true
 | some d=>Nat.blt d nt
theorem Cw {nt:Nat}{d:Option Tmp}{K:Prop}(h:GB nt d=true) (hk:K):D0 nt d K:=by
 cases d with
 | none=>exact hk
 | some d=>exact AA.2 ⟨h,hk⟩
def isNone {α:Type}:Option α→Bool
 | none=>true
 | some _=>false
theorem P4 {α:Type}{x:Option α}(h:isNone x=true):x=none:=by cases x;rfl;cases h
def MS:List (Nat×AV)→Nat→AV→List (Nat×AV)
 | [],_,_=>[]
 | x::l,t,v=>(match Nat.beq x.1 t with
  | true=>(x.1,v)::l
  | false=>x::MS l t v)
theorem Mo:∀{l:List (Nat×AV)}{t:Nat}{v:AV},AH l t=v→MS l t v=l
 | [],_,_,_=>rfl
 | (k,v0)::l,t,v,h=>by
  unfold AH at h
  unfold MS
  split at h
  ·rename_i hb;simp only[hb,h]
  ·rename_i hb;simp only[hb,Mo h]
def Mp (ops:Array Oper) (o:Oper) (σ:St) (K1 K0:St→Option γ):Option γ:=
 match o.guard with
 | none=>K1 σ
 | some (j,want)=>(match (ops[j]?).bind (·.dst)with
  | none=>none
  | some d=>(match AH σ.slots d with
   | .v (.d (.bool c))=>(match want with
    | true=>if c=true then K1 ⟨MS σ.slots d (.v (.d (.bool true))),σ.heap,σ.next⟩else K0 ⟨MS σ.slots d (.v (.d (.bool false))),σ.heap,σ.next⟩
    | false=>if c=true then K0 ⟨MS σ.slots d (.v (.d (.bool true))),σ.heap,σ.next⟩else K1 ⟨MS σ.slots d (.v (.d (.bool false))),σ.heap,σ.next⟩)
   | .t []=>K0 σ
   | _=>none))
theorem OP {ops:Array Oper}{o:Oper}{σ:St}{K1 K0:St→Option γ}{P1 P0:St→Prop}(h1:K1 σ=some r→P1 σ) (h0:K0 σ=some r→P0 σ) (e:Mp ops o σ K1 K0=some r):guarded ops o σ P1 P0:=by
 unfold Mp at e
 unfold guarded
 split at e
 ·rename_i hg;simp only[hg];exact h1 e
 ·rename_i j want hg
  simp only[hg]
  split at e
  ·cases e
  ·rename_i d hd
   simp only[hd]
   split at e
   ·rename_i c hs
    simp only[hs]
    cases want<;>cases c<;>simp only[if_true,Bool.false_eq_true,if_false,Mo hs]at e ⊢
    ·exact h1 e
    ·exact h0 e
    ·exact h0 e
    ·exact h1 e
   ·rename_i hs;simp only[hs];exact h0 e
   ·cases e
def RM (ds:Ds γ) (call:Cl γ) (ti:Types) (nt:Nat) (o:Oper) (fresh:Nat) (σ:St) (K:St→Option γ):Option γ:=
 Aj (Ct o)<| Aj (GB nt o.dst)<| Aj (isNone (DW ti o (AH σ.slots) (AK σ.heap)))<| Aj (Bc o || isNone (Ir ti o (AH σ.slots) (AK σ.heap)))<|
  dG ds call ti o fresh (AH σ.slots) (AK σ.heap) fun out=>K ⟨BR σ.slots o.dst out.val,Be σ.heap out.wr,σ.next⟩
theorem XR {M:AY}{ds:Ds γ}(hd:ds.ok) {call:Cl γ}(hc:call.ok M.P M.I) {ti:Types}{nt:Nat}{o:Oper}{fresh:Nat}{σ:St}{K:St→Option γ}{P:St→Prop}(hK:∀σ,K σ=some r→P σ) (e:RM ds call ti nt o fresh σ K=some r):FL M ti nt o fresh σ P:=by
 unfold RM at e
 obtain⟨h1,e⟩:=AD e
 obtain⟨h2,e⟩:=AD e
 obtain⟨h3,e⟩:=AD e
 obtain⟨h4,e⟩:=AD e
 unfold FL
 refine EI h1 (Cw h2 ?_)
 simp only[P4 h3]
 have main:CI M ti o fresh (AH σ.slots) (AK σ.heap) fun out=>P ⟨BR σ.slots o.dst out.val,Be σ.heap out.wr,σ.next⟩:=WA hd hc (fun out h=>hK _ h) e
 cases hv:Bc o with
 | true=>exact (M.lock_iff _).2 (.inl main)
 | false=>
  rw[hv,Bool.false_or]at h4
  simp only[P4 h4]
  exact main
end
end Go.AM
namespace Go.AM
open Go Go.RowKit
inductive Pl where
 | e
 | n (k:Nat) (r:Pl)
 | g (gs:List Gh) (l:List (Nat×Nat)) (r:Pl)
 | w (r:Pl)
 | b (p q:Pl)
def Pl.at:Pl→Bool→Pl
 | .b p q,true=>p
 | .b p q,false=>q
 | x,_=>x
def Pl.nth (p:Pl) (m:Nat):Pl:=
 match m with
 | 0=>p.at true
 | m+1=>(p.at false).nth m
structure Tk where
 gs:List Gh
 l:List (Nat×Nat)
 w:Bool
 r:Pl
def Pl.take:Pl→Tk
 | .n k r=>(match k with
  | 0=>⟨[],[],false,r⟩
  | k+1=>⟨[],[],false,.n k r⟩)
 | .g gs l r=>⟨gs,l,false,r⟩
 | .w r=>⟨[],[],true,r⟩
 | x=>⟨[],[],false,x⟩
section
variable {γ:Type}{r:γ}
def gd (a b:Nat) (x:Option γ):Option γ:=if a=b then x else none
theorem ZS {a b:Nat}{x:Option γ}(h:gd a b x=some r):a=b∧x=some r:=by
 unfold gd at h
 split at h
 ·rename_i e;exact⟨e,h⟩
 ·cases h
def RN (op:BinOp) (q:IntKind) (a b:Int) (pl:Pl) (k:Pl→D→Option γ):Option γ:=
 match op with
 | .add=>DL (q.wrap (a+b)) fun z=>k pl (.int q z)
 | .sub=>DL (q.wrap (a - b)) fun z=>k pl (.int q z)
 | .mul=>DL (q.wrap (a*b)) fun z=>k pl (.int q z)
 | .eql=>if a=b then k (pl.at true) (.bool true)else k (pl.at false) (.bool false)
 | .neq=>if a=b then k (pl.at true) (.bool false)else k (pl.at false) (.bool true)
 | .lss=>if a<b then k (pl.at true) (.bool true)else k (pl.at false) (.bool false)
 | .leq=>if a≤b then k (pl.at true) (.bool true)else k (pl.at false) (.bool false)
 | .gtr=>if b<a then k (pl.at true) (.bool true)else k (pl.at false) (.bool false)
 | .geq=>if b≤a then k (pl.at true) (.bool true)else k (pl.at false) (.bool false)
 | .quo=>Ec (b≠0) (DL (q.wrap (Int.tdiv a b)) fun z=>k pl (.int q z))
 | .rem=>Ec (b≠0) (DL (Int.tmod a b) fun z=>k pl (.int q z))
 | _=>none
theorem XS {M:AY}{op:BinOp}{q:IntKind}{a b:Int}{pl:Pl}{k:Pl→D→Option γ}{P:D→Prop}(hk:∀p d,k p d=some r→P d) (h:RN op q a b pl k=some r):Es M op q a b P:=by
 cases op<;>simp only[RN]at h<;>try contradiction
 ·exact⟨_,rfl,hk _ _ h⟩
 ·exact⟨_,rfl,hk _ _ h⟩
 ·exact⟨_,rfl,hk _ _ h⟩
 ·obtain⟨h1,h2⟩:=Bm h
  exact⟨_,h1,rfl,hk _ _ h2⟩
 ·obtain⟨h1,h2⟩:=Bm h
  exact⟨_,h1,rfl,hk _ _ h2⟩
 ·simp only[Es,M.split_iff,M.eqI_eq]
  by_cases c:a=b
  ·rw[if_pos c]at h;rw[beq_iff_eq.2 c];exact hk _ _ h
  ·rw[if_neg c]at h;rw[beq_eq_false_iff_ne.2 c];exact hk _ _ h
 ·simp only[Es,M.split_iff,M.eqI_eq]
  by_cases c:a=b
  ·rw[if_pos c]at h;rw[beq_iff_eq.2 c];exact hk _ _ h
  ·rw[if_neg c]at h;rw[beq_eq_false_iff_ne.2 c];exact hk _ _ h
 ·simp only[Es,M.split_iff,M.ltI_eq]
  by_cases c:a<b
  ·rw[if_pos c]at h;rw[decide_eq_true c];exact hk _ _ h
  ·rw[if_neg c]at h;rw[decide_eq_false c];exact hk _ _ h
 ·simp only[Es,M.split_iff,M.leI_eq]
  by_cases c:a≤b
  ·rw[if_pos c]at h;rw[decide_eq_true c];exact hk _ _ h
  ·rw[if_neg c]at h;rw[decide_eq_false c];exact hk _ _ h
 ·simp only[Es,M.split_iff,M.ltI_eq]
  by_cases c:b<a
  ·rw[if_pos c]at h;rw[decide_eq_true c];exact hk _ _ h
  ·rw[if_neg c]at h;rw[decide_eq_false c];exact hk _ _ h
 ·simp only[Es,M.split_iff,M.leI_eq]
  by_cases c:b≤a
  ·rw[if_pos c]at h;rw[decide_eq_true c];exact hk _ _ h
  ·rw[if_neg c]at h;rw[decide_eq_false c];exact hk _ _ h
def U2 (op:BinOp) (a b:ByteArray) (pl:Pl) (k:Pl→D→Option γ):Option γ:=
 match op with
 | .add=>Ee a b fun c=>k pl (.str c)
 | .eql=>if a=b then k (pl.at true) (.bool true)else k (pl.at false) (.bool false)
 | .neq=>if a=b then k (pl.at true) (.bool false)else k (pl.at false) (.bool true)
 | _=>none
theorem XT {M:AY}{op:BinOp}{a b:ByteArray}{pl:Pl}{k:Pl→D→Option γ}{P:D→Prop}(hk:∀p d,k p d=some r→P d) (h:U2 op a b pl k=some r):Lx M op a b P:=by
 cases op<;>simp only[U2]at h<;>try contradiction
 ·obtain⟨c,h1,h2,h3⟩:=Ck h
  exact⟨c,h1,h2,hk _ _ h3⟩
 ·simp only[Lx,M.split_iff,M.eqS_eq]
  by_cases c:a=b
  ·rw[if_pos c]at h;rw[Cj.2 c];exact hk _ _ h
  ·rw[if_neg c]at h;rw[Bool.eq_false_iff.2 fun e=>c (Cj.1 e)];exact hk _ _ h
 ·simp only[Lx,M.split_iff,M.eqS_eq]
  by_cases c:a=b
  ·rw[if_pos c]at h;rw[Cj.2 c];exact hk _ _ h
  ·rw[if_neg c]at h;rw[Bool.eq_false_iff.2 fun e=>c (Cj.1 e)];exact hk _ _ h
def OQ (op:BinOp) (b:Bool) (k:D→Option γ):Option γ:=
 match op with
 | .eql=>k (.bool b)
 | .neq=>k (.bool (BQ b))
 | _=>none
theorem H0 {op:BinOp}{b:Bool}{k:D→Option γ}{P:D→Prop}(hk:∀d,k d=some r→P d) (h:OQ op b k=some r):Dz op b P:=by
 unfold OQ at h
 unfold Dz
 split at h
 ·exact hk _ h
 ·exact hk _ h
 ·cases h
def RO (ti:Types) (op:BinOp) (t:TypeId) (x y:AV) (pl:Pl) (k:Pl→Out→Option γ):Option γ:=
 match x,y with
 | .v (.d (.int q a)),.v (.d (.int q' b))=>Aj (decide (q=q')) (RN op q a b pl fun p d=>k p ⟨.v (.d d),[],[]⟩)
 | .v (.d (.str a)),.v (.d (.str b))=>U2 op a b pl fun p d=>k p ⟨.v (.d d),[],[]⟩
 | .v (.d (.bool a)),.v (.d (.bool b))=>CZ ti t fun i=>(match i.desc with
  | .bool=>(match op with
   | .eql=>Y9 (a==b) fun q=>k pl ⟨.v (.d (.bool q)),[],[]⟩
   | .neq=>Y9 (!(a==b)) fun q=>k pl ⟨.v (.d (.bool q)),[],[]⟩
   | _=>none)
  | _=>none)
 | .v (.c (.ptr _ _)),.v (.c .nilp)=>CZ ti t fun i=>(match i.desc with
  | .pointer _=>OQ op false fun d=>k pl ⟨.v (.d d),[],[]⟩
  | _=>none)
 | .v (.c .nilp),.v (.c .nilp)=>CZ ti t fun i=>(match i.desc with
  | .pointer _=>OQ op true fun d=>k pl ⟨.v (.d d),[],[]⟩
  | _=>none)
 | .v (.c (.kv u)),.v (.c (.kv v))=>CZ ti t fun i=>(match i.desc with
  | .interface ms=>Aj ms.isEmpty (match M7 u v with
   | some q=>OQ op q fun d=>k pl ⟨.v (.d d),[],[]⟩
   | none=>none)
  | _=>none)
 | _,_=>none
theorem XU {M:AY}{ti:Types}{op:BinOp}{t:TypeId}{x y:AV}{pl:Pl}{k:Pl→Out→Option γ}{P:Out→Prop}(hk:∀p o,k p o=some r→P o) (e:RO ti op t x y pl k=some r):M8 M ti op t x y P:=by
 unfold RO at e
 split at e
 ·exact AQ (fun e=>XS (fun p d h=>hk _ _ h) e) e
 ·exact XT (fun p d h=>hk _ _ h) e
 ·refine Af (fun i e=>?_) e
  split at e
  ·rename_i hi
   simp only[hi]
   split at e
   ·exact⟨_,Ex _ _,hk _ _ e⟩
   ·exact⟨_,by rw[DB,Ex],hk _ _ e⟩
   ·cases e
  ·cases e
 ·refine Af (fun i e=>?_) e
  split at e
  ·rename_i hi;simp only[hi];exact H0 (fun d h=>hk _ _ h) e
  ·cases e
 ·refine Af (fun i e=>?_) e
  split at e
  ·rename_i hi;simp only[hi];exact H0 (fun d h=>hk _ _ h) e
  ·cases e
 ·refine Af (fun i e=>?_) e
  split at e
  ·rename_i hi
   simp only[hi]
   refine AQ (fun e=>?_) e
   split at e
   ·rename_i hq;simp only[hq];exact H0 (fun d h=>hk _ _ h) e
   ·cases e
  ·cases e
 ·cases e
end
end Go.AM
namespace Go.AM
open Go Go.RowKit
section
variable {γ:Type}{r:γ}
def Gl (f:CV→(D→List Id→Option γ)→Option γ):List CV→(List D→List Id→Option γ)→Option γ
 | [],K=>K [] []
 | c::l,K=>f c fun d is=>Gl f l fun ds js=>K (d::ds) (is++js)
def Ca (h:AE):Nat→CV→(D→List Id→Option γ)→Option γ
 | 0,_,_=>none
 | n+1,c,K=>match c with
  | .d d=>(match EU d with
   | true=>none
   | false=>K d [])
  | .nilp=>K .nil []
  | .nils ag sz=>(match Nat.blt 0 sz with
   | true=>K (.list ag sz []) []
   | false=>none)
  | .ow j=>(match h j with
   | some (.tree k ag sz rows none)=>(match I8 k ag sz rows with
    | some x=>K x [j]
    | none=>none)
   | _=>none)
  | .ptr j o=>(match o with
   | 0=>(match h j with
    | some (.cells (c::cs))=>Gl (Ca h n) (c::cs) fun ds is=>K (.box ds) (j::is)
    | _=>none)
   | _=>none)
  | _=>none
theorem H3 {f:CV→(D→List Id→Option γ)→Option γ}{g:CV→(D→List Id→Prop)→Prop}(hf:∀c (K:D→List Id→Option γ) (P:D→List Id→Prop),(∀d is,K d is=some r→P d is)→f c K=some r→g c P):
  ∀{l:List CV} {K:List D→List Id→Option γ} {P:List D→List Id→Prop},(∀d is,K d is=some r→P d is)→Gl f l K=some r→ND g l P
 | [],_,_,hk,e=>hk _ _ e
 | c::l,_,_,hk,e=>hf c _ _ (fun _ _ e=>H3 hf (fun _ _ e=>hk _ _ e) e) e
theorem MH {h:AE}:∀{n:Nat}(c:CV) (K:D→List Id→Option γ) (P:D→List Id→Prop),(∀d is,K d is=some r→P d is)→Ca h n c K=some r→Gr h n c P
 | 0,_,_,_,_,e=>by cases e
 | n+1,c,K,P,hk,e=>by
  unfold Ca at e
  unfold Gr
  split at e
  ·split at e
   ·cases e
   ·rename_i hc;simp only[hc];exact hk _ _ e
  ·exact hk _ _ e
  ·split at e
   ·rename_i hc;simp only[hc];exact hk _ _ e
   ·cases e
  ·split at e
   ·rename_i hj
    split at e
    ·rename_i hx;simp only[hj,hx];exact hk _ _ e
    ·cases e
   ·cases e
  ·split at e
   ·split at e
    ·rename_i hj
     simp only[hj]
     exact H3 (fun c K P hk e=>MH c K P hk e) (fun _ _ e=>hk _ _ e) e
    ·cases e
   ·cases e
  ·cases e
def KT (h:AE) (cs:List CV) (K:List D→List Id→Option γ):Option γ:=Gl (Ca h 3) cs K
theorem H4 {h:AE}{cs:List CV}{K:List D→List Id→Option γ}{P:List D→List Id→Prop}(hk:∀d is,K d is=some r→P d is) (e:KT h cs K=some r):NF h cs P:=H3 (fun c K P hk e=>MH c K P hk e) hk e
def Du (h:AE):List Id→(AE→List Id→List (Id×AB)→Option γ)→Option γ
 | [],K=>K h [] []
 | i::l,K=>match h i with
  | some (.tree kd ag sz rows (some (k,cs)))=>Aj (MZ kd)<| KT h cs fun ds is=>Aj (nodupB is)<| Aj (ag || Nat.beq ds.length 1)<|
    iQ rows k (rowOf ag ds) fun rows'=>Du (Aq (AJ h i (.tree kd ag sz rows' none)) (Aa is)) l fun h' rd wr=>K h' (i::(is++rd)) ((i,.tree kd ag sz rows' none)::(Aa is++wr))
  | _=>none
theorem H5:∀{l:List Id}{h:AE}{K:AE→List Id→List (Id×AB)→Option γ}{P:AE→List Id→List (Id×AB)→Prop},(∀h rd wr,K h rd wr=some r→P h rd wr)→Du h l K=some r→Gs h l P
 | [],_,_,_,hk,e=>hk _ _ _ e
 | i::l,h,K,P,hk,e=>by
  unfold Du at e
  unfold Gs
  split at e
  ·rename_i hi
   simp only[hi]
   obtain⟨h1,e⟩:=AD e
   refine AA.2 ⟨h1,H4 (fun ds is e=>?_) e⟩
   obtain⟨h2,e⟩:=AD e
   obtain⟨h3,e⟩:=AD e
   obtain⟨rows',h4,e⟩:=TV e
   rw[h2,h3]
   exact⟨rows',h4,H5 (fun h' rd wr e=>hk _ _ _ e) e⟩
  ·cases e
def WB (f:Id→List Id):List CV→List Id
 | []=>[]
 | c::l=>(match c with
  | .ow j=>f j++WB f l
  | _=>WB f l)
def Mq (h:AE):Nat→Id→List Id
 | 0,_=>[]
 | n+1,i=>match h i with
  | some (.tree _ _ _ _ foc)=>(match foc with
   | some x=>WB (Mq h n) x.2++[i]
   | none=>[])
  | _=>[]
def KU (h:AE) (gs:List Id) (E:AE→(Out→Option γ)→Option γ) (k:Out→Option γ):Option γ:=Du h gs fun h' rd wr=>E h' fun out=>k ⟨out.val,rd++out.rd,wr++out.wr⟩
theorem H6 {h:AE}{gs:List Id}{E:AE→(Out→Option γ)→Option γ}{F:AE→(Out→Prop)→Prop}{k:Out→Option γ}{P:Out→Prop}(hk:∀o,k o=some r→P o)
  (hE:∀h' (k:Out→Option γ) (P:Out→Prop),(∀o,k o=some r→P o)→E h' k=some r→F h' P) (e:KU h gs E k=some r):JA h F P:=
 ⟨gs,H5 (fun h' rd wr e=>hE h' _ _ (fun o e=>hk _ e) e) e⟩
def lO (x:AV) (h:AE) (K:Id→Kd→Bool→Nat→List D→Option (Nat×List CV)→Nat→Nat→Option γ):Option γ:=
 match x with
 | .v (.c (.op id sz kk o))=>(match h id with
  | some (.tree kd ag sz' rows foc)=>Aj (Nat.beq sz' sz) (Aj (Qc kd) (K id kd ag sz' rows foc kk o))
  | _=>none)
 | .v (.c (.ow id))=>(match h id with
  | some (.tree kd ag sz rows foc)=>(match kd with
   | .box=>K id .box ag sz rows foc 0 0
   | _=>none)
  | _=>none)
 | _=>none
theorem U3 {x:AV}{h:AE}{K:Id→Kd→Bool→Nat→List D→Option (Nat×List CV)→Nat→Nat→Option γ}{P:Id→Kd→Bool→Nat→List D→Option (Nat×List CV)→Nat→Nat→Prop}
  (hk:∀a b c d e f g i,K a b c d e f g i=some r→P a b c d e f g i) (e:lO x h K=some r):L1 x h P:=by
 unfold lO at e
 unfold L1
 split at e
 ·split at e
  ·rename_i hi
   simp only[hi]
   exact AQ (AQ (hk _ _ _ _ _ _ _ _)) e
  ·cases e
 ·split at e
  ·rename_i hi
   split at e
   ·simp only[hi];exact hk _ _ _ _ _ _ _ _ e
   ·cases e
  ·cases e
 ·cases e
abbrev bK:=Bool→Nat→TypeId→Nat→TypeId
def RQ (ds:Ds γ) (el:bK) (ti:Types) (t:TypeId) (x:AV) (fresh:Nat) (h:AE) (pl:Pl) (k:Pl→Out→Option γ):Option γ:=
 CZ ti t fun i=>lO x h fun id kd ag sz rows foc kk o=>match foc with
 | some (k',cs)=>gd k' kk<| Aj (Nat.ble (o+i.size) cs.length) (k pl ⟨.v (V1.AZ (AU i.desc) ((cs.drop o).take i.size)),[id],[]⟩)
 | none=>XJ rows kk fun d=>ds (el ag sz t o) d fun d=>Aj (Nat.ble (o+i.size) d.cells.length)<| (match BP NH ((d.cells.drop o).take i.size)with
  | true=>k pl ⟨.v (V1.AZ (AU i.desc) (((d.cells.drop o).take i.size).map CV.d)),[id],[]⟩
  | false=>Aj (Nat.ble d.cells.length 32) (k pl ⟨.v (V1.AZ (AU i.desc) (((Cg fresh 0 d.cells).drop o).take i.size)),[id],(id,.tree kd ag sz rows (some (kk,Cg fresh 0 d.cells)))::Ch fresh 0 d.cells⟩))
theorem U4 {ds:Ds γ}(hd:ds.ok) {el:bK}{ti:Types}{t:TypeId}{x:AV}{fresh:Nat}{h:AE}{pl:Pl}{k:Pl→Out→Option γ}{P:Out→Prop}(hk:∀p o,k p o=some r→P o) (e:RQ ds el ti t x fresh h pl k=some r):loadT ti t x fresh h P:=by
 unfold RQ at e
 unfold loadT
 refine Af (fun i e=>U3 (fun id kd ag sz rows foc kk o e=>?_) e) e
 split at e
 ·obtain⟨h1,e⟩:=ZS e
  exact⟨h1,AQ (hk _ _) e⟩
 ·obtain⟨d,h1,e⟩:=KH e
  replace e:=hd _ _ _ _ e
  refine⟨d,h1,AQ (fun e=>?_) e⟩
  split at e
  ·rename_i h2
   exact⟨true,AA.2 ⟨h2,hk _ _ e⟩⟩
  ·exact⟨false,AQ (hk _ _) e⟩
def OS (ds:Ds γ) (el:bK) (ti:Types) (t:TypeId) (x y:AV) (fresh:Nat) (h:AE) (pl:Pl) (k:Pl→Out→Option γ):Option γ:=
 CZ ti t fun i=>match y with
 | .v y=>Aj (Nat.beq y.cells.length i.size)<| lO x h fun id kd ag sz rows foc kk o=>(match foc with
  | some (k',cs)=>gd k' kk<| Aj (Nat.ble (o+i.size) cs.length) (k pl ⟨.u,[id],[(id,.tree kd ag sz rows (some (kk,cs.take o++y.cells++cs.drop (o+i.size))))]⟩)
  | none=>XJ rows kk fun d=>ds (el ag sz t o) d fun d=>Aj (Nat.ble (o+i.size) d.cells.length)<| Aj (Nat.ble d.cells.length 32)
    (k pl ⟨.u,[id],(id,.tree kd ag sz rows (some (kk,(Cg fresh 0 d.cells).take o++y.cells++(Cg fresh 0 d.cells).drop (o+i.size))))::Ch fresh 0 d.cells⟩))
 | _=>none
theorem Ti {ds:Ds γ}(hd:ds.ok) {el:bK}{ti:Types}{t:TypeId}{x y:AV}{fresh:Nat}{h:AE}{pl:Pl}{k:Pl→Out→Option γ}{P:Out→Prop}(hk:∀p o,k p o=some r→P o) (e:OS ds el ti t x y fresh h pl k=some r):storeT ti t x y fresh h P:=by
 unfold OS at e
 unfold storeT
 refine Af (fun i e=>?_) e
 split at e
 ·simp only[DI]
  refine AQ (fun e=>U3 (fun id kd ag sz rows foc kk o e=>?_) e) e
  split at e
  ·obtain⟨h1,e⟩:=ZS e
   exact⟨h1,AQ (hk _ _) e⟩
  ·obtain⟨d,h1,e⟩:=KH e
   replace e:=hd _ _ _ _ e
   exact⟨d,h1,AQ (AQ (hk _ _)) e⟩
 ·cases e
def OT (ti:Types) (t:TypeId) (x:AV) (f:Nat) (h:AE) (k:Out→Option γ):Option γ:=
 CZ ti t fun i=>match i.desc with
 | .struct fs=>(match fs[f]? with
  | some fd=>CZ ti fd.type fun j=>Aj (Nat.blt 0 j.size)<| lO x h fun id _ _ sz _ _ kk o=>k ⟨.v (.c (.op id sz kk (o+fd.offset))),[id],[]⟩
  | none=>none)
 | _=>none
theorem Tj {ti:Types}{t:TypeId}{x:AV}{f:Nat}{h:AE}{k:Out→Option γ}{P:Out→Prop}(hk:∀o,k o=some r→P o) (e:OT ti t x f h k=some r):GY ti t x f h P:=by
 unfold OT at e
 unfold GY
 refine Af (fun i e=>?_) e
 split at e
 ·rename_i hf
  split at e
  ·rename_i hfd
   simp only[hf,hfd]
   exact Af (fun j e=>AQ (fun e=>U3 (fun _ _ _ _ _ _ _ _ e=>hk _ e) e) e) e
  ·cases e
 ·cases e
def OU (ti:Types) (t:TypeId) (x i:AV) (h:AE) (k:Out→Option γ):Option γ:=
 PG i fun n=>CZ ti t fun q=>match q.desc with
 | .slice e=>CZ ti e fun j=>(match x with
  | .v (.c (.ow id))=>(match h id with
   | some (.tree kd _ sz rows _)=>(match kd with
    | .row=>Aj (Nat.beq sz j.size)<| Ec (0≤n∧n.toNat<rows.length) (k ⟨.v (.c (.op id sz n.toNat 0)),[id],[]⟩)
    | _=>none)
   | _=>none)
  | _=>none)
 | _=>none
theorem Tl {M:AY}{ti:Types}{t:TypeId}{x i:AV}{h:AE}{k:Out→Option γ}{P:Out→Prop}(hk:∀o,k o=some r→P o) (e:OU ti t x i h k=some r):GZ M ti t x i h P:=by
 unfold OU at e
 unfold GZ
 refine Hy (fun _ n e=>Af (fun q e=>?_) e) e
 split at e
 ·rename_i hq
  simp only[hq]
  refine Af (fun j e=>?_) e
  split at e
  ·split at e
   ·rename_i hi
    split at e
    ·simp only[hi]
     refine AQ (fun e=>?_) e
     obtain⟨h1,e⟩:=Bm e
     exact⟨(M.lock_iff _).2 h1,hk _ e⟩
    ·cases e
   ·cases e
  ·cases e
 ·cases e
def U5 (ti:Types) (t:TypeId) (x:AV) (h:AE) (k:Out→Option γ):Option γ:=
 CZ ti t fun q=>match x with
 | .v (.c (.ow id))=>(match h id with
  | some (.tree kd _ _ rows _)=>(match kd with
   | .row=>(match q.desc with
    | .slice _=>Q9 rows fun z=>k ⟨.v (.d (.int .i64 z)),[id],[]⟩
    | _=>none)
   | _=>none)
  | _=>none)
 | _=>none
theorem XV {M:AY}{ti:Types}{t:TypeId}{x:AV}{h:AE}{k:Out→Option γ}{P:Out→Prop}(hk:∀o,k o=some r→P o) (e:U5 ti t x h k=some r):Jl M ti t x h P:=by
 unfold U5 at e
 unfold Jl
 refine Af (fun q e=>?_) e
 split at e
 ·split at e
  ·rename_i hi
   split at e
   ·split at e
    ·rename_i hq;simp only[hi,hq];exact (FU M e).imp fun z h=>⟨h.1,hk _ h.2⟩
    ·cases e
   ·cases e
  ·cases e
 ·cases e
def U6 (x:AV) (h:AE) (ag:Bool) (sz:Nat) (K:List Id→List D→Option γ):Option γ:=
 match x with
 | .v (.c (.nils _ _))=>K [] []
 | .v (.c (.ow i))=>(match h i with
  | some (.tree kd ag' sz' rows foc)=>(match kd with
   | .row=>(match foc with
    | none=>Aj (ag'==ag) (Aj (Nat.beq sz' sz) (K [i] rows))
    | some _=>none)
   | _=>none)
  | _=>none)
 | _=>none
theorem XW {x:AV}{h:AE}{ag:Bool}{sz:Nat}{K:List Id→List D→Option γ}{P:List Id→List D→Prop}(hk:∀a b,K a b=some r→P a b) (e:U6 x h ag sz K=some r):YJ x h ag sz P:=by
 unfold U6 at e
 unfold YJ
 split at e
 ·exact hk _ _ e
 ·split at e
  ·rename_i hi
   split at e
   ·split at e
    ·simp only[hi];exact AQ (AQ (hk _ _)) e
    ·cases e
   ·cases e
  ·cases e
 ·cases e
def U7 (y:AV) (h:AE) (ag:Bool) (sz:Nat) (K:List Id→List D→Option γ):Option γ:=
 match y with
 | .v (.c (.sl jj n))=>(match h jj with
  | some (.cells cs)=>Aj (Nat.beq cs.length (n*sz)) (KT h cs fun ds is=>K is (rowsOf ag sz n ds))
  | _=>none)
 | .v (.c (.ow i))=>(match h i with
  | some (.tree kd ag' sz' rows foc)=>(match kd with
   | .row=>(match foc with
    | none=>Aj (ag'==ag) (Aj (Nat.beq sz' sz) (K [i] rows))
    | some _=>none)
   | _=>none)
  | _=>none)
 | .v (.d (.list ag' sz' ys))=>Aj (ag'==ag) (Aj (Nat.beq sz' sz) (Ec (TU ys=true) (K [] ys)))
 | .v (.c (.tl ag' sz' ys))=>Aj (ag'==ag) (Aj (Nat.beq sz' sz) (Ec (TU ys=true) (K [] ys)))
 | .v (.c (.nils ag' sz'))=>Aj (ag'==ag) (Aj (Nat.beq sz' sz) (Ec (TU []=true) (K [] [])))
 | _=>none
theorem XX {y:AV}{h:AE}{ag:Bool}{sz:Nat}{K:List Id→List D→Option γ}{P:List Id→List D→Prop}(hk:∀a b,K a b=some r→P a b) (e:U7 y h ag sz K=some r):YK y h ag sz P:=by
 unfold U7 at e
 unfold YK
 split at e
 ·split at e
  ·rename_i hi
   simp only[hi]
   exact AQ (fun e=>H4 (fun ds is e=>⟨_,rfl,hk _ _ e⟩) e) e
  ·cases e
 ·split at e
  ·rename_i hi
   split at e
   ·split at e
    ·simp only[hi];exact AQ (AQ (hk _ _)) e
    ·cases e
   ·cases e
  ·cases e
 ·exact AQ (AQ fun e=>⟨LL.1 (Bm e).1,hk _ _ (Bm e).2⟩) e
 ·exact AQ (AQ fun e=>⟨LL.1 (Bm e).1,hk _ _ (Bm e).2⟩) e
 ·exact AQ (AQ fun e=>⟨LL.1 (Bm e).1,hk _ _ (Bm e).2⟩) e
 ·cases e
def LR (ti:Types) (t:TypeId) (x y:AV) (fresh:Nat) (h:AE) (k:Out→Option γ):Option γ:=
 CZ ti t fun q=>match q.desc with
 | .slice e=>CZ ti e fun j=>Aj (Nat.blt 0 j.size)<| U6 x h (AU j.desc) j.size fun ids rows=>U7 y h (AU j.desc) j.size fun is ys=>
   Aj (nodupB (ids++is))<| Ed j.bytes rows ys fun out=>k ⟨.v (.c (.ow (.loc fresh))),ids++(is++bU y),Aa (ids++is)++[(.loc fresh,.tree .row (AU j.desc) j.size out none)]⟩
 | _=>none
theorem RR {M:AY}{ti:Types}{t:TypeId}{x y:AV}{fresh:Nat}{h:AE}{k:Out→Option γ}{P:Out→Prop}(hk:∀o,k o=some r→P o) (e:LR ti t x y fresh h k=some r):Jp M ti t x y fresh h P:=by
 unfold LR at e
 unfold Jp
 refine Af (fun q e=>?_) e
 split at e
 ·rename_i hq
  simp only[hq]
  refine Af (fun j e=>AQ (fun e=>XW (fun ids rows e=>XX (fun is ys e=>AQ (fun e=>?_) e) e) e) e) e
  obtain⟨out,h1,h2,e⟩:=DM e
  exact⟨(M.lock_iff _).2 h1,out,h2,hk _ e⟩
 ·cases e
def U8 (x:AV) (h:AE) (ag:Bool) (sz:Nat) (K:List Id→List D→Option γ):Option γ:=
 match x with
 | .v (.c (.nils _ _))=>K [] []
 | .v (.c (.ow i))=>(match h i with
  | some (.tree kd ag' sz' rows foc)=>(match foc with
   | none=>(match kd with
    | .flat=>Aj (ag'==ag) (Aj (Nat.beq sz' sz) (K [i] rows))
    | .row=>(match rows with
     | []=>Aj (ag'==ag) (Aj (Nat.beq sz' sz) (K [i] []))
     | _=>none)
    | _=>none)
   | some _=>none)
  | _=>none)
 | _=>none
theorem XY {x:AV}{h:AE}{ag:Bool}{sz:Nat}{K:List Id→List D→Option γ}{P:List Id→List D→Prop}(hk:∀a b,K a b=some r→P a b) (e:U8 x h ag sz K=some r):YU x h ag sz P:=by
 unfold U8 at e
 unfold YU
 split at e
 ·exact hk _ _ e
 ·split at e
  ·rename_i hi
   split at e
   ·split at e
    ·simp only[hi];exact AQ (AQ (hk _ _)) e
    ·split at e
     ·simp only[hi];exact AQ (AQ (hk _ _)) e
     ·cases e
    ·cases e
   ·cases e
  ·cases e
 ·cases e
def LS (ti:Types) (t:TypeId) (x y:AV) (fresh:Nat) (h:AE) (k:Out→Option γ):Option γ:=
 CZ ti t fun q=>match q.desc with
 | .slice e=>CZ ti e fun j=>Aj (Nat.blt 0 j.size)<| U8 x h (AU j.desc) j.size fun ids rows=>dD y fun ag sz ys=>Aj (ag==AU j.desc)<| Aj (Nat.beq sz j.size)<|
   Ed j.bytes rows ys fun out=>k ⟨.v (.c (.ow (.loc fresh))),ids,Aa ids++[(.loc fresh,.tree .flat (AU j.desc) j.size out none)]⟩
 | _=>none
theorem RT {M:AY}{ti:Types}{t:TypeId}{x y:AV}{fresh:Nat}{h:AE}{k:Out→Option γ}{P:Out→Prop}(hk:∀o,k o=some r→P o) (e:LS ti t x y fresh h k=some r):Hb M ti t x y fresh h P:=by
 unfold LS at e
 unfold Hb
 refine Af (fun q e=>?_) e
 split at e
 ·rename_i hq
  simp only[hq]
  refine Af (fun j e=>AQ (fun e=>XY (fun ids rows e=>LO (fun ag sz ys e=>AQ (AQ fun e=>?_) e) e) e) e) e
  obtain⟨out,h1,h2,e⟩:=DM e
  exact⟨(M.lock_iff _).2 h1,out,h2,hk _ e⟩
 ·cases e
def H7 (ti:Types) (s:AN) (e:TypeId) (sz:Nat):Nat→List (Nat×Operand)→(List CV→Option γ)→Option γ
 | _,[],k=>k []
 | n,(i,x)::l,k=>Aj (Nat.beq i n)<| match AP ti s e x with
  | .v y=>Aj (Nat.beq y.cells.length sz)<| H7 ti s e sz (n+1) l fun cs=>k (y.cells++cs)
  | _=>none
theorem H8 {ti:Types}{s:AN}{e:TypeId}{sz:Nat}:∀{l:List (Nat×Operand)}{n:Nat}{k:List CV→Option γ}{P:List CV→Prop},(∀c,k c=some r→P c)→H7 ti s e sz n l k=some r→Gq ti s e sz n l P
 | [],_,_,_,hk,h=>hk _ h
 | (i,x)::l,n,k,P,hk,h=>by
  unfold H7 at h
  unfold Gq
  refine AQ (fun h=>?_) h
  split at h
  ·rename_i hy
   simp only[hy]
   exact AQ (fun h=>H8 (fun c h=>hk _ h) h) h
  ·cases h
def U9 (ys:List D) (k:List D→Option γ):Option γ:=match ys with
 | []=>k []
 | y::l=>nR (y::l) k
theorem VA {ys:List D}{k:List D→Option γ}(h:U9 ys k=some r):k ys=some r:=by
 unfold U9 at h
 split at h
 ·exact h
 ·exact h
def GC (ti:Types) (s:AN) (t:TypeId) (len:Nat) (parts:List (Nat×Operand)) (fresh:Nat) (h:AE) (k:Out→Option γ):Option γ:=
 CZ ti t fun q=>match q.desc with
 | .slice e=>CZ ti e fun j=>Aj (Nat.ble (len*j.size) 16777216)<| Aj (Nat.beq parts.length len)<| Aj (Nat.blt 0 j.size)<| H7 ti s e j.size 0 parts fun cs=>
   KT h cs fun ds is=>Aj (nodupB is)<| Aj (Nat.ble len maxLen)<| U9 (rowsOf (AU j.desc) j.size len ds) fun ys=>k ⟨.v (.c (.ow (.loc fresh))),is,Aa is++[(.loc fresh,.tree .row (AU j.desc) j.size ys none)]⟩
 | _=>none
theorem LU {ti:Types}{s:AN}{t:TypeId}{len:Nat}{parts:List (Nat×Operand)}{fresh:Nat}{h:AE}{k:Out→Option γ}{P:Out→Prop}(hk:∀o,k o=some r→P o) (e:GC ti s t len parts fresh h k=some r):Fs ti s t len parts fresh h P:=by
 unfold GC at e
 unfold Fs
 refine Af (fun q e=>?_) e
 split at e
 ·rename_i hq
  simp only[hq]
  refine Af (fun j e=>AQ (AQ (AQ fun e=>H8 (fun cs e=>?_) e)) e) e
  exact H4 (fun ds is e=>AQ (AQ fun e=>⟨_,rfl,hk _ (VA e)⟩) e) e
 ·cases e
def GD (ti:Types) (s:AN) (t:TypeId) (len:Nat) (parts:List (Nat×Operand)) (fresh:Nat) (k:Out→Option γ):Option γ:=
 CZ ti t fun q=>match q.desc with
 | .slice e=>CZ ti e fun j=>Aj (Nat.ble (len*j.size) 16777216)<| Aj (Nat.beq parts.length len)<| Aj (Nat.blt 0 j.size)<| H7 ti s e j.size 0 parts fun cs=>
   k ⟨.v (.c (.sl (.loc fresh) len)),[],[(.loc fresh,.cells cs)]⟩
 | _=>none
theorem LV {ti:Types}{s:AN}{t:TypeId}{len:Nat}{parts:List (Nat×Operand)}{fresh:Nat}{k:Out→Option γ}{P:Out→Prop}(hk:∀o,k o=some r→P o) (e:GD ti s t len parts fresh k=some r):Dj ti s t len parts fresh P:=by
 unfold GD at e
 unfold Dj
 refine Af (fun q e=>?_) e
 split at e
 ·rename_i hq
  simp only[hq]
  exact Af (fun j e=>AQ (AQ (AQ fun e=>H8 (fun cs e=>hk _ e) e)) e) e
 ·cases e
def VB (own:Bool) (ti:Types) (t:TypeId) (x y:AV) (fresh:Nat) (k:Out→Option γ):Option γ:=
 PG x fun n=>PG y fun m=>CZ ti t fun q=>match q.desc with
 | .slice e=>CZ ti e fun j=>Aj (Nat.blt 0 j.size)<| (match kP j.zc with
  | some ds=>Y8 j.bytes (rowOf (AU j.desc) ds) n m fun rows=>(match own with
   | true=>k ⟨.v (.c (.ow (.loc fresh))),[],[(.loc fresh,.tree .row (AU j.desc) j.size rows none)]⟩
   | false=>k ⟨.v (.c (.tl (AU j.desc) j.size rows)),[],[]⟩)
  | none=>none)
 | _=>none
theorem XZ {M:AY}{own:Bool}{ti:Types}{t:TypeId}{x y:AV}{fresh:Nat}{k:Out→Option γ}{P:Out→Prop}(hk:∀o,k o=some r→P o) (e:VB own ti t x y fresh k=some r):Dn M ti t x y fresh P:=by
 unfold VB at e
 unfold Dn
 refine Hy (fun _ n e=>Hy (fun _ m e=>Af (fun q e=>?_) e) e) e
 split at e
 ·rename_i hq
  simp only[hq]
  refine Af (fun j e=>AQ (fun e=>?_) e) e
  split at e
  ·rename_i hz
   obtain⟨rows,h1,h2,e⟩:=XI e
   simp only[hz]
   refine⟨(M.lock_iff _).2 h1,rows,h2,own,?_⟩
   cases own with
   | true=>exact hk _ e
   | false=>exact hk _ e
  ·cases e
 ·cases e
def dH (x:AV) (h:AE) (K:Id→Bool→Nat→List D→Option γ):Option γ:=
 match x with
 | .v (.c (.ow id))=>(match h id with
  | some (.tree kd ag sz rows foc)=>(match kd with
   | .flat=>(match foc with
    | none=>K id ag sz rows
    | some _=>none)
   | _=>none)
  | _=>none)
 | _=>none
theorem WC {x:AV}{h:AE}{K:Id→Bool→Nat→List D→Option γ}{P:Id→Bool→Nat→List D→Prop}(hk:∀a b c d,K a b c d=some r→P a b c d) (e:dH x h K=some r):K6 x h P:=by
 unfold dH at e
 unfold K6
 split at e
 ·split at e
  ·rename_i hi
   split at e
   ·split at e
    ·simp only[hi];exact hk _ _ _ _ e
    ·cases e
   ·cases e
  ·cases e
 ·cases e
def ZT (x:AV) (h:AE) (K:Id→Bool→Nat→List D→Nat→Nat→Option γ):Option γ:=
 match x with
 | .v (.c (.op id sz kk o))=>(match h id with
  | some (.tree kd ag sz' rows foc)=>(match kd with
   | .flat=>(match foc with
    | none=>Aj (Nat.beq sz' sz) (K id ag sz' rows kk o)
    | some _=>none)
   | _=>none)
  | _=>none)
 | _=>none
theorem RU {x:AV}{h:AE}{K:Id→Bool→Nat→List D→Nat→Nat→Option γ}{P:Id→Bool→Nat→List D→Nat→Nat→Prop}(hk:∀a b c d e f,K a b c d e f=some r→P a b c d e f) (e:ZT x h K=some r):Ha x h P:=by
 unfold ZT at e
 unfold Ha
 split at e
 ·split at e
  ·rename_i hi
   split at e
   ·split at e
    ·simp only[hi];exact AQ (hk _ _ _ _ _ _) e
    ·cases e
   ·cases e
  ·cases e
 ·cases e
def Tm (ds:Ds γ) (el:bK) (ti:Types) (t:TypeId) (x:AV) (h:AE) (k:Out→Option γ):Option γ:=
 CZ ti t fun i=>ZT x h fun id ag sz rows kk o=>XJ rows kk fun d=>ds (el ag sz t o) d fun d=>Aj (Nat.ble (o+i.size) d.cells.length) (k ⟨.v (V1.AZ (AU i.desc) (((d.cells.drop o).take i.size).map CV.d)),[id],[]⟩)
theorem Tn {ds:Ds γ}(hd:ds.ok) {el:bK}{ti:Types}{t:TypeId}{x:AV}{h:AE}{k:Out→Option γ}{P:Out→Prop}(hk:∀o,k o=some r→P o) (e:Tm ds el ti t x h k=some r):Ju ti t x h P:=by
 refine Af (fun i e=>RU (fun id ag sz rows kk o e=>?_) e) e
 obtain⟨d,h1,e⟩:=KH e
 replace e:=hd _ _ _ _ e
 exact⟨d,h1,AQ (hk _) e⟩
def P5 (ds:Ds γ) (el:bK) (ti:Types) (t:TypeId) (x y:AV) (h:AE) (k:Out→Option γ):Option γ:=
 CZ ti t fun i=>match y with
 | .v y=>(match y.norm with
  | .d v=>Aj (Nat.beq v.cells.length i.size)<| ZT x h fun id ag sz rows kk o=>XJ rows kk fun d=>ds (el ag sz t o) d fun d=>Aj (Nat.ble (o+i.size) d.cells.length)<|
    iQ rows kk (rowOf ag (d.cells.take o++v.cells++d.cells.drop (o+i.size))) fun rows'=>k ⟨.u,[id],[(id,.tree .flat ag sz rows' none)]⟩
  | _=>none)
 | _=>none
theorem RV {ds:Ds γ}(hd:ds.ok) {el:bK}{ti:Types}{t:TypeId}{x y:AV}{h:AE}{k:Out→Option γ}{P:Out→Prop}(hk:∀o,k o=some r→P o) (e:P5 ds el ti t x y h k=some r):IU ti t x y h P:=by
 refine Af (fun i e=>?_) e
 split at e
 ·split at e
  ·rename_i hn
   simp only[DI,hn]
   refine AQ (fun e=>RU (fun id ag sz rows kk o e=>?_) e) e
   obtain⟨d,h1,e⟩:=KH e
   replace e:=hd _ _ _ _ e
   refine⟨d,h1,AQ (fun e=>?_) e⟩
   obtain⟨out,h2,e⟩:=TV e
   exact⟨out,h2,hk _ e⟩
  ·cases e
 ·cases e
def LW (ti:Types) (t:TypeId) (x:AV) (f:Nat) (h:AE) (k:Out→Option γ):Option γ:=
 CZ ti t fun i=>match i.desc with
 | .struct fs=>(match fs[f]? with
  | some fd=>CZ ti fd.type fun j=>Aj (Nat.blt 0 j.size)<| ZT x h fun id _ sz _ kk o=>k ⟨.v (.c (.op id sz kk (o+fd.offset))),[id],[]⟩
  | none=>none)
 | _=>none
theorem RX {ti:Types}{t:TypeId}{x:AV}{f:Nat}{h:AE}{k:Out→Option γ}{P:Out→Prop}(hk:∀o,k o=some r→P o) (e:LW ti t x f h k=some r):Gb ti t x f h P:=by
 unfold LW at e
 unfold Gb
 refine Af (fun i e=>?_) e
 split at e
 ·rename_i hf
  split at e
  ·rename_i hfd
   simp only[hf,hfd]
   exact Af (fun j e=>AQ (fun e=>RU (fun _ _ _ _ _ _ e=>hk _ e) e) e) e
  ·cases e
 ·cases e
def LX (ti:Types) (t:TypeId) (x i:AV) (h:AE) (k:Out→Option γ):Option γ:=
 PG i fun n=>CZ ti t fun q=>match q.desc with
 | .slice e=>CZ ti e fun j=>dH x h fun id _ sz rows=>Aj (Nat.beq sz j.size)<| Ec (0≤n∧n.toNat<rows.length) (k ⟨.v (.c (.op id sz n.toNat 0)),[id],[]⟩)
 | _=>none
theorem RY {M:AY}{ti:Types}{t:TypeId}{x i:AV}{h:AE}{k:Out→Option γ}{P:Out→Prop}(hk:∀o,k o=some r→P o) (e:LX ti t x i h k=some r):Gc M ti t x i h P:=by
 unfold LX at e
 unfold Gc
 refine Hy (fun _ n e=>Af (fun q e=>?_) e) e
 split at e
 ·rename_i hq
  simp only[hq]
  refine Af (fun j e=>WC (fun id ag sz rows e=>AQ (fun e=>?_) e) e) e
  obtain⟨h1,e⟩:=Bm e
  exact⟨(M.lock_iff _).2 h1,hk _ e⟩
 ·cases e
def RZ (ti:Types) (t:TypeId) (x:AV) (h:AE) (k:Out→Option γ):Option γ:=
 CZ ti t fun q=>match q.desc with
 | .slice _=>dH x h fun id _ _ rows=>Q9 rows fun z=>k ⟨.v (.d (.int .i64 z)),[id],[]⟩
 | _=>none
theorem VC {M:AY}{ti:Types}{t:TypeId}{x:AV}{h:AE}{k:Out→Option γ}{P:Out→Prop}(hk:∀o,k o=some r→P o) (e:RZ ti t x h k=some r):Jw M ti t x h P:=by
 unfold RZ at e
 unfold Jw
 refine Af (fun q e=>?_) e
 split at e
 ·rename_i hq
  simp only[hq]
  exact WC (fun id _ _ rows e=>(FU M e).imp fun z h=>⟨h.1,hk _ h.2⟩) e
 ·cases e
def kG (x:AV) (h:AE) (K:Id→Bool→Nat→List D→Option γ):Option γ:=
 match x with
 | .v (.c (.ow id))=>(match h id with
  | some (.tree kd ag sz rows foc)=>(match kd with
   | .fmap e=>(match ag with
    | true=>(match foc with
     | none=>K id e sz rows
     | some _=>none)
    | false=>none)
   | _=>none)
  | _=>none)
 | _=>none
theorem Ra {x:AV}{h:AE}{K:Id→Bool→Nat→List D→Option γ}{P:Id→Bool→Nat→List D→Prop}(hk:∀a b c d,K a b c d=some r→P a b c d) (e:kG x h K=some r):L4 x h P:=by
 unfold kG at e
 unfold L4
 split at e
 ·split at e
  ·rename_i hi
   split at e
   ·split at e
    ·split at e
     ·simp only[hi];exact hk _ _ _ _ e
     ·cases e
    ·cases e
   ·cases e
  ·cases e
 ·cases e
def LY (ds:Ds γ) (ti:Types) (t:TypeId) (x key:AV) (ok:Bool) (h:AE) (pl:Pl) (k:Pl→Out→Option γ):Option γ:=
 CZ ti t fun q=>match q.desc with
 | .map kt et=>CZ ti kt fun kk=>CZ ti et fun j=>Aj (FE j)<| (match key with
  | .v (.d key)=>Aj (HY kk.desc key)<| kG x h fun id e _ rows=>Aj (e==AU j.desc)<| findF e key rows
    (fun y=>ds et y fun y=>match ok with
     | true=>k (pl.at true) ⟨.t [.d y,.d (.bool true)],[id],[]⟩
     | false=>k (pl.at true) ⟨.v (.d y),[id],[]⟩)
    (match ok with
     | true=>k (pl.at false) ⟨.t [V1.AZ (AU j.desc) j.zc,.d (.bool false)],[id],[]⟩
     | false=>k (pl.at false) ⟨.v (V1.AZ (AU j.desc) j.zc),[id],[]⟩)
  | _=>none)
 | _=>none
theorem Rb {M:AY}{ds:Ds γ}(hd:ds.ok) {ti:Types}{t:TypeId}{x key:AV}{ok:Bool}{h:AE}{pl:Pl}{k:Pl→Out→Option γ}{P:Out→Prop}(hk:∀p o,k p o=some r→P o) (e:LY ds ti t x key ok h pl k=some r):FJ M ti t x key ok h P:=by
 unfold LY at e
 unfold FJ
 refine Af (fun q e=>?_) e
 split at e
 ·rename_i hq
  simp only[hq]
  refine Af (fun kk e=>Af (fun j e=>AQ (fun e=>?_) e) e) e
  split at e
  ·refine AQ (fun e=>Ra (fun id e' sz rows e=>AQ (fun e=>?_) e) e) e
   rcases XK e with⟨y,h1,e⟩ | ⟨h1,e⟩
   ·refine⟨some y,(M.lock_iff _).2 h1,?_⟩
    replace e:=hd _ _ _ _ e
    cases ok with
    | true=>exact hk _ _ e
    | false=>exact hk _ _ e
   ·refine⟨none,(M.lock_iff _).2 h1,?_⟩
    cases ok with
    | true=>exact hk _ _ e
    | false=>exact hk _ _ e
  ·cases e
 ·cases e
def Ic (ti:Types) (t:TypeId) (x key y:AV) (h:AE) (k:Out→Option γ):Option γ:=
 CZ ti t fun q=>match q.desc with
 | .map kt et=>CZ ti kt fun kk=>CZ ti et fun j=>(match key with
  | .v (.d key)=>Aj (HY kk.desc key)<| (match y with
   | .v y=>(match y.norm with
    | .d d=>Aj (d.isAgg==AU j.desc)<| Aj (Nat.beq d.cells.length j.size)<| kG x h fun id e sz rows=>Aj (e==AU j.desc)<| Aj (Nat.beq sz (j.size+1))<|
      iR key d.cells rows fun rows'=>k ⟨.u,[id],[(id,.tree (.fmap e) true sz rows' none)]⟩
    | _=>none)
   | _=>none)
  | _=>none)
 | _=>none
theorem KV {M:AY}{ti:Types}{t:TypeId}{x key y:AV}{h:AE}{k:Out→Option γ}{P:Out→Prop}(hk:∀o,k o=some r→P o) (e:Ic ti t x key y h k=some r):D7 M ti t x key y h P:=by
 unfold Ic at e
 unfold D7
 refine Af (fun q e=>?_) e
 split at e
 ·rename_i hq
  simp only[hq]
  refine Af (fun kk e=>Af (fun j e=>?_) e) e
  split at e
  ·refine AQ (fun e=>?_) e
   split at e
   ·split at e
    ·rename_i hn
     simp only[DI,hn]
     refine AQ (AQ fun e=>Ra (fun id e' sz rows e=>AQ (AQ fun e=>?_) e) e) e
     obtain⟨out,h1,e⟩:=ZA e
     exact⟨out,(M.lock_iff _).2 h1,hk _ e⟩
    ·cases e
   ·cases e
  ·cases e
 ·cases e
def P6 (ti:Types) (t:TypeId) (fresh:Nat) (k:Out→Option γ):Option γ:=
 CZ ti t fun q=>match q.desc with
 | .map _ et=>CZ ti et fun j=>k ⟨.v (.c (.ow (.loc fresh))),[],[(.loc fresh,.tree (.fmap (AU j.desc)) true (j.size+1) [] none)]⟩
 | _=>none
theorem Rc {ti:Types}{t:TypeId}{fresh:Nat}{k:Out→Option γ}{P:Out→Prop}(hk:∀o,k o=some r→P o) (e:P6 ti t fresh k=some r):Ft ti t fresh P:=by
 refine Af (fun q e=>?_) e
 split at e
 ·rename_i hq;simp only[hq];exact Af (fun j e=>hk _ e) e
 ·cases e
def VD (ti:Types) (op:BinOp) (t:TypeId) (x y:AV) (h:AE) (k:Out→Option γ):Option γ:=
 match y with
 | .v (.c .nilm)=>CZ ti t fun q=>(match q.desc with
  | .map _ _=>kG x h fun id _ _ _=>OQ op false fun d=>k ⟨.v (.d d),[id],[]⟩
  | _=>none)
 | _=>none
theorem Xa {ti:Types}{op:BinOp}{t:TypeId}{x y:AV}{h:AE}{k:Out→Option γ}{P:Out→Prop}(hk:∀o,k o=some r→P o) (e:VD ti op t x y h k=some r):Jr ti op t x y h P:=by
 unfold VD at e
 unfold Jr
 split at e
 ·refine Af (fun q e=>?_) e
  split at e
  ·rename_i hq;simp only[hq];exact Ra (fun id _ _ _ e=>H0 (fun d e=>hk _ e) e) e
  ·cases e
 ·cases e
end
end Go.AM
namespace Go.AM
open Go Go.RowKit
section
variable {γ:Type}{r:γ}
def fJ (ti:Types) (s:AN) (x:Option Operand) (d:Option γ) (k:Int→Option γ):Option γ:=
 match x with
 | none=>d
 | some x=>PG (AP ti s 3 x) k
def Rd (ti:Types) (s:AN) (t:TypeId) (x:AV) (lo hi mx:Option Operand) (k:Out→Option γ):Option γ:=
 CZ ti t fun q=>match q.desc with
 | .string=>(match x with
  | .v (.d (.str b))=>(match mx with
   | none=>(match lo with
    | none=>(match hi with
     | none=>none
     | some u=>PG (AP ti s 3 u) fun u=>cV b 0 u fun c=>k ⟨.v (.d (.str c)),[],[]⟩)
    | some l=>PG (AP ti s 3 l) fun l=>(match hi with
     | none=>Uw b l fun c=>k ⟨.v (.d (.str c)),[],[]⟩
     | some u=>PG (AP ti s 3 u) fun u=>cV b l u fun c=>k ⟨.v (.d (.str c)),[],[]⟩))
   | some _=>none)
  | _=>none)
 | .slice e=>CZ ti e fun j=>match x with
  | .v (.c (.sl _ n))=>(match lo,hi,mx with
   | none,some u,none=>PG (AP ti s 3 u) fun z=>(match z with
    | .ofNat 0=>Aj (Nat.ble n 4294967296) (k ⟨.v (.d (.list (AU j.desc) j.size [])),[],[]⟩)
    | _=>none)
   | _,_,_=>none)
  | x=>dD x fun ag sz rows=>Aj (AU j.desc==ag)<| Aj (Nat.beq sz j.size)<| fJ ti s lo
   (match hi with
    | none=>none
    | some u=>PG (AP ti s 3 u) fun u=>(match mx with
     | none=>RA rows 0 u fun out=>k ⟨.v (.d (.list ag sz out)),[],[]⟩
     | some m=>PG (AP ti s 3 m) fun v=>Mh rows 0 u v fun out=>k ⟨.v (.c (.tl ag sz out)),[],[]⟩))
   fun l=>(match hi with
    | none=>(match mx with
     | none=>Y7 rows l fun out=>k ⟨.v (.d (.list ag sz out)),[],[]⟩
     | some _=>none)
    | some u=>PG (AP ti s 3 u) fun u=>(match mx with
     | none=>RA rows l u fun out=>k ⟨.v (.d (.list ag sz out)),[],[]⟩
     | some m=>PG (AP ti s 3 m) fun v=>Mh rows l u v fun out=>k ⟨.v (.c (.tl ag sz out)),[],[]⟩))
 | _=>none
theorem Dv {x:AV}{k:Int→Option γ}(h:PG x k=some r):∃q n,x= .v (.d (.int q n))∧k n=some r:=by
 unfold PG at h
 split at h
 ·exact⟨_,_,rfl,h⟩
 ·cases h
theorem VE {M:AY}{ti:Types}{s:AN}{t:TypeId}{x:AV}{lo hi mx:Option Operand}{k:Out→Option γ}{P:Out→Prop}(hk:∀o,k o=some r→P o) (e:Rd ti s t x lo hi mx k=some r):HS M ti s t x lo hi mx P:=by
 unfold Rd at e
 unfold HS
 refine Af (fun q e=>?_) e
 split at e
 ·rename_i hq
  simp only[hq]
  split at e
  ·split at e
   ·split at e
    ·split at e
     ·cases e
     ·obtain⟨q2,u,h2,e⟩:=Dv e
      obtain⟨c,h3,h4,e⟩:=TW M e
      simp only[Iq,h2,Cy]
      exact⟨c,h3,h4,hk _ e⟩
    ·obtain⟨q1,l,h1,e⟩:=Dv e
     split at e
     ·obtain⟨c,h3,h4,e⟩:=Ux M e
      simp only[Iq,h1,Cy]
      exact⟨c,h3,h4,hk _ e⟩
     ·obtain⟨q2,u,h2,e⟩:=Dv e
      obtain⟨c,h3,h4,e⟩:=TW M e
      simp only[Iq,h1,h2,Cy]
      exact⟨c,h3,h4,hk _ e⟩
   ·cases e
  ·cases e
 ·rename_i el hq
  simp only[hq]
  refine Af (fun j e=>?_) e
  split at e
  ·split at e
   ·obtain⟨q1,z,h1,e⟩:=Dv e
    split at e
    ·obtain⟨h2,e⟩:=AD e
     simp only[Qa,h1,Cy]
     exact AA.2 ⟨h2,rfl,hk _ e⟩
    ·cases e
   ·cases e
  split
  ·unfold dD at e;cases e
  refine LO (fun ag sz rows e=>AQ (AQ fun e=>?_) e) e
  unfold fJ at e
  split at e
  ·split at e
   ·cases e
   ·obtain⟨q2,u,h2,e⟩:=Dv e
    simp only[Iq,h2,Cy]
    split at e
    ·obtain⟨c,h3,h4,e⟩:=N8 M e
     exact⟨c,h3,h4,hk _ e⟩
    ·obtain⟨q3,v,h5,e⟩:=Dv e
     obtain⟨c,h3,h4,e⟩:=MD M e
     simp only[h5]
     exact⟨c,h3,h4,hk _ e⟩
  ·obtain⟨q1,l,h1,e⟩:=Dv e
   split at e
   ·split at e
    ·obtain⟨c,h3,h4,e⟩:=XH M e
     simp only[Iq,h1,Cy]
     exact⟨c,h3,h4,hk _ e⟩
    ·cases e
   ·obtain⟨q2,u,h2,e⟩:=Dv e
    simp only[Iq,h1,h2,Cy]
    split at e
    ·obtain⟨c,h3,h4,e⟩:=N8 M e
     exact⟨c,h3,h4,hk _ e⟩
    ·obtain⟨q3,v,h5,e⟩:=Dv e
     obtain⟨c,h3,h4,e⟩:=MD M e
     simp only[h5]
     exact⟨c,h3,h4,hk _ e⟩
 ·cases e
def ZU (ds:Ds γ) (ti:Types) (t:TypeId) (x i:AV) (k:Out→Option γ):Option γ:=
 PG i fun n=>CZ ti t fun q=>match q.desc with
 | .string=>(match x with
  | .v (.d (.str b))=>mZ b n fun z=>k ⟨.v (.d (.int .u8 z)),[],[]⟩
  | _=>none)
 | .array len e=>CZ ti e fun j=>(match x with
  | .v (.d (.agg cs))=>Aj (Nat.beq cs.length (len*j.size))<| MR (rowsOf (AU j.desc) j.size len cs) n fun d=>ds e d fun d=>k ⟨.v (.d d),[],[]⟩
  | .v (.agg cs)=>Aj (Nat.beq cs.length (len*j.size))<| (match n with
   | .ofNat p=>Aj (Nat.blt p len) (k ⟨.v (V1.AZ (AU j.desc) ((cs.drop (p*j.size)).take j.size)),[],[]⟩)
   | .negSucc _=>none)
  | _=>none)
 | _=>none
theorem ZV {ds:Ds γ}(hd:ds.ok) {ti:Types}{t:TypeId}{x i:AV}{k:Out→Option γ}{P:Out→Prop}(hk:∀o,k o=some r→P o) (e:ZU ds ti t x i k=some r):D3 ti t x i P:=by
 unfold ZU at e
 unfold D3
 refine Hy (fun _ n e=>Af (fun q e=>?_) e) e
 split at e
 ·rename_i hq
  simp only[hq]
  split at e
  ·obtain⟨z,h1,h2⟩:=V2 e
   exact⟨z,h1,hk _ h2⟩
  ·cases e
 ·rename_i hq
  simp only[hq]
  refine Af (fun j e=>?_) e
  split at e
  ·refine AQ (fun e=>?_) e
   obtain⟨d,⟨h1,h2⟩,h3⟩:=Hl e
   exact⟨d,h1,h2,hk _ (hd _ _ _ _ h3)⟩
  ·refine AQ (fun e=>?_) e
   split at e
   ·obtain⟨h1,e⟩:=AD e
    exact⟨_,⟨rfl,by simpa using h1⟩,hk _ e⟩
   ·cases e
  ·cases e
 ·cases e
def Re (ti:Types) (src dst:TypeId) (x:AV) (k:Out→Option γ):Option γ:=
 CZ ti src fun a=>CZ ti dst fun b=>match a.desc with
 | .slice e=>CZ ti e fun j=>(match j.desc with
  | .int .u8=>(match b.desc with
   | .string=>dD x fun _ _ rows=>TZ rows fun bs=>k ⟨.v (.d (.str bs)),[],[]⟩
   | _=>none)
  | _=>none)
 | _=>none
theorem VF {M:AY}{ti:Types}{src dst:TypeId}{x:AV}{k:Out→Option γ}{P:Out→Prop}(hk:∀o,k o=some r→P o) (e:Re ti src dst x k=some r):HX M ti src dst x P:=by
 unfold Re at e
 unfold HX
 refine Af (fun a e=>Af (fun b e=>?_) e) e
 split at e
 ·rename_i h1
  simp only[h1]
  refine Af (fun j e=>?_) e
  split at e
  ·rename_i h2
   split at e
   ·rename_i h3
    simp only[h2,h3]
    refine LO (fun _ _ rows e=>?_) e
    obtain⟨ns,bs,h4,h5,e⟩:=Ho e
    exact⟨ns,(M.lock_iff _).2 h4,bs,h5,hk _ e⟩
   ·cases e
  ·cases e
 ·cases e
def Rf (ti:Types) (t:TypeId) (x:AV) (ok:Bool) (k:Out→Option γ):Option γ:=
 CZ ti t fun q=>match q.desc with
 | .map kt et=>CZ ti kt fun kk=>CZ ti et fun j=>Aj (plainKey kk.desc)<| Aj (FE j)<| (match x with
  | .v (.c .nilm)=>(match ok with
   | true=>k ⟨.t [V1.AZ (AU j.desc) j.zc,.d (.bool false)],[],[]⟩
   | false=>k ⟨.v (V1.AZ (AU j.desc) j.zc),[],[]⟩)
  | _=>none)
 | _=>none
theorem VG {ti:Types}{t:TypeId}{x key:AV}{ok:Bool}{k:Out→Option γ}{P:Out→Prop}(hk:∀o,k o=some r→P o) (e:Rf ti t x ok k=some r):GU ti t x key ok P:=by
 unfold Rf at e
 unfold GU
 refine Af (fun q e=>?_) e
 split at e
 ·rename_i hq
  simp only[hq]
  refine Af (fun kk e=>Af (fun j e=>AQ (AQ fun e=>?_) e) e) e
  split at e
  ·cases ok with
   | true=>exact hk _ e
   | false=>exact hk _ e
  ·cases e
 ·cases e
def DF:List Gh→St→(St→Option γ)→Option γ
 | [],σ,K=>K σ
 | x::l,σ,K=>match x with
  | .close i=>Du (AK σ.heap) [i] fun _ _ wr=>DF l ⟨σ.slots,Be σ.heap wr,σ.next⟩ K
  | .treeS t ag sz=>Aj (Nat.blt 0 sz)<| Aj (Ez ag sz (AH σ.slots t))<| DF l (KA t ag sz σ) K
  | .treeC i j ag sz=>Aj (Nat.blt 0 sz)<| (match AK σ.heap i with
   | some (.cells cs)=>Aj (FP ag sz (MQ cs j))<| DF l (KB i j ag sz σ) K
   | _=>none)
  | .freeze i=>(match AK σ.heap i with
   | some (.tree kd ag sz rows foc)=>(match foc with
    | none=>Aj (iL kd)<| DF l (Nw i (.list ag sz rows) σ) K
    | some _=>none)
   | _=>none)
  | .unC i j=>(match AK σ.heap i with
   | some (.cells cs)=>DF l ⟨σ.slots,CR σ.heap i (.cells (G3 cs j .un)),σ.next⟩ K
   | _=>none)
  | .drop i=>(match AK σ.heap i with
   | some _=>DF l ⟨σ.slots,CR σ.heap i .gone,σ.next⟩ K
   | none=>none)
  | .treeA t j ag sz=>Aj (Nat.blt 0 sz)<| (match AH σ.slots t with
   | .v (.agg cs)=>Aj (FP ag sz (MQ cs j))<| DF l (Mg t cs j ag sz σ) K
   | _=>none)
  | .flatten i=>(match AK σ.heap i with
   | some (.tree kd ag sz rows foc)=>(match kd with
    | .row=>(match foc with
     | none=>DF l ⟨σ.slots,CR σ.heap i (.tree .flat ag sz rows none),σ.next⟩ K
     | some _=>none)
    | _=>none)
   | _=>none)
  | .move i=>(match AK σ.heap i with
   | some (.tree kd ag sz rows foc)=>(match foc with
    | none=>DF l (Us i (.tree kd ag sz rows none) σ) K
    | some _=>none)
   | _=>none)
  | .freezeC i ag sz n=>(match AK σ.heap i with
   | some (.cells cs)=>(match Nx cs with
    | some ds=>Aj (Nat.beq (n*sz) ds.length)<| Aj (Nat.blt 0 sz)<| Aj (ag || Nat.beq sz 1)<| Aj (Nat.ble n maxLen)<| DF l (Nw i (.list ag sz (rowsOf ag sz n ds)) σ) K
    | none=>none)
   | _=>none)
  | _=>none
theorem Cd:∀{l:List Gh}{σ:St}{K:St→Option γ}{P:St→Prop},(∀σ,K σ=some r→P σ)→DF l σ K=some r→gh l σ P
 | [],_,_,_,hk,e=>hk _ e
 | x::l,σ,K,P,hk,e=>by
  unfold DF at e
  unfold gh
  split at e
  ·exact H5 (fun _ _ wr e=>Cd hk e) e
  ·exact AQ (AQ fun e=>Cd hk e) e
  ·refine AQ (fun e=>?_) e
   split at e
   ·rename_i hi;simp only[hi];exact AQ (fun e=>Cd hk e) e
   ·cases e
  ·split at e
   ·rename_i hi
    split at e
    ·simp only[hi];exact AQ (fun e=>Cd hk e) e
    ·cases e
   ·cases e
  ·split at e
   ·rename_i hi;simp only[hi];exact Cd hk e
   ·cases e
  ·split at e
   ·rename_i hi;simp only[hi];exact Cd hk e
   ·cases e
  ·refine AQ (fun e=>?_) e
   split at e
   ·rename_i hi;simp only[hi];exact AQ (fun e=>Cd hk e) e
   ·cases e
  ·split at e
   ·rename_i hi
    split at e
    ·split at e
     ·simp only[hi];exact Cd hk e
     ·cases e
    ·cases e
   ·cases e
  ·split at e
   ·rename_i hi
    split at e
    ·simp only[hi];exact Cd hk e
    ·cases e
   ·cases e
  ·split at e
   ·rename_i hi
    split at e
    ·rename_i hd
     simp only[hi,hd]
     exact AQ (AQ (AQ (AQ fun e=>⟨_,rfl,Cd hk e⟩))) e
    ·cases e
   ·cases e
  ·cases e
def P7:List FC→List Id
 | []=>[]
 | .p i::l=>i::P7 l
 | _::l=>P7 l
def ZW:CV→List Id
 | .fz _ cs=>P7 cs
 | c=>iX c
def Rg:List CV→List Id
 | []=>[]
 | c::cs=>ZW c++Rg cs
def fK:V1→List Id
 | .d _=>[]
 | .c x=>ZW x
 | .agg cs=>Rg cs
def Bt:List V1→List Id
 | []=>[]
 | x::xs=>fK x++Bt xs
def lP:AV→List Id
 | .u=>[]
 | .v x=>fK x
 | .t xs=>Bt xs
 | .df _ cs _=>P7 cs
def WD:List (Nat×AV)→List Id
 | []=>[]
 | x::l=>lP x.2++WD l
def lQ:Option AB→List Id
 | some (.rnd _ sl)=>WD sl
 | some (.cells cs)=>Rg cs
 | some (.tree _ _ _ _ foc)=>(match foc with
  | some x=>Rg x.2
  | none=>[])
 | some (.fnl _ cs _)=>P7 cs
 | _=>[]
def C7 (h:AE):Nat→List Id→List Id→List Id
 | 0,_,acc=>acc
 | _+1,[],acc=>acc
 | n+1,i::t,acc=>match Jk i acc with
  | true=>C7 h n t acc
  | false=>C7 h n (lQ (h i)++t) (acc++[i])
def WE:AB→AB→Bool
 | .cells _,.cells _=>true
 | .tree ..,.tree ..=>true
 | .arr ..,.arr ..=>true
 | .map ..,.map ..=>true
 | .pmap ..,.pmap ..=>true
 | .rnd ..,.rnd ..=>true
 | .rnd ..,.rndX _=>true
 | .rndX _,.rndX _=>true
 | _,.gone=>true
 | _,_=>false
def Rh:List AB→List AB→Bool
 | [],[]=>true
 | a::al,b::bs=>match WE a b with
  | true=>Rh al bs
  | false=>false
 | _,_=>false
theorem To {a b:AB}(h:WE a b=true):sameKind a b:=by
 unfold WE at h
 split at h
 ·trivial
 ·trivial
 ·trivial
 ·trivial
 ·trivial
 ·trivial
 ·trivial
 ·trivial
 ·cases a<;>trivial
 ·cases h
theorem P8:∀{a b:List AB},Rh a b=true→BI a b
 | [],[],_=>trivial
 | a::al,b::bs,h=>by
  unfold Rh at h
  split at h
  ·rename_i hk;exact⟨To hk,P8 h⟩
  ·cases h
 | [],_::_,h=>by cases h
 | _::_,[],h=>by cases h
abbrev ZX (γ:Type):=FuncId→List V1→List AB→(Nat→Jg→Option γ)→Option γ
def ZX.ok (P:Program) (I:Inv) (call:ZX γ):Prop:=∀f args pre k r,call f args pre k=some r→∃i res post new,Bf P I f args pre res post new∧k i ⟨res,post,new⟩=some r
def Mr (call:ZX γ) (f:FuncId) (xs:List V1) (m:List Id) (fresh:Nat) (h:AE) (pl:Pl) (k:Pl→AV→List (Id×AB)→Option γ):Option γ:=
 match C6 h m with
 | none=>none
 | some objs=>Aj (BP (kD (OO m fresh)) xs)<| Aj (BP (KC (OO m fresh)) objs)<| Aj (nodupB m)<|
   call f (xs.map (V1.Ar (Td m))) (objs.map (AB.Ar (Td m))) fun i ret=>
    Aj (Rh (objs.map (AB.Ar (Td m))) ret.post)<| Aj (Nat.ble ret.new.length 31)<|
     k (pl.nth i) (ret.res.Ar (Av m fresh)) (Iv m (Av m fresh) ret.post++B4 fresh (Av m fresh) 0 ret.new)
theorem OV {P:Program}{I:Inv}{call:ZX γ}(hc:call.ok P I) {f:FuncId}{xs:List V1}{m:List Id}{fresh:Nat}{h:AE}{pl:Pl}{k:Pl→AV→List (Id×AB)→Option γ}(e:Mr call f xs m fresh h pl k=some r):
  ∃(targs:List V1) (pre:List AB) (res:AV) (post new:List AB) (p:Pl),Bf P I f targs pre res post new∧xs=targs.map (V1.Ar (Av m fresh))∧m.length=pre.length∧m.Nodup∧
   (∀(j:Nat) i o,m[j]?=some i→pre[j]?=some o→h i=some (o.Ar (Av m fresh)))∧BI pre post∧new.length≤31∧k p (res.Ar (Av m fresh)) (Iv m (Av m fresh) post++B4 fresh (Av m fresh) 0 new)=some r:=by
 unfold Mr at e
 split at e
 ·cases e
 ·rename_i objs ho
  obtain⟨h1,e⟩:=AD e
  obtain⟨h2,e⟩:=AD e
  obtain⟨h3,e⟩:=AD e
  obtain⟨i,res,post,new,ht,e⟩:=hc _ _ _ _ _ e
  obtain⟨h4,e⟩:=AD e
  obtain⟨h5,e⟩:=AD e
  obtain⟨g1,g2⟩:=JT ho
  refine⟨_,_,res,post,new,_,ht,?_,by simpa using g1,Te h3,fun j i o hm hp=>?_,P8 h4,Nat.le_of_ble_eq_true h5,e⟩
  ·rw[List.map_map]
   rw[Az]at h1
   exact (B3 fun x hx=>Q7 (fun i hi=>KS hi) (h1 x hx)).symm
  ·rw[List.getElem?_map,Option.map_eq_some_iff]at hp
   obtain⟨o',ho',rfl⟩:=hp
   rw[Az]at h2
   rw[KE (p:=OO m fresh) (fun i hi=>KS hi) (h2 o' (List.mem_of_getElem? ho'))]
   exact g2 j i o' hm ho'
def OW:AV→Option (FuncId×List V1×List V1)
 | .v (.c (.fn n cap))=>some (n,[],cap.map fun i=>V1.c (.ptr i 0))
 | .v (.c (.bm n i))=>some (n,[V1.c (.ptr i 0)],[])
 | .v (.c (.fz n cs))=>some (n,[],cs.map O0)
 | _=>none
def fL (w:Bool) (l:List AV):Option (List V1):=match w with
 | true=>GN l
 | false=>GM l
def Ms (call:ZX γ) (ti:Types) (c:Call) (f:Operand) (w:Bool) (fresh:Nat) (s:AN) (h:AE) (pl:Pl) (k:Pl→Out→Option γ):Option γ:=
 match OW (AP ti s 0 f)with
 | some (n,xs1,bs)=>(match fL w (BM ti s c.args.toList c.argTypes.toList)with
  | some xs=>Mr call n (xs1++(xs++bs)) (C7 h 100 (Bt (xs1++(xs++bs))) []) fresh h pl fun p v wr=>
    Ib h (FY h (C7 h 100 (Bt (xs1++(xs++bs))) [])) (C7 h 100 (Bt (xs1++(xs++bs))) []) wr fun wr=>k p ⟨v,C7 h 100 (Bt (xs1++(xs++bs))) [],wr⟩
  | none=>none)
 | none=>none
theorem H9 {M:AY}{f:AV}{args:List AV}{fresh:Nat}{h:AE}{K:Out→Prop}{n:FuncId}{xs1 bs:List V1}{w:Bool}{xs:List V1}(h1:OW f=some (n,xs1,bs)) (h2:fL w args=some xs) (h3:IK M.P M.I n (xs1++(xs++bs)) fresh h K):GQ M f args fresh h K:=by
 have hb:∀K:List V1→Prop,K xs→GP args K:=fun K hk=>by
  cases w with
  | true=>exact⟨false,by show (match GN args with | some xs=>K xs | none=>False);rw[show GN args=some xs from h2];exact hk⟩
  | false=>exact⟨true,by show withArgs args K;unfold withArgs;rw[show GM args=some xs from h2];exact hk⟩
 unfold OW at h1
 unfold GQ
 split at h1
 ·cases h1;exact hb _ ((M.lock_iff _).2 h3)
 ·cases h1;rw[List.append_nil]at h3;exact hb _ ((M.lock_iff _).2 h3)
 ·cases h1;exact hb _ ((M.lock_iff _).2 h3)
 ·cases h1
theorem OX {M:AY}{call:ZX γ}(hc:call.ok M.P M.I) {ti:Types}{o:Oper}{c:Call}{f:Operand}(ho:o.op= .call c) (hf:c.callee= .value f) {w:Bool}{fresh:Nat}{s:AN}{h:AE}{pl:Pl}{k:Pl→Out→Option γ}{P:Out→Prop}(hk:∀p o,k p o=some r→P o)
  (e:Ms call ti c f w fresh s h pl k=some r):CI M ti o fresh s h P:=by
 unfold Ms at e
 split at e
 ·rename_i n xs1 bs h1
  split at e
  ·rename_i xs h2
   generalize C7 h 100 (Bt (xs1++(xs++bs))) []=m at e
   obtain⟨targs,pre,res,post,new,p,g1,g2,g3,g4,g5,g6,g7,e⟩:=OV hc e
   unfold CI
   rw[ho]
   simp only[]
   rw[hf]
   refine .inr (.inr ⟨FY h m,?_⟩)
   unfold Ab
   rw[ho]
   simp only[]
   rw[hf]
   exact H9 h1 h2 ⟨m,targs,pre,res,post,new,g1,g2,g3,g4,g5,g6,g7,HA (fun wr hw=>hk _ _ hw) e⟩
  ·cases e
 ·cases e
def Ri (call:ZX γ) (ti:Types) (o:Oper) (c:Call) (f:Operand) (gs:List Gh) (fresh:Nat) (σ:St) (pl:Pl) (K:Pl→St→Option γ):Option γ:=
 DF gs ⟨σ.slots,σ.heap,fresh⟩ fun σ'=>Aj (Nat.beq σ'.next fresh)<| (match AP ti (AH σ'.slots) 0 f with
  | .v (.c (.fn n cap))=>(match GM (BM ti (AH σ'.slots) c.args.toList c.argTypes.toList)with
   | some xs=>Mr call n (xs++cap.map fun i=>V1.c (.ptr i 0)) (C7 (AK σ'.heap) 100 (Bt (xs++cap.map fun i=>V1.c (.ptr i 0))) []) fresh (AK σ'.heap) pl fun p v wr=>K p ⟨BR σ'.slots o.dst v,Be σ'.heap wr,σ'.next⟩
   | none=>none)
  | _=>none)
theorem VH {M:AY}{call:ZX γ}(hc:call.ok M.P M.I) {ti:Types}{o:Oper}{c:Call}{f:Operand}(ho:o.op= .call c) (hf:c.callee= .value f) {gs:List Gh}{fresh:Nat}{σ:St}{pl:Pl}{K:Pl→St→Option γ}{P:St→Prop}(hk:∀p o,K p o=some r→P o)
  (e:Ri call ti o c f gs fresh σ pl K=some r):Pk M ti o fresh σ P:=by
 unfold Ri at e
 unfold Pk
 rw[ho]
 simp only[]
 rw[hf]
 simp only[]
 obtain⟨σ',hw,e⟩:=Bj (Cd (P:=fun σ'=>_=some r) (fun σ h=>h) e)
 obtain⟨h1,e⟩:=AD e
 refine⟨σ',hw,Nat.eq_of_beq_eq_true h1,?_⟩
 split at e
 ·rename_i n cap h2
  rw[h2]
  simp only[]
  unfold withArgs
  split at e
  ·rename_i xs h3
   rw[h3]
   obtain⟨targs,pre,res,post,new,p,g1,g2,g3,g4,g5,g6,g7,e⟩:=OV hc e
   refine⟨_,targs,pre,fun a b c=>a=res∧b=post∧c=new,g1,g2,g3,g4,g5,?_⟩
   rintro _ _ _ ⟨rfl,rfl,rfl⟩
   exact⟨⟨g6,g7⟩,hk _ _ e⟩
  ·cases e
 ·cases e
end
end Go.AM
namespace Go.AM
open Go Go.RowKit
section
variable {γ:Type}{r:γ}
def ZY (d:TypeDesc) (x y:D) (pl:Pl) (k:Pl→Bool→Option γ):Option γ:=
 match x,y with
 | .int q a,.int q' b=>(match d with
  | .int _=>Aj (decide (q=q')) (if a=b then k (pl.at true) true else k (pl.at false) false)
  | _=>none)
 | .str a,.str b=>(match d with
  | .string=>if a=b then k (pl.at true) true else k (pl.at false) false
  | _=>none)
 | .bool a,.bool b=>(match d with
  | .bool=>if a=true then (if b=true then k ((pl.at true).at true) true else k ((pl.at true).at false) false)else (if b=true then k ((pl.at false).at true) false else k ((pl.at false).at false) true)
  | _=>none)
 | _,_=>none
theorem ZZ {a b:Bool}{pl:Pl}{k:Pl→Bool→Option γ}{P:Bool→Prop}(hk:∀p b,k p b=some r→P b) (e:(if a=true then (if b=true then k ((pl.at true).at true) true else k ((pl.at true).at false) false)else (if b=true then k ((pl.at false).at true) false else k ((pl.at false).at false) true))=some r):P (a==b):=by
 cases a<;>cases b<;>exact hk _ _ e
theorem Za {M:AY}{d:TypeDesc}{x y:D}{pl:Pl}{k:Pl→Bool→Option γ}{P:Bool→Prop}(hk:∀p b,k p b=some r→P b) (e:ZY d x y pl k=some r):gN M d x y P:=by
 unfold ZY at e
 unfold gN
 split at e
 ·split at e
  ·refine AQ (fun e=>?_) e
   rw[M.split_iff,M.eqI_eq]
   split at e
   ·rename_i c;rw[beq_iff_eq.2 c];exact hk _ _ e
   ·rename_i c;rw[beq_eq_false_iff_ne.2 c];exact hk _ _ e
  ·cases e
 ·split at e
  ·simp only[M.split_iff,M.eqS_eq]
   split at e
   ·rename_i c;rw[Cj.2 c];exact hk _ _ e
   ·rename_i c;rw[Bool.eq_false_iff.2 fun e=>c (Cj.1 e)];exact hk _ _ e
  ·cases e
 ·split at e
  ·simp only[Ex]
   exact ZZ hk e
  ·cases e
 ·cases e
def Rj (ti:Types) (xs ys:List D):List Field→Pl→(Pl→Bool→Option γ)→Option γ
 | [],pl,k=>k pl true
 | f::fs,pl,k=>CZ ti f.type fun j=>match S0 xs f.offset with
  | some x=>(match S0 ys f.offset with
   | some y=>ZY j.desc x y pl fun p q=>(match q with
    | true=>Rj ti xs ys fs p k
    | false=>k p false)
   | none=>none)
  | none=>none
theorem P9 {M:AY}{ti:Types}{xs ys:List D}:∀{fs:List Field}{pl:Pl}{k:Pl→Bool→Option γ}{P:Bool→Prop},(∀p b,k p b=some r→P b)→Rj ti xs ys fs pl k=some r→Ue M ti xs ys fs P
 | [],_,_,_,hk,e=>hk _ _ e
 | f::fs,pl,k,P,hk,e=>by
  unfold Rj at e
  unfold Ue
  refine Af (fun j e=>?_) e
  split at e
  ·rename_i hx
   split at e
   ·rename_i hy
    simp only[hx,hy]
    refine Za (fun p q e=>?_) e
    cases q with
    | true=>exact P9 hk e
    | false=>exact hk _ _ e
   ·cases e
  ·cases e
def Zb (sok:TypeId→Bool) (ti:Types) (op:BinOp) (t:TypeId) (x y:AV) (pl:Pl) (k:Pl→Out→Option γ):Option γ:=
 match x,y with
 | .v (.d (.agg xs)),.v (.d (.agg ys))=>CZ ti t fun i=>(match i.desc with
  | .struct fs=>Aj (sok t)<| Rj ti xs ys fs.toList pl fun p q=>OQ op q fun d=>k p ⟨.v (.d d),[],[]⟩
  | _=>none)
 | _,_=>none
def nB (P:Program) (ti:Types) (sok:TypeId→Bool):Prop:=∀t i fs,sok t=true→ti t=some i→i.desc= .struct fs→NT P t fs.toList
theorem Zc {M:AY}{sok:TypeId→Bool}{ti:Types}(hs:nB M.P ti sok) {op:BinOp}{t:TypeId}{x y:AV}{pl:Pl}{k:Pl→Out→Option γ}{P:Out→Prop}(hk:∀p o,k p o=some r→P o) (e:Zb sok ti op t x y pl k=some r):NU M ti op t x y P:=by
 unfold Zb at e
 unfold NU
 split at e
 ·unfold CZ at e
  unfold Ac
  split at e
  ·rename_i i hi
   rw[hi]
   simp only[]at e ⊢
   split at e
   ·rename_i fs hq
    obtain⟨h1,e⟩:=AD e
    simp only[hq]
    exact⟨(M.lock_iff _).2 (hs t i fs h1 hi hq),P9 (fun p q e=>H0 (fun d e=>hk _ _ e) e) e⟩
   ·cases e
  ·cases e
 ·cases e
structure EnvO (γ:Type) where
 ds:Ds γ
 el:bK
 own:Bool
 sok:TypeId→Bool
 call:ZX γ
 /-- Are lists that begin frozen? -/
 frz:Bool:=false
 /-- Are literal lists frozen, though others are its own? -/
 nolit:Bool:=false
structure EnvO.ok (P:Program) (I:Inv) (ti:Types) (E:EnvO γ):Prop where
 ds:E.ds.ok
 sok:nB P ti E.sok
 call:E.call.ok P I
def jA (x:AV) (h:AE):Option Id:=
 match x with
 | .v (.c (.op i _ _ _))=>(match h i with
  | some (.tree _ _ _ _ foc)=>(match foc with
   | some _=>some i
   | none=>none)
  | _=>none)
 | _=>none
def dI (x:AV) (h:AE) (pl:Pl):List Id×Pl:=
 match jA x h with
 | some i=>(match pl.take.w with
  | true=>(Mq h 9 i,pl.take.r)
  | false=>([],pl.take.r))
 | none=>([],pl)
def Zd (h:AE):AV→List Id
 | .v (.c (.ow i))=>Mq h 9 i
 | .v (.c (.sl j _))=>(match h j with
  | some (.cells cs)=>WB (Mq h 9) cs
  | _=>[])
 | _=>[]
def fM:AV→Bool
 | .v (.c (.sl _ _))=>true
 | _=>false
def dJ:CV→Bool
 | .nils _ _=>true
 | _=>false
def dK (own:Bool) (ti:Types) (t:TypeId) (x y:AV) (h:AE):Option Bool:=
 match K5 x h with
 | true=>some false
 | false=>(match ti t with
  | some q=>(match q.desc with
   | .slice e=>(match ti e with
    | some j=>(match PB dJ j.zc with
     | true=>(match L7 x with
      | true=>(match L7 y || fM y with
       | true=>some true
       | false=>some false)
      | false=>(match He x with
       | true=>(match fM y with
        | true=>some true
        | false=>(match L7 y with
         | true=>some true
         | false=>(match own with
          | true=>some false
          | false=>none)))
       | false=>none))
     | false=>(match L7 x || L7 y with
      | true=>some true
      | false=>(match He x with
       | true=>(match own with
        | true=>some true
        | false=>none)
       | false=>none)))
    | none=>none)
   | _=>none)
  | none=>none)
def WG (ti:Types) (s:AN) (e:TypeId):List (Nat×Operand)→Bool
 | []=>true
 | (_,x)::l=>(match AP ti s e x with
  | .v y=>(match y.norm with
   | .d _=>WG ti s e l
   | _=>false)
  | _=>false)
def Ze (ti:Types) (s:AN) (e:TypeId):List (Nat×Operand)→Bool
 | []=>false
 | (_,x)::l=>(match eP (AP ti s e x)with
  | true=>true
  | false=>Ze ti s e l)
def fO (ti:Types) (t:TypeId):TypeId:=
 match ti t with
 | some q=>(match q.desc with
  | .slice e=>e
  | _=>0)
 | none=>0
def LZ (ti:Types) (t:TypeId) (x y:AV) (k:Out→Option γ):Option γ:=
 CZ ti t fun q=>match q.desc with
 | .slice e=>CZ ti e fun j=>Aj (Nat.blt 0 j.size)<| dD y fun ag sz ys=>Aj (AU j.desc==ag)<| Aj (Nat.beq sz j.size)<|
  (match x with
  | .v (.c (.nils _ _))=>Ed j.bytes [] ys fun out=>k ⟨.v (.d (.list (AU j.desc) j.size out)),[],[]⟩
  | .v (.c (.tl ag' sz' rows))=>Aj (AU j.desc==ag')<| Aj (Nat.beq sz' j.size)<| Ed j.bytes rows ys fun out=>k ⟨.v (.d (.list (AU j.desc) j.size out)),[],[]⟩
  | _=>none)
 | _=>none
theorem Rk {M:AY}{ti:Types}{t:TypeId}{x y:AV}{fresh:Nat}{h:AE}{k:Out→Option γ}{P:Out→Prop}(hk:∀o,k o=some r→P o) (e:LZ ti t x y k=some r):GR M ti t x y fresh h P:=by
 unfold LZ at e
 unfold GR
 refine Af (fun q e=>?_) e
 split at e
 ·rename_i hq
  simp only[hq]
  refine Af (fun j e=>AQ (fun e=>LO (fun ag sz ys e=>AQ (AQ fun e=>?_) e) e) e) e
  split at e
  ·obtain⟨out,h1,h2,e⟩:=DM e
   exact⟨(M.lock_iff _).2 h1,out,h2,false,hk _ e⟩
  ·refine AQ (AQ fun e=>?_) e
   obtain⟨out,h1,h2,e⟩:=DM e
   exact⟨(M.lock_iff _).2 h1,out,h2,false,hk _ e⟩
  ·cases e
 ·cases e
def VI (ti:Types) (t:TypeId) (x:AV) (h:AE) (k:Out→Option γ):Option γ:=
 CZ ti t fun q=>match q.desc with
 | .map _ _=>kG x h fun id _ _ rows=>Q9 rows fun z=>k ⟨.v (.d (.int .i64 z)),[id],[]⟩
 | _=>none
theorem Xb {M:AY}{ti:Types}{t:TypeId}{x:AV}{h:AE}{k:Out→Option γ}{P:Out→Prop}(hk:∀o,k o=some r→P o) (e:VI ti t x h k=some r):Js M ti t x h P:=by
 unfold VI at e
 unfold Js
 refine Af (fun q e=>?_) e
 split at e
 ·rename_i hq;simp only[hq];exact Ra (fun id _ _ rows e=>(FU M e).imp fun z h=>⟨h.1,hk _ h.2⟩) e
 ·cases e
def jB (ti:Types) (t:TypeId):Bool:=
 match ti t with
 | some q=>(match q.desc with
  | .map _ _=>true
  | _=>false)
 | none=>false
def Rl (ti:Types) (t:TypeId) (x:AV) (k:Out→Option γ):Option γ:=
 CZ ti t fun i=>Aj (Ji i.desc)<| (match x with
 | .v (.d d)=>(match valOf d with
  | some u=>k ⟨.v (.c (.kv (.iface t u))),[],[]⟩
  | none=>none)
 | _=>none)
theorem VJ {ti:Types}{t:TypeId}{x:AV}{k:Out→Option γ}{P:Out→Prop}(hk:∀o,k o=some r→P o) (e:Rl ti t x k=some r):HR ti t x P:=by
 unfold Rl at e
 unfold HR
 refine Af (fun q e=>AQ (fun e=>?_) e) e
 split at e
 ·split at e
  ·rename_i hu;simp only[hu];exact hk _ e
  ·cases e
 ·cases e
def OY (ti:Types) (a:TypeId) (ok:Bool) (x:AV) (k:Out→Option γ):Option γ:=
 CZ ti a fun j=>Aj (Ji j.desc)<| Aj ok<| Aj (FE j)<| match x with
 | .v (.c (.kv v))=>(match v with
  | .iface t u=>(match Nat.beq t a with
   | true=>(match mW u with
    | some d=>k ⟨.t [.d d,.d (.bool true)],[],[]⟩
    | none=>none)
   | false=>k ⟨.t [V1.AZ (AU j.desc) j.zc,.d (.bool false)],[],[]⟩)
  | .nilIface=>k ⟨.t [V1.AZ (AU j.desc) j.zc,.d (.bool false)],[],[]⟩
  | _=>none)
 | _=>none
theorem Tp {ti:Types}{a:TypeId}{ok:Bool}{x:AV}{k:Out→Option γ}{P:Out→Prop}(hk:∀o,k o=some r→P o) (e:OY ti a ok x k=some r):GV ti a ok x P:=by
 unfold OY at e
 unfold GV
 refine Af (fun q e=>AQ (fun e=>AQ (fun e=>AQ (fun e=>?_) e) e) e) e
 split at e
 ·split at e
  ·split at e
   ·rename_i hb
    simp only[hb]
    split at e
    ·rename_i hu;simp only[hu];exact hk _ e
    ·cases e
   ·rename_i hb
    simp only[hb]
    exact hk _ e
  ·exact hk _ e
  ·cases e
 ·cases e
def DN (E:EnvO γ) (ti:Types) (o:Oper) (fresh:Nat) (s:AN) (h:AE) (pl:Pl) (k:Pl→Out→Option γ):Option γ:=
 match o.op with
 | .load t x=>(match Jf (AP ti s 0 x)with
  | true=>(match K5 (AP ti s 0 x) h with
   | true=>Tm E.ds E.el ti t (AP ti s 0 x) h (k pl)
   | false=>Aj (BQ (L6 (AP ti s 0 x) h))<| KU h (dI (AP ti s 0 x) h pl).1 (fun h' k'=>RQ E.ds E.el ti t (AP ti s 0 x) fresh h' pl (fun _=>k')) (k (dI (AP ti s 0 x) h pl).2))
  | false=>Aj (BQ (L5 (AP ti s 0 x) h))<| LP ti t (AP ti s 0 x) h (k pl))
 | .store t x y=>(match Jf (AP ti s 0 x)with
  | true=>(match K5 (AP ti s 0 x) h with
   | true=>P5 E.ds E.el ti t (AP ti s 0 x) (AP ti s t y) h (k pl)
   | false=>KU h (dI (AP ti s 0 x) h pl).1 (fun h' k'=>OS E.ds E.el ti t (AP ti s 0 x) (AP ti s t y) fresh h' pl (fun _=>k')) (k (dI (AP ti s 0 x) h pl).2))
  | false=>Aj (BQ (L5 (AP ti s 0 x) h))<| Mj ti t (AP ti s 0 x) (AP ti s t y) h (k pl))
 | .fieldAddr t x f=>(match Jf (AP ti s 0 x)with
  | true=>(match K5 (AP ti s 0 x) h with
   | true=>LW ti t (AP ti s 0 x) f h (k pl)
   | false=>OT ti t (AP ti s 0 x) f h (k pl))
  | false=>KN ti t (AP ti s 0 x) f (k pl))
 | .indexAddr t x i=>(match Jf (AP ti s t x)with
  | true=>(match K5 (AP ti s t x) h with
   | true=>LX ti t (AP ti s t x) (AP ti s 3 i) h (k pl)
   | false=>Aj (BQ (L6 (AP ti s t x) h))<| OU ti t (AP ti s t x) (AP ti s 3 i) h (k pl))
  | false=>Mk E.ds ti t (AP ti s t x) (AP ti s 3 i) (k pl))
 | .nilCheck x=>Aj (BQ (Jf (AP ti s 0 x)))<| (match AP ti s 0 x with
  | .v (.c (.ptr i q))=>k pl ⟨.v (.c (.ptr i q)),[],[]⟩
  | _=>none)
 | .buildSlice t len parts=>Aj (BQ (Ya ti s parts.toList))<| (match WG ti s (fO ti t) parts.toList with
  | true=>(match (E.own&&BQ E.nolit)&&BQ (Ze ti s (fO ti t) parts.toList)with
   | true=>GC ti s t len parts.toList fresh h (k pl)
   | false=>E3 ti s t len parts.toList (k pl))
  | false=>GD ti s t len parts.toList fresh (k pl))
 | .slice t x lo hi mx=>Aj (BQ (Jf (AP ti s t x)))<| Rd ti s t (AP ti s t x) lo hi mx (k pl)
 | .makeSlice t x y=>VB E.own ti t (AP ti s 3 x) (AP ti s 3 y) fresh (k pl)
 | .lookup t x y ok=>(match Jf (AP ti s t x)with
  | true=>Aj (BQ (Wx (AP ti s t x) h))<| LY E.ds ti t (AP ti s t x) (AP ti s 0 y) ok h pl k
  | false=>Aj (BQ (kO (AP ti s t x)))<| Rf ti t (AP ti s t x) ok (k pl))
 | .mapUpdate t x y z=>Aj (BQ (Wx (AP ti s t x) h))<| Ic ti t (AP ti s t x) (AP ti s 0 y) (AP ti s 0 z) h (k pl)
 | .insert t x y z=>Ic ti t (AP ti s t x) (AP ti s 0 y) (AP ti s 0 z) h (k pl)
 | .makeMap t rm=>(match rm with
  | none=>(match YX ti t with
   | true=>CZ ti t fun q=>(match q.desc with
    | .map _ _=>k pl ⟨.v (.c (.ow (.loc fresh))),[],[(.loc fresh,.pmap 0 1 0 [] none)]⟩
    | _=>none)
   | false=>(match Pg ti t with
    | true=>CZ ti t fun q=>(match q.desc with
     | .map kt et=>k pl ⟨.v (.c (.map (.loc fresh))),[],[(.loc fresh,.map kt et [])]⟩
     | _=>none)
    | false=>P6 ti t fresh (k pl)))
  | some _=>none)
 | .binOp op t x y _=>(match Qi (AP ti s t x)with
  | true=>Zb E.sok ti op t (AP ti s t x) (AP ti s t y) pl k
  | false=>(match Jf (AP ti s t x)with
   | true=>Aj (BQ (Wx (AP ti s t x) h))<| VD ti op t (AP ti s t x) (AP ti s t y) h (k pl)
   | false=>RO ti op t (AP ti s t x) (AP ti s t y) pl k))
 | .convert a b x=>(match Uf (AP ti s a x)with
  | true=>Ia ti a b (AP ti s a x) (k pl)
  | false=>Re ti a b (AP ti s a x) (k pl))
 | .pick c a b=>V6 (AP ti s 0 c) fun q=>if q=true then k (pl.at true) ⟨AP ti s o.type a,[],[]⟩else k (pl.at false) ⟨AP ti s o.type b,[],[]⟩
 | .index t x i=>ZU E.ds ti t (AP ti s t x) (AP ti s 3 i) (k pl)
 | .move x=>k pl ⟨AP ti s o.type x,[],[]⟩
 | .assign x=>k pl ⟨AP ti s o.type x,[],[]⟩
 | .alloc t=>CZ ti t fun i=>k pl ⟨ptrTo fresh,[],[(.loc fresh,.cells i.zc)]⟩
 | .box t x=>(match AP ti s t x with
  | .v y=>k pl ⟨ptrTo fresh,[],[(.loc fresh,.cells y.cells)]⟩
  | _=>none)
 | .unOp op _ x=>dE op (AP ti s o.type x) (k pl)
 | .makeFunc fn first captured=>(match fn,first.toList with
  | .func f,[]=>(match BD (captured.toList.map (AP ti s 0))with
   | some l=>k pl ⟨.v (.c (.fn f l)),[],[]⟩
   | none=>none)
  | .func f,[x]=>(match captured.toList,AP ti s 0 x with
   | [],.v (.c (.ptr i 0))=>k pl ⟨.v (.c (.bm f i)),[],[]⟩
   | _,_=>none)
  | _,_=>none)
 | .build t parts=>Mm ti s t parts.toList (k pl)
 | .field t x f=>KO ti t (AP ti s t x) f (k pl)
 | .extract x i=>IZ (AP ti s 0 x) i (k pl)
 | .makeInterface t x=>Rl ti t (AP ti s t x) (k pl)
 | .typeAssert x _ a ok=>OY ti a ok (AP ti s 0 x) (k pl)
 | .call c=>(match c.callee with
  | .builtin .len=>(match c.args.toList,c.argTypes.toList with
   | [x],[t]=>(match Jf (AP ti s t x)with
    | true=>(match K5 (AP ti s t x) h with
     | true=>RZ ti t (AP ti s t x) h (k pl)
     | false=>Aj (BQ (L6 (AP ti s t x) h))<| (match jB ti t with
      | true=>VI ti t (AP ti s t x) h (k pl)
      | false=>U5 ti t (AP ti s t x) h (k pl)))
    | false=>V8 ti t (AP ti s t x) (k pl))
   | _,_=>none)
  | .builtin .append=>(match c.args.toList,c.argTypes.toList with
   | [x,y],[t,t']=>Aj (BQ (L6 (AP ti s t' y) h))<| Aj (Nat.beq t t')<| (match (match E.frz&&He (AP ti s t x)with
     | true=>none
     | false=>dK E.own ti t (AP ti s t x) (AP ti s t y) h)with
    | some true=>KU h (Zd h (AP ti s t x)++Zd h (AP ti s t y)) (fun h' k'=>LR ti t (AP ti s t x) (AP ti s t y) fresh h' k') (k pl)
    | some false=>LS ti t (AP ti s t x) (AP ti s t y) fresh h (k pl)
    | none=>Aj (BQ (Yd (AP ti s t' y)))<| LZ ti t (AP ti s t x) (AP ti s t y) (k pl))
   | _,_=>none)
  | .builtin .min=>(match c.args.toList,c.argTypes.toList with
   | [x,y],[t,t']=>XQ true (AP ti s t x) (AP ti s t' y) (k pl)
   | _,_=>none)
  | .builtin .max=>(match c.args.toList,c.argTypes.toList with
   | [x,y],[t,t']=>XQ false (AP ti s t x) (AP ti s t' y) (k pl)
   | _,_=>none)
  | _=>none)
 | _=>none
theorem FZ {M:AY}{E:EnvO γ}{ti:Types}(hE:E.ok M.P M.I ti) {o:Oper}{fresh:Nat}{s:AN}{h:AE}{pl:Pl}{k:Pl→Out→Option γ}{P:Out→Prop}(hk:∀p o,k p o=some r→P o) (e:DN E ti o fresh s h pl k=some r):CI M ti o fresh s h P:=by
 have dsok:=hE.ds
 unfold DN at e
 unfold CI
 split at e<;>rename_i ho<;>first | (cases e;done) | simp only[ho]
 ·split at e
  ·rename_i h1
   split at e
   ·rename_i h2;simp only[h1,h2];exact Tn dsok (hk _) e
   ·rename_i h2
    obtain⟨h3,e⟩:=AD e
    simp only[h1,h2,B1 h3]
    exact H6 (F:=fun h'=>loadT ti _ _ fresh h') (hk _) (fun h' k' P' hk' e=>U4 dsok (fun _=>hk') e) e
  ·rename_i h1
   obtain⟨h3,e⟩:=AD e
   simp only[h1,B1 h3]
   show Ab M ti o fresh s h _
   unfold Ab
   simp only[ho]
   exact LQ (hk _) e
 ·split at e
  ·rename_i h1
   split at e
   ·rename_i h2;simp only[h1,h2];exact RV dsok (hk _) e
   ·rename_i h2
    simp only[h1,h2]
    exact H6 (F:=fun h'=>storeT ti _ _ _ fresh h') (hk _) (fun h' k' P' hk' e=>Ti dsok (fun _=>hk') e) e
  ·rename_i h1
   obtain⟨h3,e⟩:=AD e
   simp only[h1,B1 h3]
   show Ab M ti o fresh s h _
   unfold Ab
   simp only[ho]
   exact OH (hk _) e
 ·split at e
  ·rename_i h1
   split at e
   ·rename_i h2;simp only[h1,h2];exact RX (hk _) e
   ·rename_i h2;simp only[h1,h2];exact Tj (hk _) e
  ·rename_i h1
   simp only[h1]
   show Ab M ti o fresh s h _
   unfold Ab
   simp only[ho]
   exact OI (hk _) e
 ·split at e
  ·rename_i h1
   split at e
   ·rename_i h2;simp only[h1,h2];exact RY (hk _) e
   ·rename_i h2
    obtain⟨h3,e⟩:=AD e
    simp only[h1,h2,B1 h3]
    exact Tl (hk _) e
  ·rename_i h1
   simp only[h1]
   show Ab M ti o fresh s h _
   unfold Ab
   simp only[ho]
   exact OJ dsok (hk _) e
 ·obtain⟨h3,e⟩:=AD e
  simp only[B1 h3]
  show Ab M ti o fresh s h _
  unfold Ab
  simp only[ho]
  split at e
  ·rename_i h1;simp only[h1];exact hk _ _ e
  ·cases e
 ·obtain⟨h3,e⟩:=AD e
  simp only[B1 h3]
  split at e
  ·split at e
   ·refine⟨true,[],?_⟩
    show Fs _ _ _ _ _ _ _ _
    exact LU (fun o e=>by simpa using hk _ _ e) e
   ·refine⟨false,?_⟩
    show Ab M ti o fresh s h _
    unfold Ab
    simp only[ho]
    exact⟨true,HK (hk _) e⟩
  ·refine⟨false,?_⟩
   show Ab M ti o fresh s h _
   unfold Ab
   simp only[ho]
   exact⟨false,LV (hk _) e⟩
 ·obtain⟨h3,e⟩:=AD e
  simp only[B1 h3]
  show Ab M ti o fresh s h _
  unfold Ab
  simp only[ho]
  exact VE (hk _) e
 ·exact XZ (hk _) e
 ·split at e
  ·rename_i h1
   obtain⟨h3,e⟩:=AD e
   simp only[h1,B1 h3]
   exact Rb dsok hk e
  ·rename_i h1
   obtain⟨h3,e⟩:=AD e
   simp only[h1,B1 h3]
   show Ab M ti o fresh s h _
   unfold Ab
   simp only[ho]
   exact VG (hk _) e
 ·obtain⟨h3,e⟩:=AD e
  simp only[B1 h3]
  exact KV (hk _) e
 ·exact KV (hk _) e
 ·split at e
  ·split at e
   ·rename_i h3
    simp only[h3]
    unfold Fv
    refine Af (fun q e=>?_) e
    split at e
    ·rename_i hq;simp only[hq];exact⟨0,1,0,hk _ _ e⟩
    ·cases e
   ·rename_i h3
    split at e
    ·rename_i h4
     simp only[h3,h4]
     unfold Fu
     refine Af (fun q e=>?_) e
     split at e
     ·rename_i hq;simp only[hq];exact hk _ _ e
     ·cases e
    ·rename_i h4
     simp only[h3,h4]
     exact Rc (hk _) e
  ·cases e
 ·split at e
  ·rename_i h1;simp only[h1];exact Zc hE.sok hk e
  ·rename_i h1
   split at e
   ·rename_i h2
    obtain⟨h3,e⟩:=AD e
    simp only[h1,h2,B1 h3]
    exact Xa (hk _) e
   ·rename_i h2
    simp only[h1,h2]
    show Ab M ti o fresh s h _
    unfold Ab
    simp only[ho]
    exact XU hk e
 ·split at e
  ·rename_i h1
   simp only[h1]
   show Ab M ti o fresh s h _
   unfold Ab
   simp only[ho]
   exact KR (hk _) e
  ·rename_i h1;simp only[h1];exact VF (hk _) e
 ·show Ab M ti o fresh s h _
  unfold Ab
  simp only[ho]
  refine U0 (fun q e=>?_) e
  cases q with
  | true=>rw[if_pos rfl]at e;exact hk _ _ e
  | false=>rw[if_neg Bool.false_ne_true]at e;exact hk _ _ e
 ·show Ab M ti o fresh s h _
  unfold Ab
  simp only[ho]
  exact ZV dsok (hk _) e
 ·show Ab M ti o fresh s h _
  unfold Ab
  simp only[ho]
  exact hk _ _ e
 ·show Ab M ti o fresh s h _
  unfold Ab
  simp only[ho]
  exact hk _ _ e
 ·show Ab M ti o fresh s h _
  unfold Ab
  simp only[ho]
  exact Af (fun _ e=>hk _ _ e) e
 ·show Ab M ti o fresh s h _
  unfold Ab
  simp only[ho]
  split at e
  ·rename_i hy;simp only[hy,DI];exact hk _ _ e
  ·cases e
 ·show Ab M ti o fresh s h _
  unfold Ab
  simp only[ho]
  exact V7 (hk _) e
 ·show Ab M ti o fresh s h _
  unfold Ab
  simp only[ho]
  split at e
  ·rename_i hf
   simp only[hf]
   split at e
   ·rename_i h3;simp only[h3];exact hk _ _ e
   ·cases e
  ·rename_i hf
   simp only[hf]
   split at e
   ·rename_i h3 h4;simp only[h3,h4];exact hk _ _ e
   ·cases e
  ·cases e
 ·show Ab M ti o fresh s h _
  unfold Ab
  simp only[ho]
  exact OM (hk _) e
 ·show Ab M ti o fresh s h _
  unfold Ab
  simp only[ho]
  exact MF (hk _) e
 ·show Ab M ti o fresh s h _
  unfold Ab
  simp only[ho]
  exact KQ (hk _) e
 ·show Ab M ti o fresh s h _
  unfold Ab
  simp only[ho]
  exact VJ (hk _) e
 ·show Ab M ti o fresh s h _
  unfold Ab
  simp only[ho]
  exact Tp (hk _) e
 ·split at e
  ·rename_i hcal
   simp only[hcal]
   split at e
   ·rename_i h1 h2
    simp only[h1,h2]
    split at e
    ·rename_i h3
     split at e
     ·rename_i h4;simp only[h3,h4];exact VC (hk _) e
     ·rename_i h4
      obtain⟨h5,e⟩:=AD e
      simp only[h3,h4,B1 h5]
      split at e
      ·exact⟨true,Xb (hk _) e⟩
      ·exact⟨false,XV (hk _) e⟩
    ·rename_i h3
     simp only[h3]
     show Ab M ti o fresh s h _
     unfold Ab
     simp only[ho,hcal,h1,h2]
     exact Tc (hk _) e
   ·cases e
  ·rename_i hcal
   simp only[hcal]
   split at e
   ·rename_i h1 h2
    simp only[h1,h2]
    obtain⟨h3,e⟩:=AD e
    obtain⟨h4,e⟩:=AD e
    simp only[B1 h3]
    split at e
    ·refine⟨true,AA.2 ⟨h4,?_⟩⟩
     exact⟨true,H6 (F:=fun h'=>Jp M ti _ _ _ fresh h') (hk _) (fun h' k' P' hk' e=>RR hk' e) e⟩
    ·refine⟨true,AA.2 ⟨h4,?_⟩⟩
     exact⟨false,RT (hk _) e⟩
    ·obtain⟨h5,e⟩:=AD e
     refine⟨false,?_⟩
     simp only[B1 h5]
     show Ab M ti o fresh s h _
     unfold Ab
     simp only[ho,hcal,h1,h2]
     exact AA.2 ⟨h4,Rk (hk _) e⟩
   ·cases e
  ·rename_i hcal
   simp only[hcal]
   split at e
   ·rename_i h1 h2;simp only[h1,h2];exact Mn (hk _) e
   ·cases e
  ·rename_i hcal
   simp only[hcal]
   split at e
   ·rename_i h1 h2;simp only[h1,h2];exact Mn (hk _) e
   ·cases e
  ·cases e
end
end Go.AM
namespace Go.AM
open Go Go.RowKit
section
variable {γ:Type}{r:γ}
def Tq (ds:Ds γ) (call:Cl γ) (ti:Types) (nt:Nat) (ops:Array Oper) (base:Nat):List Oper→Nat→St→(St→Option γ)→Option γ
 | [],i,σ,K=>K ⟨σ.slots,σ.heap,base+32*i⟩
 | o::l,i,σ,K=>Mp ops o σ (fun σ=>RM ds call ti nt o (base+32*i) σ fun σ2=>Tq ds call ti nt ops base l (i+1) σ2 K)
   (fun σ=>Aj (GB nt o.dst) (Tq ds call ti nt ops base l (i+1) ⟨BR σ.slots o.dst (.t []),σ.heap,σ.next⟩ K))
theorem OZ {M:AY}{ds:Ds γ}(hd:ds.ok) {call:Cl γ}(hc:call.ok M.P M.I) {ti:Types}{nt:Nat}{ops:Array Oper}{base:Nat}{K:St→Option γ}{P:St→Prop}(hK:∀σ,K σ=some r→P σ):
  ∀(l:List Oper) (i:Nat) (σ:St),Tq ds call ti nt ops base l i σ K=some r→BT M ti nt ops base l i σ P
 | [],_,_,e=>hK _ e
 | o::l,i,σ,e=>by
  unfold Tq at e
  unfold BT
  exact OP (P1:=fun σ1=>match FM o with
    | some x=>JL M ti x (base+32*i) σ1 fun σ2=>BT M ti nt ops base l (i+1) σ2 P
    | none=>FL M ti nt o (base+32*i) σ1 fun σ2=>BT M ti nt ops base l (i+1) σ2 P) (P0:=fun σ1=>D0 nt o.dst (BT M ti nt ops base l (i+1) ⟨BR σ1.slots o.dst (.t []),σ1.heap,σ1.next⟩ P))
   (fun e=>by
    have h0:=e
    unfold RM at h0
    simp only[MG (AD h0).1]
    exact XR hd hc (fun σ2 e=>OZ hd hc hK l (i+1) σ2 e) e) (fun e=>by
    obtain⟨h1,e⟩:=AD e
    exact Cw h1 (OZ hd hc hK l (i+1) _ e)) e
def Oa (ds:Ds γ) (call:Cl γ) (ti:Types) (nt:Nat) (ops:Array Oper) (base:Nat):List Oper→Nat→St→List Fp→(St→List Fp→Option γ)→Option γ
 | [],i,σ,fps,K=>K ⟨σ.slots,σ.heap,base+32*i⟩ fps
 | o::l,i,σ,fps,K=>Mp ops o σ (fun σ=>Aj (Ct o)<| Aj (GB nt o.dst)<| dG ds call ti o (base+32*i) (AH σ.slots) (AK σ.heap) fun out=>
    Oa ds call ti nt ops base l (i+1) ⟨BR σ.slots o.dst out.val,Be σ.heap out.wr,σ.next⟩ (fps++[(out.rd,out.wr.map (·.1))]) K)
   (fun σ=>Aj (GB nt o.dst) (Oa ds call ti nt ops base l (i+1) ⟨BR σ.slots o.dst (.t []),σ.heap,σ.next⟩ (fps++[([],[])]) K))
theorem La {M:AY}{ds:Ds γ}(hd:ds.ok) {call:Cl γ}(hc:call.ok M.P M.I) {ti:Types}{nt:Nat}{ops:Array Oper}{base:Nat}{K:St→List Fp→Option γ}{P:St→List Fp→Prop}(hK:∀σ fps,K σ fps=some r→P σ fps):
  ∀(l:List Oper) (i:Nat) (σ:St) (fps:List Fp),Oa ds call ti nt ops base l i σ fps K=some r→BJ M ti nt ops base l i σ fps P
 | [],_,_,_,e=>hK _ _ e
 | o::l,i,σ,fps,e=>by
  unfold Oa at e
  unfold BJ
  refine OP (P1:=fun σ1=>EN o<| D0 nt o.dst<| CI M ti o (base+32*i) (AH σ1.slots) (AK σ1.heap) fun out=>BJ M ti nt ops base l (i+1) ⟨BR σ1.slots o.dst out.val,Be σ1.heap out.wr,σ1.next⟩ (fps++[(out.rd,out.wr.map (·.1))]) P)
   (P0:=fun σ1=>D0 nt o.dst (BJ M ti nt ops base l (i+1) ⟨BR σ1.slots o.dst (.t []),σ1.heap,σ1.next⟩ (fps++[([],[])]) P)) (fun e=>?_) (fun e=>?_) e
  ·obtain⟨h1,e⟩:=AD e
   obtain⟨h2,e⟩:=AD e
   exact EI h1 (Cw h2 (WA hd hc (fun out e=>La hd hc hK l (i+1) _ _ e) e))
  ·obtain⟨h1,e⟩:=AD e
   exact Cw h1 (La hd hc hK l (i+1) _ _ e)
abbrev Kt (γ:Type):=B5→St→Option γ
abbrev Rs (γ:Type):=Nat→St→Option (Option γ)
def Rm (res:Rs γ) (q:Nat) (eb:St→Kt γ→Option γ) (K:Kt γ):Kt γ
 | .normal,σ=>(match res q σ with
  | some x=>x
  | none=>eb σ K)
 | .exit id,σ=>K (.exit id) σ
 | .ret,σ=>K .ret σ
def Rn (id:Nat) (K:Kt γ):Kt γ
 | .normal,σ=>K .normal σ
 | .exit id',σ=>(match Nat.beq id' id with
  | true=>K .normal σ
  | false=>K (.exit id') σ)
 | .ret,σ=>K .ret σ
def Ob (res:Rs γ) (p:Nat) (σ:St):Option γ:=
 match res p σ with
 | some x=>x
 | none=>none
def Mt (res:Rs γ) (p:Nat) (K:Kt γ):Kt γ
 | .normal,σ=>Ob res p σ
 | .exit id,σ=>K (.exit id) σ
 | .ret,σ=>K .ret σ
structure Env (γ:Type) where
 ds:Ds γ
 call:Cl γ
 res:Rs γ
def told (σ:St) (c:Operand) (q:Bool):St:=
 match c with
 | .tmp t=>⟨MS σ.slots t (.v (.d (.bool q))),σ.heap,σ.next⟩
 | _=>σ
theorem Mu {σ:St}{ti:Types}{c:Operand}{q:Bool}(h:AP ti (AH σ.slots) 0 c= .v (.d (.bool q))):told σ c q=σ:=by
 unfold told
 split
 ·rw[Mo h]
 ·rfl
def Ce (E:Env γ) (ti:Types) (nt:Nat):Code→Nat→St→Kt γ→Option γ
 | .skip,_,σ,K=>K .normal σ
 | .region _ ops draw,_,σ,K=>(match draw with
  | false=>Tq E.ds E.call ti nt ops σ.next ops.toList 0 σ fun σ'=>K .normal σ'
  | true=>Oa E.ds E.call ti nt ops σ.next ops.toList 0 σ [] fun σ' fps=>Aj (TK ops fps) (K .normal σ'))
 | .seq a b,p,σ,K=>Ce E ti nt a (2*p) σ (Rm E.res (2*p+1) (fun σ K=>Ce E ti nt b (2*p+1) σ K) K)
 | .cond c a b,p,σ,K=>V6 (AP ti (AH σ.slots) 0 c) fun q=>if q=true then Ce E ti nt a (2*p) (told σ c true) K else Ce E ti nt b (2*p+1) (told σ c false) K
 | .block id c,p,σ,K=>Ce E ti nt c (2*p) σ (Rn id K)
 | .loop _,p,σ,_=>Ob E.res p σ
 | .exit id,_,σ,K=>K (.exit id) σ
 | .ret,_,σ,K=>K .ret σ
 | _,_,_,_=>none
def jC (E:Env γ) (ti:Types) (nt:Nat) (c:Code) (p:Nat) (σ:St) (K:Kt γ):Option γ:=
 match c with
 | .loop b=>Ce E ti nt b (2*p) σ (Mt E.res p K)
 | c=>Ce E ti nt c p σ K
def jD (E:Env γ) (ti:Types) (nt:Nat):Code→Nat→Kt γ→Bool→Option (Code×Nat×Kt γ)
 | .seq a b,p,K,d=>(match d with
  | false=>some (a,2*p,Rm E.res (2*p+1) (fun σ K=>Ce E ti nt b (2*p+1) σ K) K)
  | true=>some (b,2*p+1,K))
 | .cond _ a b,p,K,d=>(match d with
  | false=>some (a,2*p,K)
  | true=>some (b,2*p+1,K))
 | .block id c,p,K,d=>(match d with
  | false=>some (c,2*p,Rn id K)
  | true=>none)
 | .loop c,p,K,d=>(match d with
  | false=>some (c,2*p,Mt E.res p K)
  | true=>none)
 | _,_,_,_=>none
def ER (E:Env γ) (ti:Types) (nt:Nat) (body:Code) (K:Kt γ):List Bool→Option (Code×Nat×Kt γ)
 | []=>some (body,1,K)
 | b::t=>(match ER E ti nt body K t with
  | some x=>jD E ti nt x.1 x.2.1 x.2.2 b
  | none=>none)
def A6:List Bool→Nat
 | []=>1
 | b::t=>(match b with
  | true=>2*A6 t+1
  | false=>2*A6 t)
theorem Lb:∀t:List Bool,1≤A6 t
 | []=>Nat.le_refl _
 | b::t=>by have:=Lb t;cases b<;>simp only[A6]<;>omega
theorem Dg:∀{s t:List Bool},A6 s=A6 t→s=t
 | [],[],_=>rfl
 | [],b::t,h=>by have:=Lb t;cases b<;>simp only[A6]at h<;>omega
 | b::s,[],h=>by have:=Lb s;cases b<;>simp only[A6]at h<;>omega
 | a::s,b::t,h=>by
  cases a<;>cases b<;>simp only[A6]at h
  ·rw[Dg (s:=s) (t:=t) (by omega)]
  ·omega
  ·omega
  ·rw[Dg (s:=s) (t:=t) (by omega)]
def JU (E:Env γ) (ti:Types) (nt:Nat) (body:Code) (K:Kt γ) (way:List Bool) (σ:St):Option γ:=
 match ER E ti nt body K way with
 | some x=>jC E ti nt x.1 x.2.1 σ x.2.2
 | none=>none
def KW:Nat→Nat→List Bool
 | 0,_=>[]
 | f+1,p=>match Nat.ble p 1 with
  | true=>[]
  | false=>Nat.beq (p % 2) 1::KW f (p / 2)
variable {M:AY}{ti:Types}{nt:Nat}{E:Nat→Env γ}{body:Code}{Kf:Kt γ}
def lR (E:Nat→Env γ) (ti:Types) (nt:Nat) (body:Code) (Kf:Kt γ) (r:γ) (n:Nat):Prop:=
 ∀p σ,Ob (E n).res p σ=some r→∃m σ' way,m<n∧A8 σ σ'∧A6 way=p∧JU (E m) ti nt body Kf way σ'=some r
theorem F2 {N:Nat}(hd:∀m,m≤N→(E m).ds.ok) (hc:∀m,m≤N→(E m).call.ok M.P M.I) (hr:∀m,m≤N→lR E ti nt body Kf r m):
  ∀(c:Code) (way:List Bool) (n:Nat) (Ko:Nat→Kt γ) (KP:B5→St→Prop),n≤N→(∀m,m≤n→ER (E m) ti nt body Kf way=some (c,A6 way,Ko m))→(∀m e σ,m≤n→Ko m e σ=some r→KP e σ)→
   (∀σ,Ce (E n) ti nt c (A6 way) σ (Ko n)=some r→exec M ti nt (A4 ti M nt) c σ KP)∧(∀σ,jC (E n) ti nt c (A6 way) σ (Ko n)=some r→exec M ti nt (A4 ti M nt) c σ KP)
 | .skip,way,n,Ko,KP,hn,h1,h2=>⟨fun σ e=>h2 n _ _ (Nat.le_refl _) e,fun σ e=>h2 n _ _ (Nat.le_refl _) e⟩
 | .exit id,way,n,Ko,KP,hn,h1,h2=>⟨fun σ e=>h2 n _ _ (Nat.le_refl _) e,fun σ e=>h2 n _ _ (Nat.le_refl _) e⟩
 | .ret,way,n,Ko,KP,hn,h1,h2=>⟨fun σ e=>h2 n _ _ (Nat.le_refl _) e,fun σ e=>h2 n _ _ (Nat.le_refl _) e⟩
 | .region id ops draw,way,n,Ko,KP,hn,h1,h2=>by
  have main:∀σ,Ce (E n) ti nt (.region id ops draw) (A6 way) σ (Ko n)=some r→exec M ti nt (A4 ti M nt) (.region id ops draw) σ KP:=by
   intro σ e
   cases draw with
   | false=>exact OZ (hd n hn) (hc n hn) (fun σ' e=>h2 n _ _ (Nat.le_refl _) e) _ _ _ e
   | true=>
    refine La (hd n hn) (hc n hn) (fun σ' fps e=>?_) _ _ _ _ e
    obtain⟨g1,e⟩:=AD e
    exact⟨(M.lock_iff _).2 g1,h2 n _ _ (Nat.le_refl _) e⟩
  exact⟨main,main⟩
 | .cond c a b,way,n,Ko,KP,hn,h1,h2=>by
  have main:∀σ,Ce (E n) ti nt (.cond c a b) (A6 way) σ (Ko n)=some r→exec M ti nt (A4 ti M nt) (.cond c a b) σ KP:=by
   intro σ e
   have e':V6 (AP ti (AH σ.slots) 0 c) (fun q=>if q=true then Ce (E n) ti nt a (2*A6 way) (told σ c true) (Ko n)else Ce (E n) ti nt b (2*A6 way+1) (told σ c false) (Ko n))=some r:=e
   show Lw (AP ti (AH σ.slots) 0 c) _
   generalize ho:AP ti (AH σ.slots) 0 c=x at e'
   unfold V6 at e'
   split at e'
   rotate_left
   ·cases e'
   rename_i q
   have e:(if q=true then Ce (E n) ti nt a (2*A6 way) (told σ c true) (Ko n)else Ce (E n) ti nt b (2*A6 way+1) (told σ c false) (Ko n))=some r:=e'
   cases q with
   | true=>
    rw[if_pos rfl,Mu ho]at e
    exact (F2 hd hc hr a (false::way) n Ko KP hn (fun m hm=>by show (match ER (E m) ti nt body Kf way with | some x=>_ | none=>_)=_;rw[h1 m hm];rfl) h2).1 σ e
   | false=>
    rw[if_neg Bool.false_ne_true,Mu ho]at e
    exact (F2 hd hc hr b (true::way) n Ko KP hn (fun m hm=>by show (match ER (E m) ti nt body Kf way with | some x=>_ | none=>_)=_;rw[h1 m hm];rfl) h2).1 σ e
  exact⟨main,main⟩
 | .block id c,way,n,Ko,KP,hn,h1,h2=>by
  have main:∀σ,Ce (E n) ti nt (.block id c) (A6 way) σ (Ko n)=some r→exec M ti nt (A4 ti M nt) (.block id c) σ KP:=by
   intro σ e
   refine (F2 hd hc hr c (false::way) n (fun m=>Rn id (Ko m)) _ hn (fun m hm=>by show (match ER (E m) ti nt body Kf way with | some x=>_ | none=>_)=_;rw[h1 m hm];rfl) (fun m e σ hm he=>?_)).1 σ e
   cases e with
   | normal=>exact h2 m _ _ hm he
   | ret=>exact h2 m _ _ hm he
   | exit id'=>
    simp only[Rn]at he
    simp only[]
    split at he
    ·rename_i hb;simp only[hb];exact h2 m _ _ hm he
    ·rename_i hb;simp only[hb];exact h2 m _ _ hm he
  exact⟨main,main⟩
 | .loop c,way,n,Ko,KP,hn,h1,h2=>by
  have at':∀k,k≤n→∀σ σ1,A8 σ σ1→jC (E k) ti nt (.loop c) (A6 way) σ1 (Ko k)=some r→exec M ti nt (A4 ti M nt) (.loop c) σ KP:=by
   intro k hk σ σ1 hw e
   refine (M.lock_iff _).2 (.inl ⟨fun j σ=>j≤n∧Ce (E j) ti nt c (2*A6 way) σ (Mt (E j).res (A6 way) (Ko j))=some r,k,⟨σ1,hw,hk,e⟩,?_⟩)
   rintro j σ2 ⟨hj,e2⟩
   refine (F2 hd hc hr c (false::way) j (fun m=>Mt (E m).res (A6 way) (Ko m)) _ (Nat.le_trans hj hn) (fun m hm=>by show (match ER (E m) ti nt body Kf way with | some x=>_ | none=>_)=_;rw[h1 m (Nat.le_trans hm hj)];rfl) (fun m e σ hm he=>?_)).1 σ2 e2
   cases e with
   | exit id=>exact h2 m _ _ (Nat.le_trans hm hj) he
   | ret=>exact h2 m _ _ (Nat.le_trans hm hj) he
   | normal=>
    obtain⟨m',σ',way',g1,g2,g3,g4⟩:=hr m (Nat.le_trans (Nat.le_trans hm hj) hn) (A6 way) σ he
    obtain rfl:=Dg g3
    unfold JU at g4
    rw[h1 m' (Nat.le_trans (Nat.le_of_lt g1) (Nat.le_trans hm hj))]at g4
    exact⟨m',σ',Nat.lt_of_lt_of_le g1 hm,g2,Nat.le_trans (Nat.le_of_lt g1) (Nat.le_trans hm hj),g4⟩
  refine⟨fun σ e=>?_,fun σ e=>at' n (Nat.le_refl _) σ σ (fun _ _ _ h=>h) e⟩
  obtain⟨m',σ',way',g1,g2,g3,g4⟩:=hr n hn (A6 way) σ e
  obtain rfl:=Dg g3
  unfold JU at g4
  rw[h1 m' (Nat.le_of_lt g1)]at g4
  exact at' m' (Nat.le_of_lt g1) σ σ' g2 g4
 | .seq a b,way,n,Ko,KP,hn,h1,h2=>by
  have hb:∀m,m≤n→ER (E m) ti nt body Kf (true::way)=some (b,2*A6 way+1,Ko m):=fun m hm=>by show (match ER (E m) ti nt body Kf way with | some x=>_ | none=>_)=_;rw[h1 m hm];rfl
  have main:∀σ,Ce (E n) ti nt (.seq a b) (A6 way) σ (Ko n)=some r→exec M ti nt (A4 ti M nt) (.seq a b) σ KP:=by
   intro σ e
   refine (M.lock_iff _).2 (.inr ⟨fun σ''=>exec M ti nt (A4 ti M nt) b σ'' KP,?_,fun _ h=>h⟩)
   refine (F2 hd hc hr a (false::way) n (fun m=>Rm (E m).res (2*A6 way+1) (fun σ K=>Ce (E m) ti nt b (2*A6 way+1) σ K) (Ko m)) _ hn (fun m hm=>by show (match ER (E m) ti nt body Kf way with | some x=>_ | none=>_)=_;rw[h1 m hm];rfl) (fun m e σ hm he=>?_)).1 σ e
   cases e with
   | exit id=>exact h2 m _ _ hm he
   | ret=>exact h2 m _ _ hm he
   | normal=>
    simp only[Rm]at he
    split at he
    ·rename_i f hf
     obtain⟨m',σ',way',g1,g2,g3,g4⟩:=hr m (Nat.le_trans hm hn) (2*A6 way+1) σ (by unfold Ob;rw[hf];exact he)
     obtain rfl:way'=true::way:=Dg (by rw[g3];rfl)
     unfold JU at g4
     rw[hb m' (Nat.le_trans (Nat.le_of_lt g1) hm)]at g4
     exact⟨σ',g2,(F2 hd hc hr b (true::way) m' Ko KP (Nat.le_trans (Nat.le_trans (Nat.le_of_lt g1) hm) hn) (fun k hk=>hb k (Nat.le_trans hk (Nat.le_trans (Nat.le_of_lt g1) hm))) (fun k e σ hk=>h2 k e σ (Nat.le_trans hk (Nat.le_trans (Nat.le_of_lt g1) hm)))).2 σ' g4⟩
    ·exact⟨σ,fun _ _ _ h=>h,(F2 hd hc hr b (true::way) m Ko KP (Nat.le_trans hm hn) (fun k hk=>hb k (Nat.le_trans hk hm)) (fun k e σ hk=>h2 k e σ (Nat.le_trans hk hm))).1 σ he⟩
  exact⟨main,main⟩
 | .rangeFunc ..,_,_,_,_,_,_,_=>⟨fun _ e=>(by cases e),fun _ e=>(by cases e)⟩
 | .scope _,_,_,_,_,_,_,_=>⟨fun _ e=>(by cases e),fun _ e=>(by cases e)⟩
 | .label _,_,_,_,_,_,_,_=>⟨fun _ e=>(by cases e),fun _ e=>(by cases e)⟩
 | .goto _,_,_,_,_,_,_,_=>⟨fun _ e=>(by cases e),fun _ e=>(by cases e)⟩
 | .refuse _,_,_,_,_,_,_,_=>⟨fun _ e=>(by cases e),fun _ e=>(by cases e)⟩
end
end Go.AM
namespace Go.AM
open Go Go.RowKit
noncomputable section
variable {γ:Type}{r:γ}
def JV (E:EnvO γ) (ti:Types) (o:Oper) (fresh:Nat) (σ:St) (pl:Pl) (K:Pl→St→Option γ):Option γ:=
 match Ir ti o (AH σ.slots) (AK σ.heap)with
 | none=>DN E ti o fresh (AH σ.slots) (AK σ.heap) pl fun p out=>K p ⟨BR σ.slots o.dst out.val,Be σ.heap out.wr,σ.next⟩
 | some b=>(match pl.take.gs with
  | []=>(match b with
   | false=>DN E ti o fresh (AH σ.slots) (AK σ.heap) pl.take.r fun p out=>K p ⟨BR σ.slots o.dst out.val,Be σ.heap out.wr,σ.next⟩
   | true=>DN E ti o fresh (AH σ.slots) (AK σ.heap) pl.take.r fun p out=>K p ⟨BR σ.slots o.dst out.val,Be σ.heap out.wr,fresh⟩)
  | g::gs=>DF (g::gs) ⟨σ.slots,σ.heap,fresh⟩ fun σ'=>Aj (Nat.beq σ'.next fresh)<| DN E ti o fresh (AH σ'.slots) (AK σ'.heap) pl.take.r fun p out=>K p ⟨BR σ'.slots o.dst out.val,Be σ'.heap out.wr,σ'.next⟩)
def Mv (E:EnvO γ) (ti:Types) (nt:Nat) (o:Oper) (fresh:Nat) (σ:St) (pl:Pl) (K:Pl→St→Option γ):Option γ:=
 Aj (Ct o)<| Aj (GB nt o.dst)<| (match DW ti o (AH σ.slots) (AK σ.heap)with
  | some (e,rows)=>Aj (Jz ti o)<| RB rows (K (pl.at true) ⟨BR σ.slots o.dst (.v (.d (.bool e))),σ.heap,σ.next⟩) (K (pl.at false) ⟨BR σ.slots o.dst (.v (.d (.bool (BQ e)))),σ.heap,σ.next⟩)
  | none=>(match o.op with
   | .call c=>(match c.callee with
    | .value f=>(match pl.take.gs with
     | []=>Ms E.call ti c f pl.take.w fresh (AH σ.slots) (AK σ.heap) pl.take.r fun p out=>K p ⟨BR σ.slots o.dst out.val,Be σ.heap out.wr,σ.next⟩
     | g::gs=>Ri E.call ti o c f (g::gs) fresh σ pl.take.r K)
    | _=>JV E ti o fresh σ pl K)
   | _=>JV E ti o fresh σ pl K))
theorem Ie {M:AY}{E:EnvO γ}{ti:Types}(hE:E.ok M.P M.I ti) {o:Oper}{fresh:Nat}{σ:St}{pl:Pl}{K:Pl→St→Option γ}{P:St→Prop}(hK:∀p σ,K p σ=some r→P σ) (e:JV E ti o fresh σ pl K=some r):
  match Ir ti o (AH σ.slots) (AK σ.heap)with
    | none=>CI M ti o fresh (AH σ.slots) (AK σ.heap) fun out=>P ⟨BR σ.slots o.dst out.val,Be σ.heap out.wr,σ.next⟩
    | some b=>match b with
     | true=>M.lock fun _=>W3 M ti o fresh σ P
     | false=>M.lock fun _=>kU M ti o fresh σ P∨W3 M ti o fresh σ P:=by
 unfold JV at e
 have ghs:∀{g:Gh} {gs:List Gh} {p:Pl},(DF (g::gs) ⟨σ.slots,σ.heap,fresh⟩ fun σ'=>Aj (Nat.beq σ'.next fresh)<| DN E ti o fresh (AH σ'.slots) (AK σ'.heap) p fun p out=>K p ⟨BR σ'.slots o.dst out.val,Be σ'.heap out.wr,σ'.next⟩)=some r→W3 M ti o fresh σ P:=by
  intro g gs p e
  obtain⟨σ',hw,e⟩:=Bj (Cd (P:=fun σ'=>_=some r) (fun σ h=>h) e)
  obtain⟨h1,e⟩:=AD e
  exact⟨σ',hw,Nat.eq_of_beq_eq_true h1,FZ hE (fun p out h=>hK _ _ h) e⟩
 split at e
 ·rename_i hg
  try rw[hg]
  exact FZ hE (fun p out h=>hK _ _ h) e
 ·rename_i b hg
  try rw[hg]
  split at e
  ·cases b with
   | false=>exact (M.lock_iff _).2 (.inl (FZ hE (fun p out h=>hK _ _ h) e))
   | true=>exact (M.lock_iff _).2 ⟨⟨σ.slots,σ.heap,fresh⟩,fun _ _ _ h=>h,rfl,FZ hE (fun p out h=>hK _ _ h) e⟩
  ·cases b with
   | false=>exact (M.lock_iff _).2 (.inr (ghs e))
   | true=>exact (M.lock_iff _).2 (ghs e)
theorem VK {M:AY}{E:EnvO γ}{ti:Types}(hE:E.ok M.P M.I ti) {nt:Nat}{o:Oper}{fresh:Nat}{σ:St}{pl:Pl}{K:Pl→St→Option γ}{P:St→Prop}(hK:∀p σ,K p σ=some r→P σ) (e:Mv E ti nt o fresh σ pl K=some r):FL M ti nt o fresh σ P:=by
 unfold Mv at e
 obtain⟨h1,e⟩:=AD e
 obtain⟨h2,e⟩:=AD e
 unfold FL
 refine EI h1 (Cw h2 ?_)
 split at e
 ·rename_i b rows hn
  rw[hn]
  obtain⟨h3,e⟩:=AD e
  obtain⟨g0,g1⟩:=Hm e
  exact AA.2 ⟨h3,fun _=>hK _ _ g0,fun hr=>⟨hK _ _ (g1 hr),hK _ _ g0⟩⟩
 ·rename_i hn
  rw[hn]
  simp only[]
  split at e
  ·rename_i c ho
   split at e
   ·rename_i f hf
    have hv:Bc o=true:=by unfold Bc;rw[ho];simp only[];rw[hf]
    rw[hv]
    split at e
    ·exact (M.lock_iff _).2 (.inl (OX hE.call ho hf (fun p out h=>hK _ _ h) e))
    ·exact (M.lock_iff _).2 (.inr (.inl (VH hE.call ho hf hK e)))
   ·rename_i hf
    have hv:Bc o=false:=by
     unfold Bc
     rw[ho]
     simp only[]
    rw[hv]
    exact Ie hE hK e
  ·rename_i ho
   by_cases hp:∃x,o.op= .panic x
   ·obtain⟨x,hp⟩:=hp
    exfalso
    unfold JV at e
    have hg:Ir ti o (AH σ.slots) (AK σ.heap)=none:=by unfold Ir;rw[hp]
    rw[hg]at e
    simp only[]at e
    unfold DN at e
    rw[hp]at e
    cases e
   have hv:Bc o=false:=by
    unfold Bc
    split
    ·rename_i c hc;exact absurd hc (ho c)
    ·rename_i x hx;exact absurd ⟨x,hx⟩ hp
    ·rfl
   rw[hv]
   exact Ie hE hK e
def IA (ops:Array Oper) (o:Oper) (σ:St) (pl:Pl) (K1 K0:Pl→St→Option γ):Option γ:=
 match o.guard with
 | none=>K1 pl σ
 | some (j,want)=>(match (ops[j]?).bind (·.dst)with
  | none=>none
  | some d=>(match AH σ.slots d with
   | .v (.d (.bool c))=>(match want with
    | true=>if c=true then K1 (pl.at true) ⟨MS σ.slots d (.v (.d (.bool true))),σ.heap,σ.next⟩else K0 (pl.at false) ⟨MS σ.slots d (.v (.d (.bool false))),σ.heap,σ.next⟩
    | false=>if c=true then K0 (pl.at true) ⟨MS σ.slots d (.v (.d (.bool true))),σ.heap,σ.next⟩else K1 (pl.at false) ⟨MS σ.slots d (.v (.d (.bool false))),σ.heap,σ.next⟩)
   | .t []=>K0 pl σ
   | _=>none))
theorem IB {ops:Array Oper}{o:Oper}{σ:St}{pl:Pl}{K1 K0:Pl→St→Option γ}{P1 P0:St→Prop}(h1:∀p,K1 p σ=some r→P1 σ) (h0:∀p,K0 p σ=some r→P0 σ) (e:IA ops o σ pl K1 K0=some r):guarded ops o σ P1 P0:=by
 unfold IA at e
 unfold guarded
 split at e
 ·rename_i hg;simp only[hg];exact h1 _ e
 ·rename_i j want hg
  simp only[hg]
  split at e
  ·cases e
  ·rename_i d hd
   simp only[hd]
   split at e
   ·rename_i c hs
    simp only[hs]
    cases want<;>cases c<;>simp only[if_true,Bool.false_eq_true,if_false,Mo hs]at e ⊢
    ·exact h1 _ e
    ·exact h0 _ e
    ·exact h0 _ e
    ·exact h1 _ e
   ·rename_i hs;simp only[hs];exact h0 _ e
   ·cases e
def Oc (E:EnvO γ) (ti:Types) (nt:Nat) (ops:Array Oper) (base:Nat):List Oper→Nat→Pl→St→(Pl→St→Option γ)→Option γ
 | [],i,pl,σ,K=>K pl ⟨σ.slots,σ.heap,base+32*i⟩
 | o::l,i,pl,σ,K=>IA ops o σ pl (fun pl σ=>Mv E ti nt o (base+32*i) σ pl fun pl σ2=>Oc E ti nt ops base l (i+1) pl σ2 K)
   (fun pl σ=>Aj (GB nt o.dst) (Oc E ti nt ops base l (i+1) pl ⟨BR σ.slots o.dst (.t []),σ.heap,σ.next⟩ K))
theorem Lc {M:AY}{E:EnvO γ}{ti:Types}(hE:E.ok M.P M.I ti) {nt:Nat}{ops:Array Oper}{base:Nat}{K:Pl→St→Option γ}{P:St→Prop}(hK:∀p σ,K p σ=some r→P σ):
  ∀(l:List Oper) (i:Nat) (pl:Pl) (σ:St),Oc E ti nt ops base l i pl σ K=some r→BT M ti nt ops base l i σ P
 | [],_,_,_,e=>hK _ _ e
 | o::l,i,pl,σ,e=>by
  unfold Oc at e
  unfold BT
  exact IB (P1:=fun σ1=>match FM o with
    | some x=>JL M ti x (base+32*i) σ1 fun σ2=>BT M ti nt ops base l (i+1) σ2 P
    | none=>FL M ti nt o (base+32*i) σ1 fun σ2=>BT M ti nt ops base l (i+1) σ2 P) (P0:=fun σ1=>D0 nt o.dst (BT M ti nt ops base l (i+1) ⟨BR σ1.slots o.dst (.t []),σ1.heap,σ1.next⟩ P))
   (fun p e=>by
    have h0:=e
    unfold Mv at h0
    simp only[MG (AD h0).1]
    exact VK hE (fun p σ2 e=>Lc hE hK l (i+1) p σ2 e) e) (fun p e=>by
    obtain⟨h1,e⟩:=AD e
    exact Cw h1 (Lc hE hK l (i+1) p _ e)) e
def Od (E:EnvO γ) (ti:Types) (o:Oper) (fresh:Nat) (s:AN) (h:AE) (pl:Pl) (k:Pl→Out→Option γ):Option γ:=
 match o.op with
 | .call c=>(match c.callee with
  | .value f=>Ms E.call ti c f pl.take.w fresh s h pl.take.r k
  | _=>DN E ti o fresh s h pl k)
 | _=>DN E ti o fresh s h pl k
theorem Tr {M:AY}{E:EnvO γ}{ti:Types}(hE:E.ok M.P M.I ti) {o:Oper}{fresh:Nat}{s:AN}{h:AE}{pl:Pl}{k:Pl→Out→Option γ}{P:Out→Prop}(hk:∀p o,k p o=some r→P o) (e:Od E ti o fresh s h pl k=some r):CI M ti o fresh s h P:=by
 unfold Od at e
 split at e
 ·rename_i c ho
  split at e
  ·rename_i f hf;exact OX hE.call ho hf hk e
  ·exact FZ hE hk e
 ·exact FZ hE hk e
def KX (E:EnvO γ) (ti:Types) (nt:Nat) (ops:Array Oper) (base:Nat):List Oper→Nat→Pl→St→List Fp→(Pl→St→List Fp→Option γ)→Option γ
 | [],i,pl,σ,fps,K=>K pl ⟨σ.slots,σ.heap,base+32*i⟩ fps
 | o::l,i,pl,σ,fps,K=>IA ops o σ pl (fun pl σ=>Aj (Ct o)<| Aj (GB nt o.dst)<| Od E ti o (base+32*i) (AH σ.slots) (AK σ.heap) pl fun pl out=>
    KX E ti nt ops base l (i+1) pl ⟨BR σ.slots o.dst out.val,Be σ.heap out.wr,σ.next⟩ (fps++[(out.rd,out.wr.map (·.1))]) K)
   (fun pl σ=>Aj (GB nt o.dst) (KX E ti nt ops base l (i+1) pl ⟨BR σ.slots o.dst (.t []),σ.heap,σ.next⟩ (fps++[([],[])]) K))
theorem JW {M:AY}{E:EnvO γ}{ti:Types}(hE:E.ok M.P M.I ti) {nt:Nat}{ops:Array Oper}{base:Nat}{K:Pl→St→List Fp→Option γ}{P:St→List Fp→Prop}(hK:∀p σ fps,K p σ fps=some r→P σ fps):
  ∀(l:List Oper) (i:Nat) (pl:Pl) (σ:St) (fps:List Fp),KX E ti nt ops base l i pl σ fps K=some r→BJ M ti nt ops base l i σ fps P
 | [],_,_,_,_,e=>hK _ _ _ e
 | o::l,i,pl,σ,fps,e=>by
  unfold KX at e
  unfold BJ
  refine IB (P1:=fun σ1=>EN o<| D0 nt o.dst<| CI M ti o (base+32*i) (AH σ1.slots) (AK σ1.heap) fun out=>BJ M ti nt ops base l (i+1) ⟨BR σ1.slots o.dst out.val,Be σ1.heap out.wr,σ1.next⟩ (fps++[(out.rd,out.wr.map (·.1))]) P)
   (P0:=fun σ1=>D0 nt o.dst (BJ M ti nt ops base l (i+1) ⟨BR σ1.slots o.dst (.t []),σ1.heap,σ1.next⟩ (fps++[([],[])]) P)) (fun p e=>?_) (fun p e=>?_) e
  ·obtain⟨h1,e⟩:=AD e
   obtain⟨h2,e⟩:=AD e
   exact EI h1 (Cw h2 (Tr hE (fun p out e=>JW hE hK l (i+1) p _ _ e) e))
  ·obtain⟨h1,e⟩:=AD e
   exact Cw h1 (JW hE hK l (i+1) p _ _ e)
abbrev Ro (γ:Type):=Pl→B5→St→Option γ
structure EnvP (γ:Type) extends EnvO γ where
 has:Nat→Bool
 rest:Nat→Tk→St→Option γ
def Rp (E:EnvP γ) (q:Nat) (eb:Pl→St→Ro γ→Option γ) (K:Ro γ):Ro γ:=fun pl e σ=>match e with
 | .normal=>(match E.has q with
  | true=>(match pl.take.w with
   | true=>eb pl.take.r σ K
   | false=>E.rest q pl.take σ)
  | false=>eb pl σ K)
 | .exit id=>K pl (.exit id) σ
 | .ret=>K pl .ret σ
def Rq (id:Nat) (K:Ro γ):Ro γ:=fun pl e σ=>match e with
 | .normal=>K pl .normal σ
 | .exit id'=>(match Nat.beq id' id with
  | true=>K pl .normal σ
  | false=>K pl (.exit id') σ)
 | .ret=>K pl .ret σ
def Mw (E:EnvP γ) (p:Nat) (K:Ro γ):Ro γ:=fun pl e σ=>match e with
 | .normal=>E.rest p pl.take σ
 | .exit id=>K pl (.exit id) σ
 | .ret=>K pl .ret σ
def Bz (E:EnvP γ) (ti:Types) (nt:Nat):Code→Nat→Pl→St→Ro γ→Option γ
 | .skip,_,pl,σ,K=>K pl .normal σ
 | .region _ ops draw,_,pl,σ,K=>(match draw with
  | false=>Oc E.toEnvO ti nt ops σ.next ops.toList 0 pl σ fun pl σ'=>K pl .normal σ'
  | true=>KX E.toEnvO ti nt ops σ.next ops.toList 0 pl σ [] fun pl σ' fps=>Aj (TK ops fps) (K pl .normal σ'))
 | .seq a b,p,pl,σ,K=>Bz E ti nt a (2*p) pl σ (Rp E (2*p+1) (fun pl σ K=>Bz E ti nt b (2*p+1) pl σ K) K)
 | .cond c a b,p,pl,σ,K=>V6 (AP ti (AH σ.slots) 0 c) fun q=>if q=true then Bz E ti nt a (2*p) (pl.at true) (told σ c true) K else Bz E ti nt b (2*p+1) (pl.at false) (told σ c false) K
 | .block id c,p,pl,σ,K=>Bz E ti nt c (2*p) pl σ (Rq id K)
 | .loop _,p,pl,σ,_=>E.rest p pl.take σ
 | .exit id,_,pl,σ,K=>K pl (.exit id) σ
 | .ret,_,pl,σ,K=>K pl .ret σ
 | _,_,_,_,_=>none
def Zf (E:EnvP γ) (ti:Types) (nt:Nat) (c:Code) (p:Nat) (pl:Pl) (σ:St) (K:Ro γ):Option γ:=
 match c with
 | .loop b=>Bz E ti nt b (2*p) pl σ (Mw E p K)
 | c=>Bz E ti nt c p pl σ K
def dL (E:EnvP γ) (ti:Types) (nt:Nat):Code→Nat→Ro γ→Bool→Option (Code×Nat×Ro γ)
 | .seq a b,p,K,d=>(match d with
  | false=>some (a,2*p,Rp E (2*p+1) (fun pl σ K=>Bz E ti nt b (2*p+1) pl σ K) K)
  | true=>some (b,2*p+1,K))
 | .cond _ a b,p,K,d=>(match d with
  | false=>some (a,2*p,K)
  | true=>some (b,2*p+1,K))
 | .block id c,p,K,d=>(match d with
  | false=>some (c,2*p,Rq id K)
  | true=>none)
 | .loop c,p,K,d=>(match d with
  | false=>some (c,2*p,Mw E p K)
  | true=>none)
 | _,_,_,_=>none
def DP (E:EnvP γ) (ti:Types) (nt:Nat) (body:Code) (K:Ro γ):List Bool→Option (Code×Nat×Ro γ)
 | []=>some (body,1,K)
 | b::t=>(match DP E ti nt body K t with
  | some x=>dL E ti nt x.1 x.2.1 x.2.2 b
  | none=>none)
def HB (E:EnvP γ) (ti:Types) (nt:Nat) (body:Code) (K:Ro γ) (way:List Bool) (pl:Pl) (σ:St):Option γ:=
 match DP E ti nt body K way with
 | some x=>Zf E ti nt x.1 x.2.1 pl σ x.2.2
 | none=>none
variable {M:AY}{ti:Types}{nt:Nat}{E:Nat→EnvP γ}{body:Code}{Kf:Ro γ}
def jE (E:Nat→EnvP γ) (ti:Types) (nt:Nat) (body:Code) (Kf:Ro γ) (r:γ) (n:Nat):Prop:=
 ∀p tk σ,(E n).rest p tk σ=some r→∃m σ' way pl,m<n∧A8 σ σ'∧A6 way=p∧HB (E m) ti nt body Kf way pl σ'=some r
theorem Eg {N:Nat}(hE:∀m,m≤N→(E m).toEnvO.ok M.P M.I ti) (hr:∀m,m≤N→jE E ti nt body Kf r m):
  ∀(c:Code) (way:List Bool) (n:Nat) (Ko:Nat→Ro γ) (KP:B5→St→Prop),n≤N→(∀m,m≤n→DP (E m) ti nt body Kf way=some (c,A6 way,Ko m))→(∀m p e σ,m≤n→Ko m p e σ=some r→KP e σ)→
   (∀pl σ,Bz (E n) ti nt c (A6 way) pl σ (Ko n)=some r→exec M ti nt (A4 ti M nt) c σ KP)∧(∀pl σ,Zf (E n) ti nt c (A6 way) pl σ (Ko n)=some r→exec M ti nt (A4 ti M nt) c σ KP)
 | .skip,way,n,Ko,KP,hn,h1,h2=>⟨fun pl σ e=>h2 n _ _ _ (Nat.le_refl _) e,fun pl σ e=>h2 n _ _ _ (Nat.le_refl _) e⟩
 | .exit id,way,n,Ko,KP,hn,h1,h2=>⟨fun pl σ e=>h2 n _ _ _ (Nat.le_refl _) e,fun pl σ e=>h2 n _ _ _ (Nat.le_refl _) e⟩
 | .ret,way,n,Ko,KP,hn,h1,h2=>⟨fun pl σ e=>h2 n _ _ _ (Nat.le_refl _) e,fun pl σ e=>h2 n _ _ _ (Nat.le_refl _) e⟩
 | .region id ops draw,way,n,Ko,KP,hn,h1,h2=>by
  have main:∀pl σ,Bz (E n) ti nt (.region id ops draw) (A6 way) pl σ (Ko n)=some r→exec M ti nt (A4 ti M nt) (.region id ops draw) σ KP:=by
   intro pl σ e
   cases draw with
   | false=>exact Lc (hE n hn) (fun p σ' e=>h2 n _ _ _ (Nat.le_refl _) e) _ _ _ _ e
   | true=>
    refine JW (hE n hn) (fun p σ' fps e=>?_) _ _ _ _ _ e
    obtain⟨g1,e⟩:=AD e
    exact⟨(M.lock_iff _).2 g1,h2 n _ _ _ (Nat.le_refl _) e⟩
  exact⟨main,main⟩
 | .cond c a b,way,n,Ko,KP,hn,h1,h2=>by
  have main:∀pl σ,Bz (E n) ti nt (.cond c a b) (A6 way) pl σ (Ko n)=some r→exec M ti nt (A4 ti M nt) (.cond c a b) σ KP:=by
   intro pl σ e
   have e':V6 (AP ti (AH σ.slots) 0 c) (fun q=>if q=true then Bz (E n) ti nt a (2*A6 way) (pl.at true) (told σ c true) (Ko n)else Bz (E n) ti nt b (2*A6 way+1) (pl.at false) (told σ c false) (Ko n))=some r:=e
   show Lw (AP ti (AH σ.slots) 0 c) _
   generalize ho:AP ti (AH σ.slots) 0 c=x at e'
   unfold V6 at e'
   split at e'
   rotate_left
   ·cases e'
   rename_i q
   have e:(if q=true then Bz (E n) ti nt a (2*A6 way) (pl.at true) (told σ c true) (Ko n)else Bz (E n) ti nt b (2*A6 way+1) (pl.at false) (told σ c false) (Ko n))=some r:=e'
   cases q with
   | true=>
    rw[if_pos rfl,Mu ho]at e
    exact (Eg hE hr a (false::way) n Ko KP hn (fun m hm=>by show (match DP (E m) ti nt body Kf way with | some x=>_ | none=>_)=_;rw[h1 m hm];rfl) h2).1 _ σ e
   | false=>
    rw[if_neg Bool.false_ne_true,Mu ho]at e
    exact (Eg hE hr b (true::way) n Ko KP hn (fun m hm=>by show (match DP (E m) ti nt body Kf way with | some x=>_ | none=>_)=_;rw[h1 m hm];rfl) h2).1 _ σ e
  exact⟨main,main⟩
 | .block id c,way,n,Ko,KP,hn,h1,h2=>by
  have main:∀pl σ,Bz (E n) ti nt (.block id c) (A6 way) pl σ (Ko n)=some r→exec M ti nt (A4 ti M nt) (.block id c) σ KP:=by
   intro pl σ e
   refine (Eg hE hr c (false::way) n (fun m=>Rq id (Ko m)) _ hn (fun m hm=>by show (match DP (E m) ti nt body Kf way with | some x=>_ | none=>_)=_;rw[h1 m hm];rfl) (fun m p e σ hm he=>?_)).1 pl σ e
   cases e with
   | normal=>exact h2 m _ _ _ hm he
   | ret=>exact h2 m _ _ _ hm he
   | exit id'=>
    simp only[Rq]at he
    simp only[]
    split at he
    ·rename_i hb;simp only[hb];exact h2 m _ _ _ hm he
    ·rename_i hb;simp only[hb];exact h2 m _ _ _ hm he
  exact⟨main,main⟩
 | .loop c,way,n,Ko,KP,hn,h1,h2=>by
  have at':∀k,k≤n→∀pl σ σ1,A8 σ σ1→Zf (E k) ti nt (.loop c) (A6 way) pl σ1 (Ko k)=some r→exec M ti nt (A4 ti M nt) (.loop c) σ KP:=by
   intro k hk pl σ σ1 hw e
   refine (M.lock_iff _).2 (.inl ⟨fun j σ=>j≤n∧∃pl,Bz (E j) ti nt c (2*A6 way) pl σ (Mw (E j) (A6 way) (Ko j))=some r,k,⟨σ1,hw,hk,pl,e⟩,?_⟩)
   rintro j σ2 ⟨hj,pl2,e2⟩
   refine (Eg hE hr c (false::way) j (fun m=>Mw (E m) (A6 way) (Ko m)) _ (Nat.le_trans hj hn) (fun m hm=>by show (match DP (E m) ti nt body Kf way with | some x=>_ | none=>_)=_;rw[h1 m (Nat.le_trans hm hj)];rfl) (fun m p e σ hm he=>?_)).1 pl2 σ2 e2
   cases e with
   | exit id=>exact h2 m _ _ _ (Nat.le_trans hm hj) he
   | ret=>exact h2 m _ _ _ (Nat.le_trans hm hj) he
   | normal=>
    obtain⟨m',σ',way',pl',g1,g2,g3,g4⟩:=hr m (Nat.le_trans (Nat.le_trans hm hj) hn) (A6 way) _ σ he
    obtain rfl:=Dg g3
    unfold HB at g4
    rw[h1 m' (Nat.le_trans (Nat.le_of_lt g1) (Nat.le_trans hm hj))]at g4
    exact⟨m',σ',Nat.lt_of_lt_of_le g1 hm,g2,Nat.le_trans (Nat.le_of_lt g1) (Nat.le_trans hm hj),pl',g4⟩
  refine⟨fun pl σ e=>?_,fun pl σ e=>at' n (Nat.le_refl _) pl σ σ (fun _ _ _ h=>h) e⟩
  obtain⟨m',σ',way',pl',g1,g2,g3,g4⟩:=hr n hn (A6 way) _ σ e
  obtain rfl:=Dg g3
  unfold HB at g4
  rw[h1 m' (Nat.le_of_lt g1)]at g4
  exact at' m' (Nat.le_of_lt g1) pl' σ σ' g2 g4
 | .seq a b,way,n,Ko,KP,hn,h1,h2=>by
  have hb:∀m,m≤n→DP (E m) ti nt body Kf (true::way)=some (b,2*A6 way+1,Ko m):=fun m hm=>by show (match DP (E m) ti nt body Kf way with | some x=>_ | none=>_)=_;rw[h1 m hm];rfl
  have main:∀pl σ,Bz (E n) ti nt (.seq a b) (A6 way) pl σ (Ko n)=some r→exec M ti nt (A4 ti M nt) (.seq a b) σ KP:=by
   intro pl σ e
   refine (M.lock_iff _).2 (.inr ⟨fun σ''=>exec M ti nt (A4 ti M nt) b σ'' KP,?_,fun _ h=>h⟩)
   refine (Eg hE hr a (false::way) n (fun m=>Rp (E m) (2*A6 way+1) (fun pl σ K=>Bz (E m) ti nt b (2*A6 way+1) pl σ K) (Ko m)) _ hn (fun m hm=>by show (match DP (E m) ti nt body Kf way with | some x=>_ | none=>_)=_;rw[h1 m hm];rfl) (fun m p e σ hm he=>?_)).1 pl σ e
   cases e with
   | exit id=>exact h2 m _ _ _ hm he
   | ret=>exact h2 m _ _ _ hm he
   | normal=>
    have go:∀p,Bz (E m) ti nt b (2*A6 way+1) p σ (Ko m)=some r→∃σ'',A8 σ σ''∧exec M ti nt (A4 ti M nt) b σ'' KP:=fun p he=>
     ⟨σ,fun _ _ _ h=>h,(Eg hE hr b (true::way) m Ko KP (Nat.le_trans hm hn) (fun k hk=>hb k (Nat.le_trans hk hm)) (fun k p e σ hk=>h2 k p e σ (Nat.le_trans hk hm))).1 p σ he⟩
    simp only[Rp]at he
    split at he
    ·split at he
     ·exact go _ he
     ·obtain⟨m',σ',way',pl',g1,g2,g3,g4⟩:=hr m (Nat.le_trans hm hn) (2*A6 way+1) _ σ he
      obtain rfl:way'=true::way:=Dg (by rw[g3];rfl)
      unfold HB at g4
      rw[hb m' (Nat.le_trans (Nat.le_of_lt g1) hm)]at g4
      exact⟨σ',g2,(Eg hE hr b (true::way) m' Ko KP (Nat.le_trans (Nat.le_trans (Nat.le_of_lt g1) hm) hn) (fun k hk=>hb k (Nat.le_trans hk (Nat.le_trans (Nat.le_of_lt g1) hm))) (fun k p e σ hk=>h2 k p e σ (Nat.le_trans hk (Nat.le_trans (Nat.le_of_lt g1) hm)))).2 pl' σ' g4⟩
    ·exact go _ he
  exact⟨main,main⟩
 | .rangeFunc ..,_,_,_,_,_,_,_=>⟨fun _ _ e=>(by cases e),fun _ _ e=>(by cases e)⟩
 | .scope _,_,_,_,_,_,_,_=>⟨fun _ _ e=>(by cases e),fun _ _ e=>(by cases e)⟩
 | .label _,_,_,_,_,_,_,_=>⟨fun _ _ e=>(by cases e),fun _ _ e=>(by cases e)⟩
 | .goto _,_,_,_,_,_,_,_=>⟨fun _ _ e=>(by cases e),fun _ _ e=>(by cases e)⟩
 | .refuse _,_,_,_,_,_,_,_=>⟨fun _ _ e=>(by cases e),fun _ _ e=>(by cases e)⟩
end
end Go.AM
namespace Go.AM
open Go Go.RowKit
section
variable {γ:Type}{r:γ}
def Oe (ti:Types) (σ:St):List ResultVar→Option (List V1)
 | []=>some []
 | x::l=>(match (match x with
  | .tmp t=>some (AH σ.slots t)
  | .cell a t=>LP ti t (AH σ.slots a) (AK σ.heap) fun out=>some out.val)with
  | some (.v y)=>(match Oe ti σ l with
   | some xs=>some (y.norm::xs)
   | none=>none)
  | _=>none)
theorem IC {ti:Types}{σ:St}:∀{l:List ResultVar}{xs:List V1}{P:List V1→Prop},Oe ti σ l=some xs→P xs→Fy ti σ l P
 | [],_,_,e,hP=>by cases e;exact hP
 | .tmp t::l,xs,P,e,hP=>by
  unfold Oe at e
  unfold Fy
  simp only[]at e
  split at e
  ·rename_i y hy
   split at e
   ·rename_i ys hys
    cases e
    rw[Option.some.inj hy]
    exact IC hys hP
   ·cases e
  ·cases e
 | .cell a t::l,xs,P,e,hP=>by
  unfold Oe at e
  unfold Fy
  simp only[]at e
  split at e
  ·rename_i y hy
   split at e
   ·rename_i ys hys
    cases e
    refine LQ (fun out ho=>?_) hy
    rw[Option.some.inj ho]
    exact IC hys hP
   ·cases e
  ·cases e
def Bn:List Id→List Id
 | []=>[]
 | i::l=>(match i with
  | .loc _=>i::Bn l
  | .ext _=>Bn l)
def B0:Nat→Nat→List Id
 | _,0=>[]
 | j,n+1=>.ext j::B0 (j+1) n
def I5 (nm:List Id) (i:Id):Id:=match i with
 | .ext j=>.ext j
 | .loc _=>(match iY nm 0 i with
  | some k=>.loc k
  | none=>i)
def HL (nm:List Id) (N:Nat) (i:Id):Bool:=Id.beq (CY nm N (I5 nm i)) i
def WH (ti:Types) (rs:List ResultVar) (np:Nat) (σ:St) (fin:Jg→Option γ):Option γ:=
 match Oe ti σ rs with
 | none=>none
 | some xs=>(match C6 (AK σ.heap) (B0 0 np),C6 (AK σ.heap) (Bn (Bs (AK σ.heap) 100 (Cm xs++B0 0 np) []))with
  | some ps,some ns=>Aj (nodupB (Bn (Bs (AK σ.heap) 100 (Cm xs++B0 0 np) [])))<|
    Aj (fD (HL (Bn (Bs (AK σ.heap) 100 (Cm xs++B0 0 np) [])) σ.next) (N1 xs))<| Aj (BP (KC (HL (Bn (Bs (AK σ.heap) 100 (Cm xs++B0 0 np) [])) σ.next)) ps)<|
    Aj (BP (KC (HL (Bn (Bs (AK σ.heap) 100 (Cm xs++B0 0 np) [])) σ.next)) ns)<|
    fin ⟨(N1 xs).Ar (I5 (Bn (Bs (AK σ.heap) 100 (Cm xs++B0 0 np) []))),ps.map (AB.Ar (I5 (Bn (Bs (AK σ.heap) 100 (Cm xs++B0 0 np) [])))),ns.map (AB.Ar (I5 (Bn (Bs (AK σ.heap) 100 (Cm xs++B0 0 np) []))))⟩
  | _,_=>none)
theorem Ig {h:AE}{N:Nat}{nm:List Id}:∀{n j:Nat}{ps:List AB},C6 h (B0 j n)=some ps→BP (KC (HL nm N)) ps=true→DY h (CY nm N) (ps.map (AB.Ar (I5 nm))) j
 | 0,j,ps,e,_=>by cases e;trivial
 | n+1,j,ps,e,hb=>by
  unfold B0 C6 at e
  split at e
  ·rename_i o ho
   split at e
   ·rename_i r' hr
    cases e
    unfold BP at hb
    split at hb
    ·rename_i h1
     show (match N2 (o.Ar (I5 nm))with | true=>_ | false=>_)
     split
     ·exact Ig hr hb
     ·exact⟨by rw[KE (p:=HL nm N) (fun i hi=>Id.beq_iff.1 hi) h1];exact ho,Ig hr hb⟩
    ·cases hb
   ·cases e
  ·cases e
theorem Og {h:AE}{N:Nat}{nm:List Id}:∀{l:List Id}{ns:List AB},C6 h l=some ns→BP (KC (HL nm N)) ns=true→Ix h (CY nm N) (ns.map (AB.Ar (I5 nm))) l
 | [],ns,e,_=>by cases e;trivial
 | i::l,ns,e,hb=>by
  unfold C6 at e
  split at e
  ·rename_i o ho
   split at e
   ·rename_i r' hr
    cases e
    unfold BP at hb
    split at hb
    ·rename_i h1
     exact⟨by rw[KE (p:=HL nm N) (fun i hi=>Id.beq_iff.1 hi) h1];exact ho,Og hr hb⟩
    ·cases hb
   ·cases e
  ·cases e
theorem E9 {post:List AB}:∀l:List Id,FR post (Bn l)
 | []=>trivial
 | .loc _::l=>E9 l
 | .ext _::l=>E9 l
theorem Ts {ti:Types}{rs:List ResultVar}{np:Nat}{σ:St}{fin:Jg→Option γ}(e:WH ti rs np σ fin=some r):∃res post new,fin ⟨res,post,new⟩=some r∧DZ ti rs σ res post new:=by
 unfold WH at e
 split at e
 ·cases e
 ·rename_i xs hxs
  generalize hm:Bs (AK σ.heap) 100 (Cm xs++B0 0 np) []=m at e
  split at e
  ·rename_i ps ns hp hn
   obtain⟨h1,e⟩:=AD e
   obtain⟨h2,e⟩:=AD e
   obtain⟨h3,e⟩:=AD e
   obtain⟨h4,e⟩:=AD e
   exact⟨_,_,_,e,[],IC hxs ⟨Bn m,h1,(Q8 (p:=HL (Bn m) σ.next) (fun i hi=>Id.beq_iff.1 hi) h2).symm,Ig hp h3,Og hn h4,E9 _⟩⟩
  ·cases e
inductive Lf where
 | I (z:Int)
 | B (b:Bool)
 | S (s:ByteArray)
 | L (l:List D)
inductive Sk where
 | int (k:IntKind)
 | bool
 | str
 | list (ag:Bool) (sz:Nat)
 | ci (k:IntKind) (z:Int)
 | cb (b:Bool)
 | nils (ag:Bool) (sz:Nat)
 | nilp
 | ptr (i:Id) (o:Nat)
 | fn (f:Nat) (cap:List Id)
 | cs (s:ByteArray)
 | el (ag:Bool) (sz:Nat)
 | nilf
inductive KY where
 | one (s:Sk)
 | agg (l:List Sk)
 | mix (l:List Sk)
abbrev Sk.z:Sk:=.int .i64
abbrev Sk.y:Sk:=.int .u8
abbrev Sk.k (z:Int):Sk:=.ci .i64 z
abbrev Sk.q (n:Nat):Sk:=.list true n
abbrev Sk.f (n:Nat):Sk:=.list false n
abbrev KY.z:KY:=.one .z
abbrev KY.y:KY:=.one .y
abbrev KY.b:KY:=.one .bool
abbrev KY.s:KY:=.one .str
abbrev KY.k (z:Int):KY:=.one (.k z)
abbrev KY.q (n:Nat):KY:=.one (.q n)
abbrev KY.f (n:Nat):KY:=.one (.f n)
abbrev KY.p (i:Id) (n:Nat):KY:=.one (.ptr i n)
def QA:List Id→List Id→Bool
 | [],[]=>true
 | i::a,j::b=>(match Id.beq i j with
  | true=>QA a b
  | false=>false)
 | _,_=>false
theorem KZ:∀{a b:List Id},QA a b=true→a=b
 | [],[],_=>rfl
 | i::a,j::b,h=>by
  unfold QA at h
  split at h
  ·rename_i hb;rw[Id.beq_iff.1 hb,KZ h]
  ·cases h
 | [],_::_,h=>by cases h
 | _::_,[],h=>by cases h
def dM:IntKind→IntKind→Bool:=fun a b=>decide (a=b)
def nC:Int→Int→Bool
 | .ofNat a,.ofNat b=>Nat.beq a b
 | .negSucc a,.negSucc b=>Nat.beq a b
 | _,_=>false
theorem Zg {a b:Int}(h:nC a b=true):a=b:=by
 cases a<;>cases b<;>simp only[nC]at h
 ·rw[Nat.eq_of_beq_eq_true h]
 ·cases h
 ·cases h
 ·rw[Nat.eq_of_beq_eq_true h]
def kH:List UInt8→List UInt8→Bool
 | [],[]=>true
 | a::l,b::m=>(match Nat.beq a.toNat b.toNat with
  | true=>kH l m
  | false=>false)
 | _,_=>false
theorem Zh:∀{a b:List UInt8},kH a b=true→a=b
 | [],[],_=>rfl
 | a::l,b::m,h=>by
  unfold kH at h
  split at h
  ·rename_i hb;rw[UInt8.toNat_inj.1 (Nat.eq_of_beq_eq_true hb),Zh h]
  ·cases h
 | [],_::_,h=>by cases h
 | _::_,[],h=>by cases h
theorem WI {a b:ByteArray}(h:kH a.data.toList b.data.toList=true):a=b:=by
 obtain⟨a⟩:=a
 obtain⟨b⟩:=b
 rw[show a=b from Array.ext' (Zh h)]
def Cf (b:Bool) (x:Option (List Lf)):Option (List Lf):=match b with
 | true=>x
 | false=>none
theorem Ak {b:Bool}{x:Option (List Lf)}{l:List Lf}(h:Cf b x=some l):b=true∧x=some l:=by
 cases b
 ·cases h
 ·exact⟨rfl,h⟩
def Zi:Sk→CV→Option (List Lf)
 | .int k,.d (.int k' z)=>Cf (dM k k') (some [.I z])
 | .bool,.d (.bool b)=>some [.B b]
 | .str,.d (.str s)=>some [.S s]
 | .list ag sz,.d (.list ag' sz' l)=>Cf (ag==ag') (Cf (Nat.beq sz sz') (some [.L l]))
 | .ci k z,.d (.int k' z')=>Cf (dM k k') (Cf (nC z z') (some []))
 | .cb b,.d (.bool b')=>Cf (b==b') (some [])
 | .nils ag sz,.nils ag' sz'=>Cf (ag==ag') (Cf (Nat.beq sz sz') (some []))
 | .nilp,.nilp=>some []
 | .ptr i o,.ptr i' o'=>Cf (Id.beq i i') (Cf (Nat.beq o o') (some []))
 | .fn f c,.fn f' c'=>Cf (Nat.beq f f') (Cf (QA c c') (some []))
 | .cs s,.d (.str s')=>Cf (kH s.data.toList s'.data.toList) (some [])
 | .el ag sz,.d (.list ag' sz' [])=>Cf (ag==ag') (Cf (Nat.beq sz sz') (some []))
 | .nilf,.nilf=>some []
 | _,_=>none
def jF:Sk→List Lf→Option (CV×List Lf)
 | .int k,.I z::r=>some (.d (.int k z),r)
 | .bool,.B b::r=>some (.d (.bool b),r)
 | .str,.S s::r=>some (.d (.str s),r)
 | .list ag sz,.L l::r=>some (.d (.list ag sz l),r)
 | .ci k z,r=>some (.d (.int k z),r)
 | .cb b,r=>some (.d (.bool b),r)
 | .nils ag sz,r=>some (.nils ag sz,r)
 | .nilp,r=>some (.nilp,r)
 | .ptr i o,r=>some (.ptr i o,r)
 | .fn f c,r=>some (.fn f c,r)
 | .cs s,r=>some (.d (.str s),r)
 | .el ag sz,r=>some (.d (.list ag sz []),r)
 | .nilf,r=>some (.nilf,r)
 | _,_=>none
theorem Rr {s:Sk}{c:CV}{l:List Lf}(h:Zi s c=some l) (rest:List Lf):jF s (l++rest)=some (c,rest):=by
 unfold Zi at h
 split at h
 ·obtain⟨h1,h⟩:=Ak h
  cases h
  rw[show _=_ from of_decide_eq_true h1];rfl
 ·cases h;rfl
 ·cases h;rfl
 ·obtain⟨h1,h⟩:=Ak h
  obtain⟨h2,h⟩:=Ak h
  cases h
  rw[eq_of_beq h1,Nat.eq_of_beq_eq_true h2];rfl
 ·obtain⟨h1,h⟩:=Ak h
  obtain⟨h2,h⟩:=Ak h
  cases h
  rw[show _=_ from of_decide_eq_true h1,Zg h2];rfl
 ·obtain⟨h1,h⟩:=Ak h
  cases h
  rw[eq_of_beq h1];rfl
 ·obtain⟨h1,h⟩:=Ak h
  obtain⟨h2,h⟩:=Ak h
  cases h
  rw[eq_of_beq h1,Nat.eq_of_beq_eq_true h2];rfl
 ·cases h;rfl
 ·obtain⟨h1,h⟩:=Ak h
  obtain⟨h2,h⟩:=Ak h
  cases h
  rw[Id.beq_iff.1 h1,Nat.eq_of_beq_eq_true h2];rfl
 ·obtain⟨h1,h⟩:=Ak h
  obtain⟨h2,h⟩:=Ak h
  cases h
  rw[Nat.eq_of_beq_eq_true h1,KZ h2];rfl
 ·obtain⟨h1,h⟩:=Ak h
  cases h
  rw[WI h1];rfl
 ·obtain⟨h1,h⟩:=Ak h
  obtain⟨h2,h⟩:=Ak h
  cases h
  rw[eq_of_beq h1,Nat.eq_of_beq_eq_true h2];rfl
 ·cases h;rfl
 ·cases h
def QB:List Sk→List CV→Option (List Lf)
 | [],[]=>some []
 | s::ss,c::cs=>(match Zi s c with
  | some l=>(match QB ss cs with
   | some m=>some (l++m)
   | none=>none)
  | none=>none)
 | _,_=>none
def QC:List Sk→List Lf→Option (List CV×List Lf)
 | [],r=>some ([],r)
 | s::ss,r=>(match jF s r with
  | some (c,r)=>(match QC ss r with
   | some (cs,r)=>some (c::cs,r)
   | none=>none)
  | none=>none)
theorem IE:∀{s:List Sk}{c:List CV}{l:List Lf},QB s c=some l→∀rest,QC s (l++rest)=some (c,rest)
 | [],[],l,h,rest=>by cases h;rfl
 | s::ss,c::cs,l,h,rest=>by
  unfold QB at h
  split at h
  ·rename_i a ha
   split at h
   ·rename_i b hb
    cases h
    unfold QC
    rw[List.append_assoc,Rr ha]
    simp only[]
    rw[IE hb]
   ·cases h
  ·cases h
 | [],_::_,_,h,_=>by cases h
 | _::_,[],_,h,_=>by cases h
def Zj:List CV→Option (List D)
 | []=>some []
 | .d x::r=>(match Zj r with
  | some l=>some (x::l)
  | none=>none)
 | _::_=>none
theorem Oh:∀l:List D,Zj (l.map CV.d)=some l
 | []=>rfl
 | x::l=>by show (match Zj (l.map CV.d)with | some l=>some (x::l) | none=>none)=_;rw[Oh l]
def dN:KY→AV→Option (List Lf)
 | .one s,.v (.d (.agg _))=>none
 | .one s,.v (.d x)=>Zi s (.d x)
 | .one s,.v (.c (.d _))=>none
 | .one s,.v (.c x)=>Zi s x
 | .agg ss,.v (.d (.agg cs))=>QB ss (cs.map CV.d)
 | .mix ss,.v (.agg cs)=>QB ss cs
 | _,_=>none
def VL:KY→List Lf→Option (AV×List Lf)
 | .one s,r=>(match jF s r with
  | some (.d x,r)=>some (.v (.d x),r)
  | some (c,r)=>some (.v (.c c),r)
  | none=>none)
 | .agg ss,r=>(match QC ss r with
  | some (cs,r)=>(match Zj cs with
   | some ds=>some (.v (.d (.agg ds)),r)
   | none=>none)
  | none=>none)
 | .mix ss,r=>(match QC ss r with
  | some (cs,r)=>some (.v (.agg cs),r)
  | none=>none)
theorem Tt {s:KY}{c:AV}{l:List Lf}(h:dN s c=some l) (rest:List Lf):VL s (l++rest)=some (c,rest):=by
 unfold dN at h
 split at h
 ·cases h
 ·unfold VL;simp only[];rw[Rr h]
 ·cases h
 ·rename_i x hx
  unfold VL
  simp only[]
  rw[Rr h]
  cases x<;>first | rfl | exact absurd rfl (hx _)
 ·unfold VL;simp only[];rw[IE h];simp only[];rw[Oh]
 ·unfold VL;simp only[];rw[IE h]
 ·cases h
end
end Go.AM
