/- Part of a proof. No condition. (Part 5.) -/
import Derived.Test.YtjmofeakajdbiaaGreatDoorJoiD
set_option linter.unusedVariables false
set_option linter.unusedSimpArgs false
set_option maxRecDepth 100000
set_option maxHeartbeats 40000000
set_option linter.unusedVariables false
noncomputable section
namespace Go.Proofs.YtjmofeakajdbiaaGreatDoor
open Go Go.AM
mutual
def F127:Nat->Int->BA->BA->LD->Int->BA->LD->Int->BA->LD->LD->LD->LD->LD->Int->Int->Option (Bool×Int)
 | 0,_,_,_,_,_,_,_,_,_,_,_,_,_,_,_,_=>none
 | n+1,z1,s2,s3,l4,z5,s6,l7,z8,s9,l10,l11,l12,l13,l14,z15,z16=>
  letF (IntKind.wrap .i64 (z16 - 1)) fun z17=>bO1 (F77 n z1 s2 s3 l4 z5 s6 l7 z8 s9 l10 l11 l12 l13 l14 z15 z17) fun b18=>some (b18,z16)
def L75x1_1:Nat->LD->Int->Int->Int->Option (Bool×Int)
 | 0,_,_,_,_=>none
 | n+1,l1,z2,z4,z5=>
  lenF l1 fun z6=>(if z4<z6 then (if z4<z2 then L75x1_2 n l1 z2 z4 z5 true else L75x1_2 n l1 z2 z4 z5 false)else L75x1_2 n l1 z2 z4 z5 false)
def L75x1_2:Nat->LD->Int->Int->Int->Bool->Option (Bool×Int)
 | 0,_,_,_,_,_=>none
 | n+1,l1,z2,z4,z5,b7=>
  (if b7=true then getF l1 z4 fun x8=>ds_t50 x8 fun z9 s10 s11 l12 z13 s14 l15 z16 s17 l18 l19 l20 l21 l22 z23=>bO2 (F127 n z9 s10 s11 l12 z13 s14 l15 z16 s17 l18 l19 l20 l21 l22 z23 z5) fun b24 z25=>letB (!b24) fun b26=>(if b26=true then some (false,z25)else letF (IntKind.wrap .i64 (z4+1)) fun z27=>L75x1_1 n l1 z2 z27 z25)else lenF l1 fun z28=>(if z28<=z2 then some (true,z5)else some (false,z5)))
def F75x1:Nat->LD->Int->Int->Option (Bool×Int)
 | 0,_,_,_=>none
 | n+1,l1,z2,z3=>
  L75x1_1 n l1 z2 (0:Int) z3
def F130:Nat->BA->BA->LD->Int->Option (Bool×Int)
 | 0,_,_,_,_=>none
 | n+1,s1,s2,l3,z4=>
  bO1 (F73 n s1) fun b5=>(if b5=true then (if s2=ByteArray.empty then lenF l3 fun z6=>bO2 (F75x1 n l3 z6 z4) fun b7 z8=>some (b7,z8)else bO1 (F74 n s2) fun b9=>(if b9=true then lenF l3 fun z10=>bO2 (F75x1 n l3 z10 z4) fun b11 z12=>some (b11,z12)else some (false,z4)))else some (false,z4))
def L129_1:Nat->LD->Int->Int->Int->Option (Bool×Int)
 | 0,_,_,_,_=>none
 | n+1,l1,z2,z4,z5=>
  lenF l1 fun z6=>(if z4<z6 then (if z4<z2 then L129_2 n l1 z2 z4 z5 true else L129_2 n l1 z2 z4 z5 false)else L129_2 n l1 z2 z4 z5 false)
def L129_2:Nat->LD->Int->Int->Int->Bool->Option (Bool×Int)
 | 0,_,_,_,_,_=>none
 | n+1,l1,z2,z4,z5,b7=>
  (if b7=true then getF l1 z4 fun x8=>ds_t95 x8 fun s9 s10 l11=>bO2 (F130 n s9 s10 l11 z5) fun b12 z13=>letB (!b12) fun b14=>(if b14=true then some (false,z13)else letF (IntKind.wrap .i64 (z4+1)) fun z15=>L129_1 n l1 z2 z15 z13)else lenF l1 fun z16=>(if z16<=z2 then some (true,z5)else some (false,z5)))
def F129:Nat->LD->Int->Int->Option (Bool×Int)
 | 0,_,_,_=>none
 | n+1,l1,z2,z3=>
  L129_1 n l1 z2 (0:Int) z3
def L77_1:Nat->Int->BA->LD->BA->LD->LD->LD->LD->LD->Int->Int->Int->Bool->Bool->Bool->Bool->Bool->Option (Bool)
 | 0,_,_,_,_,_,_,_,_,_,_,_,_,_,_,_,_,_=>none
 | n+1,z5,s6,l7,s9,l10,l11,l12,l13,l14,z16,z17,z18,b19,b20,b21,b22,b46=>
  (if b46=true then some false else letF (IntKind.wrap .i64 (z16 - 1)) fun z47=>bO1 (F55 n z5 s6 l7 z47) fun b48=>letB (!(false==b48)) fun b49=>(if b49=true then L77_2 n l11 l12 l13 l14 z16 z17 z18 b19 b20 b21 b22 true else bO1 (F72 n z5 s6 l7) fun b50=>letB (!b50) fun b51=>(if b51=true then L77_2 n l11 l12 l13 l14 z16 z17 z18 b19 b20 b21 b22 true else bO1 (F52 n s9 l10) fun b52=>letB (!(b19==b52)) fun b53=>(if b53=true then L77_2 n l11 l12 l13 l14 z16 z17 z18 b19 b20 b21 b22 true else letB (!b19) fun b54=>(if b54=true then bO1 (F126 n s9 l10) fun b55=>letB (!b55) fun b56=>L77_2 n l11 l12 l13 l14 z16 z17 z18 b19 b20 b21 b22 b56 else L77_2 n l11 l12 l13 l14 z16 z17 z18 b19 b20 b21 b22 false)))))
def L77_2:Nat->LD->LD->LD->LD->Int->Int->Int->Bool->Bool->Bool->Bool->Bool->Option (Bool)
 | 0,_,_,_,_,_,_,_,_,_,_,_,_=>none
 | n+1,l11,l12,l13,l14,z16,z17,z18,b19,b20,b21,b22,b57=>
  (if b57=true then some false else letB (!b20) fun b58=>(if b58=true then lenF l12 fun z59=>(if (0:Int)<z59 then L77_3 n l11 l12 l13 l14 z16 z17 z18 b19 b20 b21 b22 true else letB (!b21) fun b60=>(if b60=true then lenF l13 fun z61=>(if (0:Int)<z61 then L77_3 n l11 l12 l13 l14 z16 z17 z18 b19 b20 b21 b22 true else lenF l14 fun z62=>(if (0:Int)<z62 then L77_3 n l11 l12 l13 l14 z16 z17 z18 b19 b20 b21 b22 true else L77_3 n l11 l12 l13 l14 z16 z17 z18 b19 b20 b21 b22 false))else lenF l14 fun z63=>(if (0:Int)<z63 then L77_3 n l11 l12 l13 l14 z16 z17 z18 b19 b20 b21 b22 true else L77_3 n l11 l12 l13 l14 z16 z17 z18 b19 b20 b21 b22 false)))else letB (!b21) fun b64=>(if b64=true then lenF l13 fun z65=>(if (0:Int)<z65 then L77_3 n l11 l12 l13 l14 z16 z17 z18 b19 b20 b21 b22 true else lenF l14 fun z66=>(if (0:Int)<z66 then L77_3 n l11 l12 l13 l14 z16 z17 z18 b19 b20 b21 b22 true else L77_3 n l11 l12 l13 l14 z16 z17 z18 b19 b20 b21 b22 false))else lenF l14 fun z67=>(if (0:Int)<z67 then L77_3 n l11 l12 l13 l14 z16 z17 z18 b19 b20 b21 b22 true else L77_3 n l11 l12 l13 l14 z16 z17 z18 b19 b20 b21 b22 false))))
def L77_3:Nat->LD->LD->LD->LD->Int->Int->Int->Bool->Bool->Bool->Bool->Bool->Option (Bool)
 | 0,_,_,_,_,_,_,_,_,_,_,_,_=>none
 | n+1,l11,l12,l13,l14,z16,z17,z18,b19,b20,b21,b22,b68=>
  (if b68=true then some false else bO10 (F98x1 n l11 (6:Int) z17 z18 false b19 b20 b21 false b22 z16) fun b69 z70 z71 b72 b73 b74 b75 b76 b77 z78=>(if b69=true then lenF l12 fun z79=>bO2 (F75x1 n l12 z79 z78) fun b80 z81=>(if b80=true then lenF l13 fun z82=>bO2 (F75x1 n l13 z82 z81) fun b83 z84=>(if b83=true then bO2 (F129 n l14 (6:Int) z84) fun b85 z86=>some b85 else some false)else some false)else some false))
def L77_4:Nat->Int->BA->LD->BA->LD->LD->LD->LD->LD->Int->Int->Bool->Bool->Bool->Bool->Option (Bool)
 | 0,_,_,_,_,_,_,_,_,_,_,_,_,_,_,_=>none
 | n+1,z5,s6,l7,s9,l10,l11,l12,l13,l14,z16,z24,b25,b26,b27,b96=>
  (if b96=true then some false else letF (IntKind.wrap .i64 (z16 - 1)) fun z97=>bO1 (F55 n z5 s6 l7 z97) fun b98=>letB (!(false==b98)) fun b99=>(if b99=true then L77_5 n l11 l12 l13 l14 z16 z24 b25 b26 b27 true else bO1 (F72 n z5 s6 l7) fun b100=>letB (!b100) fun b101=>(if b101=true then L77_5 n l11 l12 l13 l14 z16 z24 b25 b26 b27 true else bO1 (F52 n s9 l10) fun b102=>letB (!(b25==b102)) fun b103=>(if b103=true then L77_5 n l11 l12 l13 l14 z16 z24 b25 b26 b27 true else letB (!b25) fun b104=>(if b104=true then bO1 (F126 n s9 l10) fun b105=>letB (!b105) fun b106=>L77_5 n l11 l12 l13 l14 z16 z24 b25 b26 b27 b106 else L77_5 n l11 l12 l13 l14 z16 z24 b25 b26 b27 false)))))
def L77_5:Nat->LD->LD->LD->LD->Int->Int->Bool->Bool->Bool->Bool->Option (Bool)
 | 0,_,_,_,_,_,_,_,_,_,_=>none
 | n+1,l11,l12,l13,l14,z16,z24,b25,b26,b27,b107=>
  (if b107=true then some false else letB (!b26) fun b108=>(if b108=true then lenF l12 fun z109=>(if (0:Int)<z109 then L77_6 n l11 l12 l13 l14 z16 z24 b25 b26 b27 true else lenF l13 fun z110=>(if (0:Int)<z110 then L77_6 n l11 l12 l13 l14 z16 z24 b25 b26 b27 true else lenF l14 fun z111=>(if (0:Int)<z111 then L77_6 n l11 l12 l13 l14 z16 z24 b25 b26 b27 true else L77_6 n l11 l12 l13 l14 z16 z24 b25 b26 b27 false)))else lenF l13 fun z112=>(if (0:Int)<z112 then L77_6 n l11 l12 l13 l14 z16 z24 b25 b26 b27 true else lenF l14 fun z113=>(if (0:Int)<z113 then L77_6 n l11 l12 l13 l14 z16 z24 b25 b26 b27 true else L77_6 n l11 l12 l13 l14 z16 z24 b25 b26 b27 false))))
def L77_6:Nat->LD->LD->LD->LD->Int->Int->Bool->Bool->Bool->Bool->Option (Bool)
 | 0,_,_,_,_,_,_,_,_,_,_=>none
 | n+1,l11,l12,l13,l14,z16,z24,b25,b26,b27,b114=>
  (if b114=true then some false else bO10 (F98x2 n l11 (6:Int) (0:Int) z24 false b25 b26 false false b27 z16) fun b115 z116 z117 b118 b119 b120 b121 b122 b123 z124=>(if b115=true then lenF l12 fun z125=>bO2 (F75x1 n l12 z125 z124) fun b126 z127=>(if b126=true then lenF l13 fun z128=>bO2 (F75x1 n l13 z128 z127) fun b129 z130=>(if b129=true then bO2 (F129 n l14 (6:Int) z130) fun b131 z132=>some b131 else some false)else some false)else some false))
def L77_7:Nat->Int->BA->LD->BA->LD->LD->LD->LD->LD->Int->Bool->Option (Bool)
 | 0,_,_,_,_,_,_,_,_,_,_,_=>none
 | n+1,z5,s6,l7,s9,l10,l11,l12,l13,l14,z16,b142=>
  (if b142=true then some false else letF (IntKind.wrap .i64 (z16 - 1)) fun z143=>bO1 (F55 n z5 s6 l7 z143) fun b144=>letB (!(false==b144)) fun b145=>(if b145=true then L77_8 n l11 l12 l13 l14 z16 true else bO1 (F72 n z5 s6 l7) fun b146=>letB (!b146) fun b147=>(if b147=true then L77_8 n l11 l12 l13 l14 z16 true else bO1 (F52 n s9 l10) fun b148=>letB (!(false==b148)) fun b149=>(if b149=true then L77_8 n l11 l12 l13 l14 z16 true else bO1 (F126 n s9 l10) fun b150=>letB (!b150) fun b151=>L77_8 n l11 l12 l13 l14 z16 b151))))
def L77_8:Nat->LD->LD->LD->LD->Int->Bool->Option (Bool)
 | 0,_,_,_,_,_,_=>none
 | n+1,l11,l12,l13,l14,z16,b152=>
  (if b152=true then some false else lenF l12 fun z153=>(if (0:Int)<z153 then L77_9 n l11 l12 l13 l14 z16 true else lenF l13 fun z154=>(if (0:Int)<z154 then L77_9 n l11 l12 l13 l14 z16 true else lenF l14 fun z155=>(if (0:Int)<z155 then L77_9 n l11 l12 l13 l14 z16 true else L77_9 n l11 l12 l13 l14 z16 false))))
def L77_9:Nat->LD->LD->LD->LD->Int->Bool->Option (Bool)
 | 0,_,_,_,_,_,_=>none
 | n+1,l11,l12,l13,l14,z16,b156=>
  (if b156=true then some false else bO10 (F98x3 n l11 (6:Int) (6:Int) (1:Int) false false false false false false z16) fun b157 z158 z159 b160 b161 b162 b163 b164 b165 z166=>(if b157=true then lenF l12 fun z167=>bO2 (F75x1 n l12 z167 z166) fun b168 z169=>(if b168=true then lenF l13 fun z170=>bO2 (F75x1 n l13 z170 z169) fun b171 z172=>(if b171=true then bO2 (F129 n l14 (6:Int) z172) fun b173 z174=>some b173 else some false)else some false)else some false))
def L77_10:Nat->Int->BA->LD->BA->LD->LD->LD->LD->LD->Int->Bool->Option (Bool)
 | 0,_,_,_,_,_,_,_,_,_,_,_=>none
 | n+1,z5,s6,l7,s9,l10,l11,l12,l13,l14,z16,b184=>
  (if b184=true then some false else letF (IntKind.wrap .i64 (z16 - 1)) fun z185=>bO1 (F55 n z5 s6 l7 z185) fun b186=>letB (!(false==b186)) fun b187=>(if b187=true then L77_11 n l11 l12 l13 l14 z16 true else bO1 (F72 n z5 s6 l7) fun b188=>letB (!b188) fun b189=>(if b189=true then L77_11 n l11 l12 l13 l14 z16 true else bO1 (F52 n s9 l10) fun b190=>letB (!(false==b190)) fun b191=>(if b191=true then L77_11 n l11 l12 l13 l14 z16 true else bO1 (F126 n s9 l10) fun b192=>letB (!b192) fun b193=>L77_11 n l11 l12 l13 l14 z16 b193))))
def L77_11:Nat->LD->LD->LD->LD->Int->Bool->Option (Bool)
 | 0,_,_,_,_,_,_=>none
 | n+1,l11,l12,l13,l14,z16,b194=>
  (if b194=true then some false else lenF l12 fun z195=>(if (0:Int)<z195 then L77_12 n l11 l12 l13 l14 z16 true else lenF l13 fun z196=>(if (0:Int)<z196 then L77_12 n l11 l12 l13 l14 z16 true else L77_12 n l11 l12 l13 l14 z16 false)))
def L77_12:Nat->LD->LD->LD->LD->Int->Bool->Option (Bool)
 | 0,_,_,_,_,_,_=>none
 | n+1,l11,l12,l13,l14,z16,b197=>
  (if b197=true then some false else bO10 (F98x4 n l11 (6:Int) (0:Int) (0:Int) false false false false true false z16) fun b198 z199 z200 b201 b202 b203 b204 b205 b206 z207=>(if b198=true then lenF l12 fun z208=>bO2 (F75x1 n l12 z208 z207) fun b209 z210=>(if b209=true then lenF l13 fun z211=>bO2 (F75x1 n l13 z211 z210) fun b212 z213=>(if b212=true then bO2 (F129 n l14 (6:Int) z213) fun b214 z215=>some b214 else some false)else some false)else some false))
def L77_13:Nat->Int->BA->LD->BA->LD->LD->LD->LD->LD->Int->Bool->Option (Bool)
 | 0,_,_,_,_,_,_,_,_,_,_,_=>none
 | n+1,z5,s6,l7,s9,l10,l11,l12,l13,l14,z16,b225=>
  (if b225=true then some false else letF (IntKind.wrap .i64 (z16 - 1)) fun z226=>bO1 (F55 n z5 s6 l7 z226) fun b227=>letB (!(true==b227)) fun b228=>(if b228=true then L77_14 n l11 l12 l13 l14 z16 true else bO1 (F52 n s9 l10) fun b229=>letB (!(false==b229)) fun b230=>(if b230=true then L77_14 n l11 l12 l13 l14 z16 true else bO1 (F126 n s9 l10) fun b231=>letB (!b231) fun b232=>L77_14 n l11 l12 l13 l14 z16 b232)))
def L77_14:Nat->LD->LD->LD->LD->Int->Bool->Option (Bool)
 | 0,_,_,_,_,_,_=>none
 | n+1,l11,l12,l13,l14,z16,b233=>
  (if b233=true then some false else lenF l12 fun z234=>(if (0:Int)<z234 then L77_15 n l11 l12 l13 l14 z16 true else lenF l13 fun z235=>(if (0:Int)<z235 then L77_15 n l11 l12 l13 l14 z16 true else lenF l14 fun z236=>(if (0:Int)<z236 then L77_15 n l11 l12 l13 l14 z16 true else L77_15 n l11 l12 l13 l14 z16 false))))
def L77_15:Nat->LD->LD->LD->LD->Int->Bool->Option (Bool)
 | 0,_,_,_,_,_,_=>none
 | n+1,l11,l12,l13,l14,z16,b237=>
  (if b237=true then some false else bO10 (F98x5 n l11 (6:Int) (0:Int) (0:Int) true false false false false false z16) fun b238 z239 z240 b241 b242 b243 b244 b245 b246 z247=>(if b238=true then lenF l12 fun z248=>bO2 (F75x1 n l12 z248 z247) fun b249 z250=>(if b249=true then lenF l13 fun z251=>bO2 (F75x1 n l13 z251 z250) fun b252 z253=>(if b252=true then bO2 (F129 n l14 (6:Int) z253) fun b254 z255=>some b254 else some false)else some false)else some false))
def F77:Nat->Int->BA->BA->LD->Int->BA->LD->Int->BA->LD->LD->LD->LD->LD->Int->Int->Option (Bool)
 | 0,_,_,_,_,_,_,_,_,_,_,_,_,_,_,_,_=>none
 | n+1,z1,s2,s3,l4,z5,s6,l7,z8,s9,l10,l11,l12,l13,l14,z15,z16=>
  bS (F124 n z1 s2 s3 l4 z5 s6 l7 z8 s9 l10 l11 l12 l13 l14 z15) (fun p28=>bO7 (some p28) fun z17 z18 b19 b20 b21 b22 b23=>(if z16<(1:Int)then L77_1 n z5 s6 l7 s9 l10 l11 l12 l13 l14 z16 z17 z18 b19 b20 b21 b22 true else letB (!b23) fun b36=>(if b36=true then L77_1 n z5 s6 l7 s9 l10 l11 l12 l13 l14 z16 z17 z18 b19 b20 b21 b22 true else bO1 (F125 n z1 s2 s3 l4 z5 s6 l7 z8 s9 l10 l11 l12 l13 l14 z15) fun b37=>letB (!b37) fun b38=>(if b38=true then L77_1 n z5 s6 l7 s9 l10 l11 l12 l13 l14 z16 z17 z18 b19 b20 b21 b22 true else bO1 (F145 n s2) fun b39=>letB (!b39) fun b40=>(if b40=true then L77_1 n z5 s6 l7 s9 l10 l11 l12 l13 l14 z16 z17 z18 b19 b20 b21 b22 true else bO1 (F145 n s3) fun b41=>letB (!b41) fun b42=>(if b42=true then L77_1 n z5 s6 l7 s9 l10 l11 l12 l13 l14 z16 z17 z18 b19 b20 b21 b22 true else lenF l11 fun z43=>(if z43=z18 then bO1 (F93x1 n l4 z17) fun b44=>letB (!b44) fun b45=>L77_1 n z5 s6 l7 s9 l10 l11 l12 l13 l14 z16 z17 z18 b19 b20 b21 b22 b45 else L77_1 n z5 s6 l7 s9 l10 l11 l12 l13 l14 z16 z17 z18 b19 b20 b21 b22 true))))))) (fun q29=>bS (some q29) (fun p30=>bO4 (some p30) fun z24 b25 b26 b27=>(if z16<(1:Int)then L77_4 n z5 s6 l7 s9 l10 l11 l12 l13 l14 z16 z24 b25 b26 b27 true else bO1 (F125 n z1 s2 s3 l4 z5 s6 l7 z8 s9 l10 l11 l12 l13 l14 z15) fun b87=>letB (!b87) fun b88=>(if b88=true then L77_4 n z5 s6 l7 s9 l10 l11 l12 l13 l14 z16 z24 b25 b26 b27 true else bO1 (F74 n s2) fun b89=>letB (!b89) fun b90=>(if b90=true then L77_4 n z5 s6 l7 s9 l10 l11 l12 l13 l14 z16 z24 b25 b26 b27 true else bO1 (F145 n s3) fun b91=>letB (!b91) fun b92=>(if b92=true then L77_4 n z5 s6 l7 s9 l10 l11 l12 l13 l14 z16 z24 b25 b26 b27 true else lenF l11 fun z93=>(if z93=z24 then bO1 (F93x1 n l4 (0:Int)) fun b94=>letB (!b94) fun b95=>L77_4 n z5 s6 l7 s9 l10 l11 l12 l13 l14 z16 z24 b25 b26 b27 b95 else L77_4 n z5 s6 l7 s9 l10 l11 l12 l13 l14 z16 z24 b25 b26 b27 true)))))) (fun q31=>bS (some q31) (fun _=>(if z16<(1:Int)then L77_7 n z5 s6 l7 s9 l10 l11 l12 l13 l14 z16 true else bO1 (F125 n z1 s2 s3 l4 z5 s6 l7 z8 s9 l10 l11 l12 l13 l14 z15) fun b133=>letB (!b133) fun b134=>(if b134=true then L77_7 n z5 s6 l7 s9 l10 l11 l12 l13 l14 z16 true else bO1 (F73 n s2) fun b135=>letB (!b135) fun b136=>(if b136=true then L77_7 n z5 s6 l7 s9 l10 l11 l12 l13 l14 z16 true else bO1 (F145 n s3) fun b137=>letB (!b137) fun b138=>(if b138=true then L77_7 n z5 s6 l7 s9 l10 l11 l12 l13 l14 z16 true else lenF l11 fun z139=>(if z139=(1:Int)then bO1 (F93x1 n l4 (6:Int)) fun b140=>letB (!b140) fun b141=>L77_7 n z5 s6 l7 s9 l10 l11 l12 l13 l14 z16 b141 else L77_7 n z5 s6 l7 s9 l10 l11 l12 l13 l14 z16 true)))))) (fun q33=>bS (some q33) (fun _=>(if z16<(1:Int)then L77_10 n z5 s6 l7 s9 l10 l11 l12 l13 l14 z16 true else bO1 (F125 n z1 s2 s3 l4 z5 s6 l7 z8 s9 l10 l11 l12 l13 l14 z15) fun b175=>letB (!b175) fun b176=>(if b176=true then L77_10 n z5 s6 l7 s9 l10 l11 l12 l13 l14 z16 true else bO1 (F74 n s2) fun b177=>letB (!b177) fun b178=>(if b178=true then L77_10 n z5 s6 l7 s9 l10 l11 l12 l13 l14 z16 true else bO1 (F73 n s3) fun b179=>letB (!b179) fun b180=>(if b180=true then L77_10 n z5 s6 l7 s9 l10 l11 l12 l13 l14 z16 true else lenF l11 fun z181=>(if z181=(0:Int)then bO1 (F93x1 n l4 (0:Int)) fun b182=>letB (!b182) fun b183=>L77_10 n z5 s6 l7 s9 l10 l11 l12 l13 l14 z16 b183 else L77_10 n z5 s6 l7 s9 l10 l11 l12 l13 l14 z16 true)))))) (fun _=>(if z16<(1:Int)then L77_13 n z5 s6 l7 s9 l10 l11 l12 l13 l14 z16 true else bO1 (F125 n z1 s2 s3 l4 z5 s6 l7 z8 s9 l10 l11 l12 l13 l14 z15) fun b216=>letB (!b216) fun b217=>(if b217=true then L77_13 n z5 s6 l7 s9 l10 l11 l12 l13 l14 z16 true else bO1 (F74 n s2) fun b218=>letB (!b218) fun b219=>(if b219=true then L77_13 n z5 s6 l7 s9 l10 l11 l12 l13 l14 z16 true else bO1 (F74 n s3) fun b220=>letB (!b220) fun b221=>(if b221=true then L77_13 n z5 s6 l7 s9 l10 l11 l12 l13 l14 z16 true else lenF l11 fun z222=>(if z222=(0:Int)then bO1 (F93x1 n l4 (0:Int)) fun b223=>letB (!b223) fun b224=>L77_13 n z5 s6 l7 s9 l10 l11 l12 l13 l14 z16 b224 else L77_13 n z5 s6 l7 s9 l10 l11 l12 l13 l14 z16 true)))))))))
end
theorem G127 (n:Nat):(∀⦃z1 s2 s3 l4 z5 s6 l7 z8 s9 l10 l11 l12 l13 l14 z15 z16 r1 r2⦄,F127 n z1 s2 s3 l4 z5 s6 l7 z8 s9 l10 l11 l12 l13 l14 z15 z16=some (r1,r2)->
    Trip Tryz.prog inv 127 [.d (.agg [.int .u8 z1,.str s2,.str s3,.list false 1 l4,.int .u8 z5,.str s6,.list true 3 l7,.int .i64 z8,.str s9,.list false 1 l10,.list true 8 l11,.list true 15 l12,.list true 15 l13,.list true 3 l14,.int .i64 z15]),.c (.ptr (.ext 0) 0)] [.cells [.d (.int .i64 z16)]] (.v (.d (.bool r1))) [.cells [.d (.int .i64 r2)]] [])/\
    (∀⦃l1 z2 z3 r1 r2⦄,F75x1 n l1 z2 z3=some (r1,r2)->
    Trip Tryz.prog inv 75 [.d (.list true 15 l1),.d (.int .i64 z2),.c (.fn 127 [.ext 0])] [.cells [.d (.int .i64 z3)]] (.v (.d (.bool r1))) [.cells [.d (.int .i64 r2)]] [])/\
    (∀⦃s1 s2 l3 z4 r1 r2⦄,F130 n s1 s2 l3 z4=some (r1,r2)->
    Trip Tryz.prog inv 130 [.d (.agg [.str s1,.str s2,.list true 15 l3]),.c (.ptr (.ext 0) 0)] [.cells [.fn 127 [.ext 1]],.cells [.d (.int .i64 z4)]] (.v (.d (.bool r1))) [.cells [.fn 127 [.ext 1]],.cells [.d (.int .i64 r2)]] [])/\
    (∀⦃l1 z2 z3 r1 r2⦄,F129 n l1 z2 z3=some (r1,r2)->
    Trip Tryz.prog inv 129 [.d (.list true 3 l1),.d (.int .i64 z2),.c (.fn 130 [.ext 0])] [.cells [.fn 127 [.ext 1]],.cells [.d (.int .i64 z3)]] (.v (.d (.bool r1))) [.cells [.fn 127 [.ext 1]],.cells [.d (.int .i64 r2)]] [])/\
    (∀⦃z1 s2 s3 l4 z5 s6 l7 z8 s9 l10 l11 l12 l13 l14 z15 z16 r1⦄,F77 n z1 s2 s3 l4 z5 s6 l7 z8 s9 l10 l11 l12 l13 l14 z15 z16=some r1->
    Trip Tryz.prog inv 77 [.d (.agg [.int .u8 z1,.str s2,.str s3,.list false 1 l4,.int .u8 z5,.str s6,.list true 3 l7,.int .i64 z8,.str s9,.list false 1 l10,.list true 8 l11,.list true 15 l12,.list true 15 l13,.list true 3 l14,.int .i64 z15]),.d (.int .i64 z16)] [] (.v (.d (.bool r1))) [] []):=by
 induction n using Nat.strongRecOn with | _ n ih=>
 obtain _ | n:=n
 ·refine⟨?_,?_,?_,?_,?_⟩
  ·intro z1 s2 s3 l4 z5 s6 l7 z8 s9 l10 l11 l12 l13 l14 z15 z16 r1 r2 h
   cases (show (none:Option _)=some _ from h)
  ·intro l1 z2 z3 r1 r2 h
   cases (show (none:Option _)=some _ from h)
  ·intro s1 s2 l3 z4 r1 r2 h
   cases (show (none:Option _)=some _ from h)
  ·intro l1 z2 z3 r1 r2 h
   cases (show (none:Option _)=some _ from h)
  intro z1 s2 s3 l4 z5 s6 l7 z8 s9 l10 l11 l12 l13 l14 z15 z16 r1 h
  cases (show (none:Option _)=some _ from h)
 refine⟨?_,?_,?_,?_,?_⟩
 ·intro z1 s2 s3 l4 z5 s6 l7 z8 s9 l10 l11 l12 l13 l14 z15 z16 r1 r2 h
  rw[F127]at h
  refine Trip.of tab_ok tab_one fol Tryz.func127 rfl (by kernel_rfl) rfl rfl rfl (fun M hM hI=>?_)
  try cbv
  refine seq_go ?_
  try cbv
  refine seq_go ?_
  try cbv
  replace h:=letF_inv h
  obtain⟨z17,hz,h⟩:=h
  refine⟨z17,hz,?_⟩
  clear hz
  try cbv
  replace h:=bO1_inv h
  obtain⟨b18,hr,h⟩:=h
  refine call_go rfl rfl ?_
  try cbv
  refine call_pure hM hI ((ih _ (by omega)).2.2.2.2 hr) rfl ?_
  clear hr
  try cbv
  obtain⟨rfl,rfl⟩:=inj2 h
  refine fin_go ?_
  try cbv
  exact⟨[],rfl,rfl,⟨rfl,trivial⟩,trivial,trivial⟩
 ·intro l1 z2 z3 r1 r2 h
  rw[F75x1]at h
  refine Trip.of tab_ok tab_one fol Tryz.func75 rfl (by kernel_rfl) rfl rfl rfl (fun M hM hI=>?_)
  try cbv
  refine seq_go ?_
  try cbv
  refine seq_go ?_
  try cbv
  refine seq_go ?_
  try cbv
  refine loop_inv (T:=Nat×Int×Int) [0,1,2,6,7] [.ext 0] 64 (fun t=>⟨[sT 0 15 l1,sI 1 z2,(2,.v (.c (.fn 127 [.ext 0]))),sB 6 false,sI 7 t.2.1],[(.ext 0,.cells [.d (.int .i64 t.2.2)])],64⟩)
    (fun t=>t.1<=n/\L75x1_1 t.1 l1 z2 t.2.1 t.2.2=some (r1,r2)) (fun t=>t.1) (n,((0:Int),z3)) ⟨Nat.le_refl _,h⟩ (by cbv) ?_
  clear h
  rintro⟨m1,z4,z5⟩ ⟨hm1,h⟩
  replace hm1:m1<=n:=hm1
  obtain _ | m1:=m1
  ·replace h:L75x1_1 0 l1 z2 z4 z5=some (r1,r2):=h
   rw[L75x1_1]at h
   cases h
  replace h:L75x1_1 (m1+1) l1 z2 z4 z5=some (r1,r2):=h
  rw[L75x1_1]at h
  try cbv
  refine seq_go ?_
  try cbv
  refine seq_join (T:=Nat×Bool) (fun t=>⟨[sT 0 15 l1,sI 1 z2,(2,.v (.c (.fn 127 [.ext 0]))),sB 6 false,sI 7 z4,sB 16 t.2],[(.ext 0,.cells [.d (.int .i64 z5)])],352⟩) (fun t=>t.1<=m1/\L75x1_2 t.1 l1 z2 z4 z5 t.2=some (r1,r2)) ?_ ?_
  ·try cbv
   replace h:=lenF_inv M h
   obtain⟨z6,hz,h⟩:=h
   refine⟨z6,hz,?_⟩
   clear hz
   try cbv
   refine splitL (fun e=>?_) (fun e=>?_)
   ·replace h:=ite_t e h
    clear e
    try cbv
    refine splitL (fun e=>?_) (fun e=>?_)
    ·replace h:=ite_t e h
     clear e
     try cbv
     exact join_next (m1,true) [0,1,2,6,7,16] [.ext 0] 352 ⟨by omega,h⟩ (by cbv)
    replace h:=ite_f (Int.not_lt.2 e) h
    clear e
    try cbv
    exact join_next (m1,false) [0,1,2,6,7,16] [.ext 0] 352 ⟨by omega,h⟩ (by cbv)
   replace h:=ite_f (Int.not_lt.2 e) h
   clear e
   try cbv
   exact join_next (m1,false) [0,1,2,6,7,16] [.ext 0] 352 ⟨by omega,h⟩ (by cbv)
  clear h
  rintro⟨m2,b7⟩ ⟨hm2,h⟩
  replace hm2:m2<=m1:=hm2
  obtain _ | m2:=m2
  ·replace h:L75x1_2 0 l1 z2 z4 z5 b7=some (r1,r2):=h
   rw[L75x1_2]at h
   cases h
  replace h:L75x1_2 (m2+1) l1 z2 z4 z5 b7=some (r1,r2):=h
  rw[L75x1_2]at h
  try cbv
  cases b7
  ·replace h:=itF h
   try cbv
   refine seq_go ?_
   try cbv
   replace h:=lenF_inv M h
   obtain⟨z28,hz,h⟩:=h
   refine⟨z28,hz,?_⟩
   clear hz
   try cbv
   refine splitLe (fun e=>?_) (fun e=>?_)
   ·replace h:=ite_t e h
    clear e
    try cbv
    obtain⟨rfl,rfl⟩:=inj2 h
    refine fin_go ?_
    try cbv
    exact⟨[],rfl,rfl,⟨rfl,trivial⟩,trivial,trivial⟩
   replace h:=ite_f (Int.not_le.2 e) h
   clear e
   try cbv
   obtain⟨rfl,rfl⟩:=inj2 h
   refine fin_go ?_
   try cbv
   exact⟨[],rfl,rfl,⟨rfl,trivial⟩,trivial,trivial⟩
  replace h:=itT h
  try cbv
  refine seq_go ?_
  try cbv
  refine seq_go ?_
  try cbv
  replace h:=getF_inv h
  obtain⟨x8,⟨hx0,hx⟩,h⟩:=h
  refine⟨x8,hx0,hx,?_⟩
  clear hx0 hx
  replace h:=ds_t50_inv h
  obtain⟨z9,s10,s11,l12,z13,s14,l15,z16,s17,l18,l19,l20,l21,l22,z23,rfl,h⟩:=h
  try cbv
  replace h:=bO2_inv h
  obtain⟨b24,z25,hr,h⟩:=h
  refine call_go rfl rfl ?_
  try cbv
  refine call_with hM hI [.ext 0] ((ih _ (by omega)).1 hr) rfl (by simp) ⟨rfl,trivial⟩ ⟨trivial,trivial⟩ (by simp) ?_
  clear hr
  try cbv
  replace h:=letB_inv h
  obtain⟨b26,hz,h⟩:=h
  refine⟨b26,not_eq' hz,?_⟩
  clear hz
  try cbv
  cases b26
  ·replace h:=itF h
   try cbv
   replace h:=letF_inv h
   obtain⟨z27,hz,h⟩:=h
   refine⟨z27,hz,?_⟩
   clear hz
   try cbv
   exact loop_next (m2,(z27,z25)) [0,1,2,6,7] [.ext 0] 64 ⟨by omega,h⟩ (Nat.lt_succ_of_le (by omega)) (by cbv)
  replace h:=itT h
  try cbv
  refine seq_go ?_
  try cbv
  obtain⟨rfl,rfl⟩:=inj2 h
  refine fin_go ?_
  try cbv
  exact⟨[],rfl,rfl,⟨rfl,trivial⟩,trivial,trivial⟩
 ·intro s1 s2 l3 z4 r1 r2 h
  rw[F130]at h
  refine Trip.of tab_ok tab_one fol Tryz.func130 rfl (by kernel_rfl) rfl rfl rfl (fun M hM hI=>?_)
  try cbv
  refine seq_go ?_
  try cbv
  refine seq_go ?_
  try cbv
  replace h:=bO1_inv h
  obtain⟨b5,hr,h⟩:=h
  refine call_go rfl rfl ?_
  try cbv
  refine call_pure hM hI (T73 _ hr) rfl ?_
  clear hr
  try cbv
  cases b5
  ·replace h:=itF h
   try cbv
   obtain⟨rfl,rfl⟩:=inj2 h
   refine fin_go ?_
   try cbv
   exact⟨[],rfl,rfl,⟨rfl,⟨rfl,trivial⟩⟩,trivial,trivial⟩
  replace h:=itT h
  try cbv
  refine splitS (fun e=>?_) (fun e=>?_)
  ·replace h:=ite_t (bytes_eq.1 e) h
   clear e
   try cbv
   replace h:=lenF_inv M h
   obtain⟨z6,hz,h⟩:=h
   refine⟨z6,hz,?_⟩
   clear hz
   try cbv
   replace h:=bO2_inv h
   obtain⟨b7,z8,hr,h⟩:=h
   refine call_go rfl rfl ?_
   try cbv
   refine call_with hM hI [.ext 1] ((ih _ (by omega)).2.1 hr) rfl (by simp) ⟨rfl,trivial⟩ ⟨trivial,trivial⟩ (by simp) ?_
   clear hr
   try cbv
   obtain⟨rfl,rfl⟩:=inj2 h
   refine fin_go ?_
   try cbv
   exact⟨[],rfl,rfl,⟨rfl,⟨rfl,trivial⟩⟩,trivial,trivial⟩
  replace h:=ite_f (bytes_ne.1 e) h
  clear e
  try cbv
  replace h:=bO1_inv h
  obtain⟨b9,hr,h⟩:=h
  refine call_go rfl rfl ?_
  try cbv
  refine call_pure hM hI (T74 _ hr) rfl ?_
  clear hr
  try cbv
  cases b9
  ·replace h:=itF h
   try cbv
   obtain⟨rfl,rfl⟩:=inj2 h
   refine fin_go ?_
   try cbv
   exact⟨[],rfl,rfl,⟨rfl,⟨rfl,trivial⟩⟩,trivial,trivial⟩
  replace h:=itT h
  try cbv
  replace h:=lenF_inv M h
  obtain⟨z10,hz,h⟩:=h
  refine⟨z10,hz,?_⟩
  clear hz
  try cbv
  replace h:=bO2_inv h
  obtain⟨b11,z12,hr,h⟩:=h
  refine call_go rfl rfl ?_
  try cbv
  refine call_with hM hI [.ext 1] ((ih _ (by omega)).2.1 hr) rfl (by simp) ⟨rfl,trivial⟩ ⟨trivial,trivial⟩ (by simp) ?_
  clear hr
  try cbv
  obtain⟨rfl,rfl⟩:=inj2 h
  refine fin_go ?_
  try cbv
  exact⟨[],rfl,rfl,⟨rfl,⟨rfl,trivial⟩⟩,trivial,trivial⟩
 ·intro l1 z2 z3 r1 r2 h
  rw[F129]at h
  refine Trip.of tab_ok tab_one fol Tryz.func129 rfl (by kernel_rfl) rfl rfl rfl (fun M hM hI=>?_)
  try cbv
  refine seq_go ?_
  try cbv
  refine seq_go ?_
  try cbv
  refine seq_go ?_
  try cbv
  refine loop_inv (T:=Nat×Int×Int) [0,1,2,6,7] [.ext 0,.ext 1] 64 (fun t=>⟨[sT 0 3 l1,sI 1 z2,(2,.v (.c (.fn 130 [.ext 0]))),sB 6 false,sI 7 t.2.1],[(.ext 0,.cells [.fn 127 [.ext 1]]),(.ext 1,.cells [.d (.int .i64 t.2.2)])],64⟩)
    (fun t=>t.1<=n/\L129_1 t.1 l1 z2 t.2.1 t.2.2=some (r1,r2)) (fun t=>t.1) (n,((0:Int),z3)) ⟨Nat.le_refl _,h⟩ (by cbv) ?_
  clear h
  rintro⟨m1,z4,z5⟩ ⟨hm1,h⟩
  replace hm1:m1<=n:=hm1
  obtain _ | m1:=m1
  ·replace h:L129_1 0 l1 z2 z4 z5=some (r1,r2):=h
   rw[L129_1]at h
   cases h
  replace h:L129_1 (m1+1) l1 z2 z4 z5=some (r1,r2):=h
  rw[L129_1]at h
  try cbv
  refine seq_go ?_
  try cbv
  refine seq_join (T:=Nat×Bool) (fun t=>⟨[sT 0 3 l1,sI 1 z2,(2,.v (.c (.fn 130 [.ext 0]))),sB 6 false,sI 7 z4,sB 16 t.2],[(.ext 0,.cells [.fn 127 [.ext 1]]),(.ext 1,.cells [.d (.int .i64 z5)])],352⟩) (fun t=>t.1<=m1/\L129_2 t.1 l1 z2 z4 z5 t.2=some (r1,r2)) ?_ ?_
  ·try cbv
   replace h:=lenF_inv M h
   obtain⟨z6,hz,h⟩:=h
   refine⟨z6,hz,?_⟩
   clear hz
   try cbv
   refine splitL (fun e=>?_) (fun e=>?_)
   ·replace h:=ite_t e h
    clear e
    try cbv
    refine splitL (fun e=>?_) (fun e=>?_)
    ·replace h:=ite_t e h
     clear e
     try cbv
     exact join_next (m1,true) [0,1,2,6,7,16] [.ext 0,.ext 1] 352 ⟨by omega,h⟩ (by cbv)
    replace h:=ite_f (Int.not_lt.2 e) h
    clear e
    try cbv
    exact join_next (m1,false) [0,1,2,6,7,16] [.ext 0,.ext 1] 352 ⟨by omega,h⟩ (by cbv)
   replace h:=ite_f (Int.not_lt.2 e) h
   clear e
   try cbv
   exact join_next (m1,false) [0,1,2,6,7,16] [.ext 0,.ext 1] 352 ⟨by omega,h⟩ (by cbv)
  clear h
  rintro⟨m2,b7⟩ ⟨hm2,h⟩
  replace hm2:m2<=m1:=hm2
  obtain _ | m2:=m2
  ·replace h:L129_2 0 l1 z2 z4 z5 b7=some (r1,r2):=h
   rw[L129_2]at h
   cases h
  replace h:L129_2 (m2+1) l1 z2 z4 z5 b7=some (r1,r2):=h
  rw[L129_2]at h
  try cbv
  cases b7
  ·replace h:=itF h
   try cbv
   refine seq_go ?_
   try cbv
   replace h:=lenF_inv M h
   obtain⟨z16,hz,h⟩:=h
   refine⟨z16,hz,?_⟩
   clear hz
   try cbv
   refine splitLe (fun e=>?_) (fun e=>?_)
   ·replace h:=ite_t e h
    clear e
    try cbv
    obtain⟨rfl,rfl⟩:=inj2 h
    refine fin_go ?_
    try cbv
    exact⟨[],rfl,rfl,⟨rfl,⟨rfl,trivial⟩⟩,trivial,trivial⟩
   replace h:=ite_f (Int.not_le.2 e) h
   clear e
   try cbv
   obtain⟨rfl,rfl⟩:=inj2 h
   refine fin_go ?_
   try cbv
   exact⟨[],rfl,rfl,⟨rfl,⟨rfl,trivial⟩⟩,trivial,trivial⟩
  replace h:=itT h
  try cbv
  refine seq_go ?_
  try cbv
  refine seq_go ?_
  try cbv
  replace h:=getF_inv h
  obtain⟨x8,⟨hx0,hx⟩,h⟩:=h
  refine⟨x8,hx0,hx,?_⟩
  clear hx0 hx
  replace h:=ds_t95_inv h
  obtain⟨s9,s10,l11,rfl,h⟩:=h
  try cbv
  replace h:=bO2_inv h
  obtain⟨b12,z13,hr,h⟩:=h
  refine call_go rfl rfl ?_
  try cbv
  refine call_with hM hI [.ext 0,.ext 1] ((ih _ (by omega)).2.2.1 hr) rfl (by simp) ⟨rfl,⟨rfl,trivial⟩⟩ ⟨trivial,⟨trivial,trivial⟩⟩ (by simp) ?_
  clear hr
  try cbv
  replace h:=letB_inv h
  obtain⟨b14,hz,h⟩:=h
  refine⟨b14,not_eq' hz,?_⟩
  clear hz
  try cbv
  cases b14
  ·replace h:=itF h
   try cbv
   replace h:=letF_inv h
   obtain⟨z15,hz,h⟩:=h
   refine⟨z15,hz,?_⟩
   clear hz
   try cbv
   exact loop_next (m2,(z15,z13)) [0,1,2,6,7] [.ext 0,.ext 1] 64 ⟨by omega,h⟩ (Nat.lt_succ_of_le (by omega)) (by cbv)
  replace h:=itT h
  try cbv
  refine seq_go ?_
  try cbv
  obtain⟨rfl,rfl⟩:=inj2 h
  refine fin_go ?_
  try cbv
  exact⟨[],rfl,rfl,⟨rfl,⟨rfl,trivial⟩⟩,trivial,trivial⟩
 intro z1 s2 s3 l4 z5 s6 l7 z8 s9 l10 l11 l12 l13 l14 z15 z16 r1 h
 rw[F77]at h
 refine Trip.of tab_ok tab_one fol Tryz.func77 rfl (by kernel_rfl) rfl rfl rfl (fun M hM hI=>?_)
 try cbv
 refine seq_go ?_
 try cbv
 refine seq_go ?_
 try cbv
 replace h:=bS_inv h
 rcases h with⟨p28,hr,h⟩ | ⟨q29,hr,h⟩
 ·replace h:=bO7_inv h
  obtain⟨z17,z18,b19,b20,b21,b22,b23,hp,h⟩:=h
  obtain rfl:=Option.some.inj hp
  clear hp
  refine call_go rfl rfl ?_
  try cbv
  refine call_pure hM hI (T124 _ hr (fun r p n=>r= .t [.agg [.d (.int .i64 z17),.d (.int .i64 z18),.d (.bool false),.d (.bool b19),.d (.bool b20),.d (.bool b21),.d (.bool false),.d (.bool b22),.fn 145 [],.fn 145 []],.d (.bool b23)]/\p=[]/\n=[]) ⟨rfl,rfl,rfl⟩:Trip _ _ _ _ _ (.t [.agg [.d (.int .i64 z17),.d (.int .i64 z18),.d (.bool false),.d (.bool b19),.d (.bool b20),.d (.bool b21),.d (.bool false),.d (.bool b22),.fn 145 [],.fn 145 []],.d (.bool b23)]) [] []) rfl ?_
  clear hr
  try cbv
  refine seq_go ?_
  try cbv
  refine seq_join (T:=Nat×Bool) (fun t=>⟨[sL 2 0,sL 3 32,sB 4 false,sL 5 256,sB 55 t.2],[(.loc 0,.cells [.d (.int .u8 z1),.d (.str s2),.d (.str s3),.d (.list false 1 l4),.d (.int .u8 z5),.d (.str s6),.d (.list true 3 l7),.d (.int .i64 z8),.d (.str s9),.d (.list false 1 l10),.d (.list true 8 l11),.d (.list true 15 l12),.d (.list true 15 l13),.d (.list true 3 l14),.d (.int .i64 z15)]),(.loc 32,.cells [.d (.int .i64 z16)]),(.loc 256,.cells [.d (.int .i64 z17),.d (.int .i64 z18),.d (.bool false),.d (.bool b19),.d (.bool b20),.d (.bool b21),.d (.bool false),.d (.bool b22),.fn 145 [],.fn 145 []])],1728⟩) (fun t=>t.1<=n/\L77_1 t.1 z5 s6 l7 s9 l10 l11 l12 l13 l14 z16 z17 z18 b19 b20 b21 b22 t.2=some r1) ?_ ?_
  ·try cbv
   refine splitL (fun e=>?_) (fun e=>?_)
   ·replace h:=ite_t e h
    clear e
    try cbv
    exact join_next (n,true) [2,3,4,5,55] [.loc 0,.loc 32,.loc 256] 1728 ⟨by omega,h⟩ (by cbv)
   replace h:=ite_f (Int.not_lt.2 e) h
   clear e
   try cbv
   replace h:=letB_inv h
   obtain⟨b36,hz,h⟩:=h
   refine⟨b36,not_eq' hz,?_⟩
   clear hz
   try cbv
   cases b36
   rotate_left
   ·replace h:=itT h
    try cbv
    exact join_next (n,true) [2,3,4,5,55] [.loc 0,.loc 32,.loc 256] 1728 ⟨by omega,h⟩ (by cbv)
   replace h:=itF h
   try cbv
   replace h:=bO1_inv h
   obtain⟨b37,hr,h⟩:=h
   refine call_go rfl rfl ?_
   try cbv
   refine call_pure hM hI (T125 _ hr) rfl ?_
   clear hr
   try cbv
   replace h:=letB_inv h
   obtain⟨b38,hz,h⟩:=h
   refine⟨b38,not_eq' hz,?_⟩
   clear hz
   try cbv
   cases b38
   rotate_left
   ·replace h:=itT h
    try cbv
    exact join_next (n,true) [2,3,4,5,55] [.loc 0,.loc 32,.loc 256] 1728 ⟨by omega,h⟩ (by cbv)
   replace h:=itF h
   try cbv
   replace h:=bO1_inv h
   obtain⟨b39,hr,h⟩:=h
   refine call_go rfl rfl ?_
   try cbv
   refine call_pure hM hI (T145 _ hr) rfl ?_
   clear hr
   try cbv
   replace h:=letB_inv h
   obtain⟨b40,hz,h⟩:=h
   refine⟨b40,not_eq' hz,?_⟩
   clear hz
   try cbv
   cases b40
   rotate_left
   ·replace h:=itT h
    try cbv
    exact join_next (n,true) [2,3,4,5,55] [.loc 0,.loc 32,.loc 256] 1728 ⟨by omega,h⟩ (by cbv)
   replace h:=itF h
   try cbv
   replace h:=bO1_inv h
   obtain⟨b41,hr,h⟩:=h
   refine call_go rfl rfl ?_
   try cbv
   refine call_pure hM hI (T145 _ hr) rfl ?_
   clear hr
   try cbv
   replace h:=letB_inv h
   obtain⟨b42,hz,h⟩:=h
   refine⟨b42,not_eq' hz,?_⟩
   clear hz
   try cbv
   cases b42
   rotate_left
   ·replace h:=itT h
    try cbv
    exact join_next (n,true) [2,3,4,5,55] [.loc 0,.loc 32,.loc 256] 1728 ⟨by omega,h⟩ (by cbv)
   replace h:=itF h
   try cbv
   replace h:=lenF_inv M h
   obtain⟨z43,hz,h⟩:=h
   refine⟨z43,hz,?_⟩
   clear hz
   try cbv
   refine splitI (fun e=>?_) (fun e=>?_)
   ·replace h:=ite_t e h
    clear e
    try cbv
    replace h:=bO1_inv h
    obtain⟨b44,hr,h⟩:=h
    refine call_go rfl rfl ?_
    try cbv
    refine call_pure hM hI (T93x1 _ hr) rfl ?_
    clear hr
    try cbv
    replace h:=letB_inv h
    obtain⟨b45,hz,h⟩:=h
    refine⟨b45,not_eq' hz,?_⟩
    clear hz
    try cbv
    exact join_next (n,b45) [2,3,4,5,55] [.loc 0,.loc 32,.loc 256] 1728 ⟨by omega,h⟩ (by cbv)
   replace h:=ite_f e h
   clear e
   try cbv
   exact join_next (n,true) [2,3,4,5,55] [.loc 0,.loc 32,.loc 256] 1728 ⟨by omega,h⟩ (by cbv)
  clear h
  rintro⟨m1,b46⟩ ⟨hm1,h⟩
  replace hm1:m1<=n:=hm1
  obtain _ | m1:=m1
  ·replace h:L77_1 0 z5 s6 l7 s9 l10 l11 l12 l13 l14 z16 z17 z18 b19 b20 b21 b22 b46=some r1:=h
   rw[L77_1]at h
   cases h
  replace h:L77_1 (m1+1) z5 s6 l7 s9 l10 l11 l12 l13 l14 z16 z17 z18 b19 b20 b21 b22 b46=some r1:=h
  rw[L77_1]at h
  try cbv
  cases b46
  rotate_left
  ·replace h:=itT h
   try cbv
   refine seq_go ?_
   try cbv
   obtain rfl:=Option.some.inj h
   refine fin_go ?_
   try cbv
   exact⟨[],by trivial⟩
  replace h:=itF h
  try cbv
  refine seq_go ?_
  try cbv
  refine seq_join (T:=Nat×Bool) (fun t=>⟨[sL 2 0,sL 3 32,sB 4 false,sL 5 256,sB 93 t.2],[(.loc 0,.cells [.d (.int .u8 z1),.d (.str s2),.d (.str s3),.d (.list false 1 l4),.d (.int .u8 z5),.d (.str s6),.d (.list true 3 l7),.d (.int .i64 z8),.d (.str s9),.d (.list false 1 l10),.d (.list true 8 l11),.d (.list true 15 l12),.d (.list true 15 l13),.d (.list true 3 l14),.d (.int .i64 z15)]),(.loc 32,.cells [.d (.int .i64 z16)]),(.loc 256,.cells [.d (.int .i64 z17),.d (.int .i64 z18),.d (.bool false),.d (.bool b19),.d (.bool b20),.d (.bool b21),.d (.bool false),.d (.bool b22),.fn 145 [],.fn 145 []])],2944⟩) (fun t=>t.1<=m1/\L77_2 t.1 l11 l12 l13 l14 z16 z17 z18 b19 b20 b21 b22 t.2=some r1) ?_ ?_
  ·try cbv
   replace h:=letF_inv h
   obtain⟨z47,hz,h⟩:=h
   refine⟨z47,hz,?_⟩
   clear hz
   try cbv
   replace h:=bO1_inv h
   obtain⟨b48,hr,h⟩:=h
   first | refine .inr (.inl ⟨[],?_⟩) | refine .inl ⟨[],?_⟩
   try cbv
   refine call_pure hM hI (T55 _ hr) rfl ?_
   clear hr
   try cbv
   replace h:=letB_inv h
   obtain⟨b49,hz,h⟩:=h
   refine⟨b49,eqv_ne hz,?_⟩
   clear hz
   try cbv
   cases b49
   rotate_left
   ·replace h:=itT h
    try cbv
    refine drawn ?_ ?_
    ·show _=true
     kernel_rfl
    try cbv
    exact join_next (m1,true) [2,3,4,5,93] [.loc 0,.loc 32,.loc 256] 2944 ⟨by omega,h⟩ (by cbv)
   replace h:=itF h
   try cbv
   refine⟨true,rfl,?_⟩
   try cbv
   replace h:=bO1_inv h
   obtain⟨b50,hr,h⟩:=h
   first | refine .inr (.inl ⟨[],?_⟩) | refine .inl ⟨[],?_⟩
   try cbv
   refine call_pure hM hI (T72 _ hr) rfl ?_
   clear hr
   try cbv
   replace h:=letB_inv h
   obtain⟨b51,hz,h⟩:=h
   refine⟨b51,not_eq' hz,?_⟩
   clear hz
   try cbv
   cases b51
   rotate_left
   ·replace h:=itT h
    try cbv
    refine drawn ?_ ?_
    ·show _=true
     kernel_rfl
    try cbv
    exact join_next (m1,true) [2,3,4,5,93] [.loc 0,.loc 32,.loc 256] 2944 ⟨by omega,h⟩ (by cbv)
   replace h:=itF h
   try cbv
   replace h:=bO1_inv h
   obtain⟨b52,hr,h⟩:=h
   first | refine .inr (.inl ⟨[],?_⟩) | refine .inl ⟨[],?_⟩
   try cbv
   refine call_pure hM hI (T52 _ hr) rfl ?_
   clear hr
   try cbv
   replace h:=letB_inv h
   obtain⟨b53,hz,h⟩:=h
   refine⟨b53,eqv_ne hz,?_⟩
   clear hz
   try cbv
   cases b53
   rotate_left
   ·replace h:=itT h
    try cbv
    refine drawn ?_ ?_
    ·show _=true
     kernel_rfl
    try cbv
    exact join_next (m1,true) [2,3,4,5,93] [.loc 0,.loc 32,.loc 256] 2944 ⟨by omega,h⟩ (by cbv)
   replace h:=itF h
   try cbv
   replace h:=letB_inv h
   obtain⟨b54,hz,h⟩:=h
   refine⟨b54,not_eq' hz,?_⟩
   clear hz
   try cbv
   cases b54
   ·replace h:=itF h
    try cbv
    refine drawn ?_ ?_
    ·show _=true
     kernel_rfl
    try cbv
    exact join_next (m1,false) [2,3,4,5,93] [.loc 0,.loc 32,.loc 256] 2944 ⟨by omega,h⟩ (by cbv)
   replace h:=itT h
   try cbv
   replace h:=bO1_inv h
   obtain⟨b55,hr,h⟩:=h
   first | refine .inr (.inl ⟨[],?_⟩) | refine .inl ⟨[],?_⟩
   try cbv
   refine call_pure hM hI (T126 _ hr) rfl ?_
   clear hr
   try cbv
   replace h:=letB_inv h
   obtain⟨b56,hz,h⟩:=h
   refine⟨b56,not_eq' hz,?_⟩
   clear hz
   try cbv
   refine drawn ?_ ?_
   ·show _=true
    kernel_rfl
   try cbv
   exact join_next (m1,b56) [2,3,4,5,93] [.loc 0,.loc 32,.loc 256] 2944 ⟨by omega,h⟩ (by cbv)
  clear h
  rintro⟨m2,b57⟩ ⟨hm2,h⟩
  replace hm2:m2<=m1:=hm2
  obtain _ | m2:=m2
  ·replace h:L77_2 0 l11 l12 l13 l14 z16 z17 z18 b19 b20 b21 b22 b57=some r1:=h
   rw[L77_2]at h
   cases h
  replace h:L77_2 (m2+1) l11 l12 l13 l14 z16 z17 z18 b19 b20 b21 b22 b57=some r1:=h
  rw[L77_2]at h
  try cbv
  cases b57
  rotate_left
  ·replace h:=itT h
   try cbv
   refine seq_go ?_
   try cbv
   obtain rfl:=Option.some.inj h
   refine fin_go ?_
   try cbv
   exact⟨[],by trivial⟩
  replace h:=itF h
  try cbv
  refine seq_go ?_
  try cbv
  refine seq_join (T:=Nat×Bool) (fun t=>⟨[sL 2 0,sL 3 32,sB 4 false,sL 5 256,sB 124 t.2],[(.loc 0,.cells [.d (.int .u8 z1),.d (.str s2),.d (.str s3),.d (.list false 1 l4),.d (.int .u8 z5),.d (.str s6),.d (.list true 3 l7),.d (.int .i64 z8),.d (.str s9),.d (.list false 1 l10),.d (.list true 8 l11),.d (.list true 15 l12),.d (.list true 15 l13),.d (.list true 3 l14),.d (.int .i64 z15)]),(.loc 32,.cells [.d (.int .i64 z16)]),(.loc 256,.cells [.d (.int .i64 z17),.d (.int .i64 z18),.d (.bool false),.d (.bool b19),.d (.bool b20),.d (.bool b21),.d (.bool false),.d (.bool b22),.fn 145 [],.fn 145 []])],3936⟩) (fun t=>t.1<=m2/\L77_3 t.1 l11 l12 l13 l14 z16 z17 z18 b19 b20 b21 b22 t.2=some r1) ?_ ?_
  rotate_left
  ·clear h
   rintro⟨m3,b68⟩ ⟨hm3,h⟩
   replace hm3:m3<=m2:=hm3
   obtain _ | m3:=m3
   ·replace h:L77_3 0 l11 l12 l13 l14 z16 z17 z18 b19 b20 b21 b22 b68=some r1:=h
    rw[L77_3]at h
    cases h
   replace h:L77_3 (m3+1) l11 l12 l13 l14 z16 z17 z18 b19 b20 b21 b22 b68=some r1:=h
   rw[L77_3]at h
   try cbv
   cases b68
   rotate_left
   ·replace h:=itT h
    try cbv
    refine seq_go ?_
    try cbv
    obtain rfl:=Option.some.inj h
    refine fin_go ?_
    try cbv
    exact⟨[],by trivial⟩
   replace h:=itF h
   try cbv
   refine seq_go ?_
   try cbv
   refine seq_go ?_
   try cbv
   replace h:=bO10_inv h
   obtain⟨b69,z70,z71,b72,b73,b74,b75,b76,b77,z78,hr,h⟩:=h
   refine call_go rfl rfl ?_
   try cbv
   refine call_with hM hI [.loc 256,.loc 32] (T98x1 _ hr) rfl (by simp) ⟨rfl,⟨rfl,trivial⟩⟩ ⟨trivial,⟨trivial,trivial⟩⟩ (by simp) ?_
   clear hr
   try cbv
   cases b69
   ·replace h:=itF h
    try cbv
    obtain rfl:=Option.some.inj h
    refine fin_go ?_
    try cbv
    exact⟨[],by trivial⟩
   replace h:=itT h
   try cbv
   replace h:=lenF_inv M h
   obtain⟨z79,hz,h⟩:=h
   refine⟨z79,hz,?_⟩
   clear hz
   try cbv
   replace h:=bO2_inv h
   obtain⟨b80,z81,hr,h⟩:=h
   refine call_go rfl rfl ?_
   try cbv
   refine call_with hM hI [.loc 32] ((ih _ (by omega)).2.1 hr) rfl (by simp) ⟨rfl,trivial⟩ ⟨trivial,trivial⟩ (by simp) ?_
   clear hr
   try cbv
   cases b80
   ·replace h:=itF h
    try cbv
    obtain rfl:=Option.some.inj h
    refine fin_go ?_
    try cbv
    exact⟨[],by trivial⟩
   replace h:=itT h
   try cbv
   replace h:=lenF_inv M h
   obtain⟨z82,hz,h⟩:=h
   refine⟨z82,hz,?_⟩
   clear hz
   try cbv
   replace h:=bO2_inv h
   obtain⟨b83,z84,hr,h⟩:=h
   refine call_go rfl rfl ?_
   try cbv
   refine call_with hM hI [.loc 32] ((ih _ (by omega)).2.1 hr) rfl (by simp) ⟨rfl,trivial⟩ ⟨trivial,trivial⟩ (by simp) ?_
   clear hr
   try cbv
   cases b83
   ·replace h:=itF h
    try cbv
    obtain rfl:=Option.some.inj h
    refine fin_go ?_
    try cbv
    exact⟨[],by trivial⟩
   replace h:=itT h
   try cbv
   replace h:=bO2_inv h
   obtain⟨b85,z86,hr,h⟩:=h
   refine call_go rfl rfl ?_
   try cbv
   refine call_with hM hI [.loc 3968,.loc 32] ((ih _ (by omega)).2.2.2.1 hr) rfl (by simp) ⟨rfl,⟨rfl,trivial⟩⟩ ⟨trivial,⟨trivial,trivial⟩⟩ (by simp) ?_
   clear hr
   try cbv
   obtain rfl:=Option.some.inj h
   refine fin_go ?_
   try cbv
   exact⟨[],by trivial⟩
  try cbv
  replace h:=letB_inv h
  obtain⟨b58,hz,h⟩:=h
  refine⟨b58,not_eq' hz,?_⟩
  clear hz
  try cbv
  cases b58
  ·replace h:=itF h
   try cbv
   replace h:=letB_inv h
   obtain⟨b64,hz,h⟩:=h
   refine⟨b64,not_eq' hz,?_⟩
   clear hz
   try cbv
   cases b64
   ·replace h:=itF h
    try cbv
    refine⟨true,rfl,?_⟩
    try cbv
    replace h:=lenF_inv M h
    obtain⟨z67,hz,h⟩:=h
    refine⟨z67,hz,?_⟩
    clear hz
    try cbv
    refine splitL (fun e=>?_) (fun e=>?_)
    ·replace h:=ite_t e h
     clear e
     try cbv
     exact join_next (m2,true) [2,3,4,5,124] [.loc 0,.loc 32,.loc 256] 3936 ⟨by omega,h⟩ (by cbv)
    replace h:=ite_f (Int.not_lt.2 e) h
    clear e
    try cbv
    exact join_next (m2,false) [2,3,4,5,124] [.loc 0,.loc 32,.loc 256] 3936 ⟨by omega,h⟩ (by cbv)
   replace h:=itT h
   try cbv
   replace h:=lenF_inv M h
   obtain⟨z65,hz,h⟩:=h
   refine⟨z65,hz,?_⟩
   clear hz
   try cbv
   refine splitL (fun e=>?_) (fun e=>?_)
   ·replace h:=ite_t e h
    clear e
    try cbv
    exact join_next (m2,true) [2,3,4,5,124] [.loc 0,.loc 32,.loc 256] 3936 ⟨by omega,h⟩ (by cbv)
   replace h:=ite_f (Int.not_lt.2 e) h
   clear e
   try cbv
   refine⟨true,rfl,?_⟩
   try cbv
   replace h:=lenF_inv M h
   obtain⟨z66,hz,h⟩:=h
   refine⟨z66,hz,?_⟩
   clear hz
   try cbv
   refine splitL (fun e=>?_) (fun e=>?_)
   ·replace h:=ite_t e h
    clear e
    try cbv
    exact join_next (m2,true) [2,3,4,5,124] [.loc 0,.loc 32,.loc 256] 3936 ⟨by omega,h⟩ (by cbv)
   replace h:=ite_f (Int.not_lt.2 e) h
   clear e
   try cbv
   exact join_next (m2,false) [2,3,4,5,124] [.loc 0,.loc 32,.loc 256] 3936 ⟨by omega,h⟩ (by cbv)
  replace h:=itT h
  try cbv
  replace h:=lenF_inv M h
  obtain⟨z59,hz,h⟩:=h
  refine⟨z59,hz,?_⟩
  clear hz
  try cbv
  refine splitL (fun e=>?_) (fun e=>?_)
  ·replace h:=ite_t e h
   clear e
   try cbv
   exact join_next (m2,true) [2,3,4,5,124] [.loc 0,.loc 32,.loc 256] 3936 ⟨by omega,h⟩ (by cbv)
  replace h:=ite_f (Int.not_lt.2 e) h
  clear e
  try cbv
  replace h:=letB_inv h
  obtain⟨b60,hz,h⟩:=h
  refine⟨b60,not_eq' hz,?_⟩
  clear hz
  try cbv
  cases b60
  ·replace h:=itF h
   try cbv
   refine⟨true,rfl,?_⟩
   try cbv
   replace h:=lenF_inv M h
   obtain⟨z63,hz,h⟩:=h
   refine⟨z63,hz,?_⟩
   clear hz
   try cbv
   refine splitL (fun e=>?_) (fun e=>?_)
   ·replace h:=ite_t e h
    clear e
    try cbv
    exact join_next (m2,true) [2,3,4,5,124] [.loc 0,.loc 32,.loc 256] 3936 ⟨by omega,h⟩ (by cbv)
   replace h:=ite_f (Int.not_lt.2 e) h
   clear e
   try cbv
   exact join_next (m2,false) [2,3,4,5,124] [.loc 0,.loc 32,.loc 256] 3936 ⟨by omega,h⟩ (by cbv)
  replace h:=itT h
  try cbv
  replace h:=lenF_inv M h
  obtain⟨z61,hz,h⟩:=h
  refine⟨z61,hz,?_⟩
  clear hz
  try cbv
  refine splitL (fun e=>?_) (fun e=>?_)
  ·replace h:=ite_t e h
   clear e
   try cbv
   exact join_next (m2,true) [2,3,4,5,124] [.loc 0,.loc 32,.loc 256] 3936 ⟨by omega,h⟩ (by cbv)
  replace h:=ite_f (Int.not_lt.2 e) h
  clear e
  try cbv
  refine⟨true,rfl,?_⟩
  try cbv
  replace h:=lenF_inv M h
  obtain⟨z62,hz,h⟩:=h
  refine⟨z62,hz,?_⟩
  clear hz
  try cbv
  refine splitL (fun e=>?_) (fun e=>?_)
  ·replace h:=ite_t e h
   clear e
   try cbv
   exact join_next (m2,true) [2,3,4,5,124] [.loc 0,.loc 32,.loc 256] 3936 ⟨by omega,h⟩ (by cbv)
  replace h:=ite_f (Int.not_lt.2 e) h
  clear e
  try cbv
  exact join_next (m2,false) [2,3,4,5,124] [.loc 0,.loc 32,.loc 256] 3936 ⟨by omega,h⟩ (by cbv)
 replace h:=bS_inv h
 rcases h with⟨p30,hr2,h⟩ | ⟨q31,hr2,h⟩
 ·obtain rfl:=Option.some.inj hr2
  replace h:=bO4_inv h
  obtain⟨z24,b25,b26,b27,hp,h⟩:=h
  obtain rfl:=Option.some.inj hp
  clear hp
  refine call_go rfl rfl ?_
  try cbv
  refine call_pure hM hI (T124 _ hr (fun r p n=>r= .t [.agg [.d (.int .i64 0),.d (.int .i64 z24),.d (.bool false),.d (.bool b25),.d (.bool b26),.d (.bool false),.d (.bool false),.d (.bool b27),.fn 74 [],.fn 145 []],.d (.bool true)]/\p=[]/\n=[]) ⟨rfl,rfl,rfl⟩:Trip _ _ _ _ _ (.t [.agg [.d (.int .i64 0),.d (.int .i64 z24),.d (.bool false),.d (.bool b25),.d (.bool b26),.d (.bool false),.d (.bool false),.d (.bool b27),.fn 74 [],.fn 145 []],.d (.bool true)]) [] []) rfl ?_
  clear hr
  try cbv
  refine seq_go ?_
  try cbv
  refine seq_join (T:=Nat×Bool) (fun t=>⟨[sL 2 0,sL 3 32,sB 4 false,sL 5 256,sB 55 t.2],[(.loc 0,.cells [.d (.int .u8 z1),.d (.str s2),.d (.str s3),.d (.list false 1 l4),.d (.int .u8 z5),.d (.str s6),.d (.list true 3 l7),.d (.int .i64 z8),.d (.str s9),.d (.list false 1 l10),.d (.list true 8 l11),.d (.list true 15 l12),.d (.list true 15 l13),.d (.list true 3 l14),.d (.int .i64 z15)]),(.loc 32,.cells [.d (.int .i64 z16)]),(.loc 256,.cells [.d (.int .i64 0),.d (.int .i64 z24),.d (.bool false),.d (.bool b25),.d (.bool b26),.d (.bool false),.d (.bool false),.d (.bool b27),.fn 74 [],.fn 145 []])],1728⟩) (fun t=>t.1<=n/\L77_4 t.1 z5 s6 l7 s9 l10 l11 l12 l13 l14 z16 z24 b25 b26 b27 t.2=some r1) ?_ ?_
  ·try cbv
   refine splitL (fun e=>?_) (fun e=>?_)
   ·replace h:=ite_t e h
    clear e
    try cbv
    exact join_next (n,true) [2,3,4,5,55] [.loc 0,.loc 32,.loc 256] 1728 ⟨by omega,h⟩ (by cbv)
   replace h:=ite_f (Int.not_lt.2 e) h
   clear e
   try cbv
   refine⟨false,rfl,?_⟩
   try cbv
   replace h:=bO1_inv h
   obtain⟨b87,hr,h⟩:=h
   refine call_go rfl rfl ?_
   try cbv
   refine call_pure hM hI (T125 _ hr) rfl ?_
   clear hr
   try cbv
   replace h:=letB_inv h
   obtain⟨b88,hz,h⟩:=h
   refine⟨b88,not_eq' hz,?_⟩
   clear hz
   try cbv
   cases b88
   rotate_left
   ·replace h:=itT h
    try cbv
    exact join_next (n,true) [2,3,4,5,55] [.loc 0,.loc 32,.loc 256] 1728 ⟨by omega,h⟩ (by cbv)
   replace h:=itF h
   try cbv
   replace h:=bO1_inv h
   obtain⟨b89,hr,h⟩:=h
   refine call_go rfl rfl ?_
   try cbv
   refine call_pure hM hI (T74 _ hr) rfl ?_
   clear hr
   try cbv
   replace h:=letB_inv h
   obtain⟨b90,hz,h⟩:=h
   refine⟨b90,not_eq' hz,?_⟩
   clear hz
   try cbv
   cases b90
   rotate_left
   ·replace h:=itT h
    try cbv
    exact join_next (n,true) [2,3,4,5,55] [.loc 0,.loc 32,.loc 256] 1728 ⟨by omega,h⟩ (by cbv)
   replace h:=itF h
   try cbv
   replace h:=bO1_inv h
   obtain⟨b91,hr,h⟩:=h
   refine call_go rfl rfl ?_
   try cbv
   refine call_pure hM hI (T145 _ hr) rfl ?_
   clear hr
   try cbv
   replace h:=letB_inv h
   obtain⟨b92,hz,h⟩:=h
   refine⟨b92,not_eq' hz,?_⟩
   clear hz
   try cbv
   cases b92
   rotate_left
   ·replace h:=itT h
    try cbv
    exact join_next (n,true) [2,3,4,5,55] [.loc 0,.loc 32,.loc 256] 1728 ⟨by omega,h⟩ (by cbv)
   replace h:=itF h
   try cbv
   replace h:=lenF_inv M h
   obtain⟨z93,hz,h⟩:=h
   refine⟨z93,hz,?_⟩
   clear hz
   try cbv
   refine splitI (fun e=>?_) (fun e=>?_)
   ·replace h:=ite_t e h
    clear e
    try cbv
    replace h:=bO1_inv h
    obtain⟨b94,hr,h⟩:=h
    refine call_go rfl rfl ?_
    try cbv
    refine call_pure hM hI (T93x1 _ hr) rfl ?_
    clear hr
    try cbv
    replace h:=letB_inv h
    obtain⟨b95,hz,h⟩:=h
    refine⟨b95,not_eq' hz,?_⟩
    clear hz
    try cbv
    exact join_next (n,b95) [2,3,4,5,55] [.loc 0,.loc 32,.loc 256] 1728 ⟨by omega,h⟩ (by cbv)
   replace h:=ite_f e h
   clear e
   try cbv
   exact join_next (n,true) [2,3,4,5,55] [.loc 0,.loc 32,.loc 256] 1728 ⟨by omega,h⟩ (by cbv)
  clear h
  rintro⟨m4,b96⟩ ⟨hm4,h⟩
  replace hm4:m4<=n:=hm4
  obtain _ | m4:=m4
  ·replace h:L77_4 0 z5 s6 l7 s9 l10 l11 l12 l13 l14 z16 z24 b25 b26 b27 b96=some r1:=h
   rw[L77_4]at h
   cases h
  replace h:L77_4 (m4+1) z5 s6 l7 s9 l10 l11 l12 l13 l14 z16 z24 b25 b26 b27 b96=some r1:=h
  rw[L77_4]at h
  try cbv
  cases b96
  rotate_left
  ·replace h:=itT h
   try cbv
   refine seq_go ?_
   try cbv
   obtain rfl:=Option.some.inj h
   refine fin_go ?_
   try cbv
   exact⟨[],by trivial⟩
  replace h:=itF h
  try cbv
  refine seq_go ?_
  try cbv
  refine seq_join (T:=Nat×Bool) (fun t=>⟨[sL 2 0,sL 3 32,sB 4 false,sL 5 256,sB 93 t.2],[(.loc 0,.cells [.d (.int .u8 z1),.d (.str s2),.d (.str s3),.d (.list false 1 l4),.d (.int .u8 z5),.d (.str s6),.d (.list true 3 l7),.d (.int .i64 z8),.d (.str s9),.d (.list false 1 l10),.d (.list true 8 l11),.d (.list true 15 l12),.d (.list true 15 l13),.d (.list true 3 l14),.d (.int .i64 z15)]),(.loc 32,.cells [.d (.int .i64 z16)]),(.loc 256,.cells [.d (.int .i64 0),.d (.int .i64 z24),.d (.bool false),.d (.bool b25),.d (.bool b26),.d (.bool false),.d (.bool false),.d (.bool b27),.fn 74 [],.fn 145 []])],2944⟩) (fun t=>t.1<=m4/\L77_5 t.1 l11 l12 l13 l14 z16 z24 b25 b26 b27 t.2=some r1) ?_ ?_
  ·try cbv
   replace h:=letF_inv h
   obtain⟨z97,hz,h⟩:=h
   refine⟨z97,hz,?_⟩
   clear hz
   try cbv
   replace h:=bO1_inv h
   obtain⟨b98,hr,h⟩:=h
   first | refine .inr (.inl ⟨[],?_⟩) | refine .inl ⟨[],?_⟩
   try cbv
   refine call_pure hM hI (T55 _ hr) rfl ?_
   clear hr
   try cbv
   replace h:=letB_inv h
   obtain⟨b99,hz,h⟩:=h
   refine⟨b99,eqv_ne hz,?_⟩
   clear hz
   try cbv
   cases b99
   rotate_left
   ·replace h:=itT h
    try cbv
    refine drawn ?_ ?_
    ·show _=true
     kernel_rfl
    try cbv
    exact join_next (m4,true) [2,3,4,5,93] [.loc 0,.loc 32,.loc 256] 2944 ⟨by omega,h⟩ (by cbv)
   replace h:=itF h
   try cbv
   refine⟨true,rfl,?_⟩
   try cbv
   replace h:=bO1_inv h
   obtain⟨b100,hr,h⟩:=h
   first | refine .inr (.inl ⟨[],?_⟩) | refine .inl ⟨[],?_⟩
   try cbv
   refine call_pure hM hI (T72 _ hr) rfl ?_
   clear hr
   try cbv
   replace h:=letB_inv h
   obtain⟨b101,hz,h⟩:=h
   refine⟨b101,not_eq' hz,?_⟩
   clear hz
   try cbv
   cases b101
   rotate_left
   ·replace h:=itT h
    try cbv
    refine drawn ?_ ?_
    ·show _=true
     kernel_rfl
    try cbv
    exact join_next (m4,true) [2,3,4,5,93] [.loc 0,.loc 32,.loc 256] 2944 ⟨by omega,h⟩ (by cbv)
   replace h:=itF h
   try cbv
   replace h:=bO1_inv h
   obtain⟨b102,hr,h⟩:=h
   first | refine .inr (.inl ⟨[],?_⟩) | refine .inl ⟨[],?_⟩
   try cbv
   refine call_pure hM hI (T52 _ hr) rfl ?_
   clear hr
   try cbv
   replace h:=letB_inv h
   obtain⟨b103,hz,h⟩:=h
   refine⟨b103,eqv_ne hz,?_⟩
   clear hz
   try cbv
   cases b103
   rotate_left
   ·replace h:=itT h
    try cbv
    refine drawn ?_ ?_
    ·show _=true
     kernel_rfl
    try cbv
    exact join_next (m4,true) [2,3,4,5,93] [.loc 0,.loc 32,.loc 256] 2944 ⟨by omega,h⟩ (by cbv)
   replace h:=itF h
   try cbv
   replace h:=letB_inv h
   obtain⟨b104,hz,h⟩:=h
   refine⟨b104,not_eq' hz,?_⟩
   clear hz
   try cbv
   cases b104
   ·replace h:=itF h
    try cbv
    refine drawn ?_ ?_
    ·show _=true
     kernel_rfl
    try cbv
    exact join_next (m4,false) [2,3,4,5,93] [.loc 0,.loc 32,.loc 256] 2944 ⟨by omega,h⟩ (by cbv)
   replace h:=itT h
   try cbv
   replace h:=bO1_inv h
   obtain⟨b105,hr,h⟩:=h
   first | refine .inr (.inl ⟨[],?_⟩) | refine .inl ⟨[],?_⟩
   try cbv
   refine call_pure hM hI (T126 _ hr) rfl ?_
   clear hr
   try cbv
   replace h:=letB_inv h
   obtain⟨b106,hz,h⟩:=h
   refine⟨b106,not_eq' hz,?_⟩
   clear hz
   try cbv
   refine drawn ?_ ?_
   ·show _=true
    kernel_rfl
   try cbv
   exact join_next (m4,b106) [2,3,4,5,93] [.loc 0,.loc 32,.loc 256] 2944 ⟨by omega,h⟩ (by cbv)
  clear h
  rintro⟨m5,b107⟩ ⟨hm5,h⟩
  replace hm5:m5<=m4:=hm5
  obtain _ | m5:=m5
  ·replace h:L77_5 0 l11 l12 l13 l14 z16 z24 b25 b26 b27 b107=some r1:=h
   rw[L77_5]at h
   cases h
  replace h:L77_5 (m5+1) l11 l12 l13 l14 z16 z24 b25 b26 b27 b107=some r1:=h
  rw[L77_5]at h
  try cbv
  cases b107
  rotate_left
  ·replace h:=itT h
   try cbv
   refine seq_go ?_
   try cbv
   obtain rfl:=Option.some.inj h
   refine fin_go ?_
   try cbv
   exact⟨[],by trivial⟩
  replace h:=itF h
  try cbv
  refine seq_go ?_
  try cbv
  refine seq_join (T:=Nat×Bool) (fun t=>⟨[sL 2 0,sL 3 32,sB 4 false,sL 5 256,sB 124 t.2],[(.loc 0,.cells [.d (.int .u8 z1),.d (.str s2),.d (.str s3),.d (.list false 1 l4),.d (.int .u8 z5),.d (.str s6),.d (.list true 3 l7),.d (.int .i64 z8),.d (.str s9),.d (.list false 1 l10),.d (.list true 8 l11),.d (.list true 15 l12),.d (.list true 15 l13),.d (.list true 3 l14),.d (.int .i64 z15)]),(.loc 32,.cells [.d (.int .i64 z16)]),(.loc 256,.cells [.d (.int .i64 0),.d (.int .i64 z24),.d (.bool false),.d (.bool b25),.d (.bool b26),.d (.bool false),.d (.bool false),.d (.bool b27),.fn 74 [],.fn 145 []])],3936⟩) (fun t=>t.1<=m5/\L77_6 t.1 l11 l12 l13 l14 z16 z24 b25 b26 b27 t.2=some r1) ?_ ?_
  ·try cbv
   replace h:=letB_inv h
   obtain⟨b108,hz,h⟩:=h
   refine⟨b108,not_eq' hz,?_⟩
   clear hz
   try cbv
   cases b108
   ·replace h:=itF h
    try cbv
    refine⟨true,rfl,?_⟩
    try cbv
    replace h:=lenF_inv M h
    obtain⟨z112,hz,h⟩:=h
    refine⟨z112,hz,?_⟩
    clear hz
    try cbv
    refine splitL (fun e=>?_) (fun e=>?_)
    ·replace h:=ite_t e h
     clear e
     try cbv
     exact join_next (m5,true) [2,3,4,5,124] [.loc 0,.loc 32,.loc 256] 3936 ⟨by omega,h⟩ (by cbv)
    replace h:=ite_f (Int.not_lt.2 e) h
    clear e
    try cbv
    refine⟨true,rfl,?_⟩
    try cbv
    replace h:=lenF_inv M h
    obtain⟨z113,hz,h⟩:=h
    refine⟨z113,hz,?_⟩
    clear hz
    try cbv
    refine splitL (fun e=>?_) (fun e=>?_)
    ·replace h:=ite_t e h
     clear e
     try cbv
     exact join_next (m5,true) [2,3,4,5,124] [.loc 0,.loc 32,.loc 256] 3936 ⟨by omega,h⟩ (by cbv)
    replace h:=ite_f (Int.not_lt.2 e) h
    clear e
    try cbv
    exact join_next (m5,false) [2,3,4,5,124] [.loc 0,.loc 32,.loc 256] 3936 ⟨by omega,h⟩ (by cbv)
   replace h:=itT h
   try cbv
   replace h:=lenF_inv M h
   obtain⟨z109,hz,h⟩:=h
   refine⟨z109,hz,?_⟩
   clear hz
   try cbv
   refine splitL (fun e=>?_) (fun e=>?_)
   ·replace h:=ite_t e h
    clear e
    try cbv
    exact join_next (m5,true) [2,3,4,5,124] [.loc 0,.loc 32,.loc 256] 3936 ⟨by omega,h⟩ (by cbv)
   replace h:=ite_f (Int.not_lt.2 e) h
   clear e
   try cbv
   refine⟨true,rfl,?_⟩
   try cbv
   replace h:=lenF_inv M h
   obtain⟨z110,hz,h⟩:=h
   refine⟨z110,hz,?_⟩
   clear hz
   try cbv
   refine splitL (fun e=>?_) (fun e=>?_)
   ·replace h:=ite_t e h
    clear e
    try cbv
    exact join_next (m5,true) [2,3,4,5,124] [.loc 0,.loc 32,.loc 256] 3936 ⟨by omega,h⟩ (by cbv)
   replace h:=ite_f (Int.not_lt.2 e) h
   clear e
   try cbv
   refine⟨true,rfl,?_⟩
   try cbv
   replace h:=lenF_inv M h
   obtain⟨z111,hz,h⟩:=h
   refine⟨z111,hz,?_⟩
   clear hz
   try cbv
   refine splitL (fun e=>?_) (fun e=>?_)
   ·replace h:=ite_t e h
    clear e
    try cbv
    exact join_next (m5,true) [2,3,4,5,124] [.loc 0,.loc 32,.loc 256] 3936 ⟨by omega,h⟩ (by cbv)
   replace h:=ite_f (Int.not_lt.2 e) h
   clear e
   try cbv
   exact join_next (m5,false) [2,3,4,5,124] [.loc 0,.loc 32,.loc 256] 3936 ⟨by omega,h⟩ (by cbv)
  clear h
  rintro⟨m6,b114⟩ ⟨hm6,h⟩
  replace hm6:m6<=m5:=hm6
  obtain _ | m6:=m6
  ·replace h:L77_6 0 l11 l12 l13 l14 z16 z24 b25 b26 b27 b114=some r1:=h
   rw[L77_6]at h
   cases h
  replace h:L77_6 (m6+1) l11 l12 l13 l14 z16 z24 b25 b26 b27 b114=some r1:=h
  rw[L77_6]at h
  try cbv
  cases b114
  rotate_left
  ·replace h:=itT h
   try cbv
   refine seq_go ?_
   try cbv
   obtain rfl:=Option.some.inj h
   refine fin_go ?_
   try cbv
   exact⟨[],by trivial⟩
  replace h:=itF h
  try cbv
  refine seq_go ?_
  try cbv
  refine seq_go ?_
  try cbv
  replace h:=bO10_inv h
  obtain⟨b115,z116,z117,b118,b119,b120,b121,b122,b123,z124,hr,h⟩:=h
  refine call_go rfl rfl ?_
  try cbv
  refine call_with hM hI [.loc 256,.loc 32] (T98x2 _ hr) rfl (by simp) ⟨rfl,⟨rfl,trivial⟩⟩ ⟨trivial,⟨trivial,trivial⟩⟩ (by simp) ?_
  clear hr
  try cbv
  cases b115
  ·replace h:=itF h
   try cbv
   obtain rfl:=Option.some.inj h
   refine fin_go ?_
   try cbv
   exact⟨[],by trivial⟩
  replace h:=itT h
  try cbv
  replace h:=lenF_inv M h
  obtain⟨z125,hz,h⟩:=h
  refine⟨z125,hz,?_⟩
  clear hz
  try cbv
  replace h:=bO2_inv h
  obtain⟨b126,z127,hr,h⟩:=h
  refine call_go rfl rfl ?_
  try cbv
  refine call_with hM hI [.loc 32] ((ih _ (by omega)).2.1 hr) rfl (by simp) ⟨rfl,trivial⟩ ⟨trivial,trivial⟩ (by simp) ?_
  clear hr
  try cbv
  cases b126
  ·replace h:=itF h
   try cbv
   obtain rfl:=Option.some.inj h
   refine fin_go ?_
   try cbv
   exact⟨[],by trivial⟩
  replace h:=itT h
  try cbv
  replace h:=lenF_inv M h
  obtain⟨z128,hz,h⟩:=h
  refine⟨z128,hz,?_⟩
  clear hz
  try cbv
  replace h:=bO2_inv h
  obtain⟨b129,z130,hr,h⟩:=h
  refine call_go rfl rfl ?_
  try cbv
  refine call_with hM hI [.loc 32] ((ih _ (by omega)).2.1 hr) rfl (by simp) ⟨rfl,trivial⟩ ⟨trivial,trivial⟩ (by simp) ?_
  clear hr
  try cbv
  cases b129
  ·replace h:=itF h
   try cbv
   obtain rfl:=Option.some.inj h
   refine fin_go ?_
   try cbv
   exact⟨[],by trivial⟩
  replace h:=itT h
  try cbv
  replace h:=bO2_inv h
  obtain⟨b131,z132,hr,h⟩:=h
  refine call_go rfl rfl ?_
  try cbv
  refine call_with hM hI [.loc 3968,.loc 32] ((ih _ (by omega)).2.2.2.1 hr) rfl (by simp) ⟨rfl,⟨rfl,trivial⟩⟩ ⟨trivial,⟨trivial,trivial⟩⟩ (by simp) ?_
  clear hr
  try cbv
  obtain rfl:=Option.some.inj h
  refine fin_go ?_
  try cbv
  exact⟨[],by trivial⟩
 obtain rfl:=Option.some.inj hr2
 skip
 replace h:=bS_inv h
 rcases h with⟨_,hr2,h⟩ | ⟨q33,hr2,h⟩
 ·obtain rfl:=Option.some.inj hr2
  refine call_go rfl rfl ?_
  try cbv
  refine call_pure hM hI (T124 _ hr (fun r p n=>r= .t [.agg [.d (.int .i64 6),.d (.int .i64 1),.d (.bool false),.d (.bool false),.d (.bool false),.d (.bool false),.d (.bool false),.d (.bool false),.fn 73 [],.fn 145 []],.d (.bool true)]/\p=[]/\n=[]) ⟨rfl,rfl,rfl⟩:Trip _ _ _ _ _ (.t [.agg [.d (.int .i64 6),.d (.int .i64 1),.d (.bool false),.d (.bool false),.d (.bool false),.d (.bool false),.d (.bool false),.d (.bool false),.fn 73 [],.fn 145 []],.d (.bool true)]) [] []) rfl ?_
  clear hr
  try cbv
  refine seq_go ?_
  try cbv
  refine seq_join (T:=Nat×Bool) (fun t=>⟨[sL 2 0,sL 3 32,sB 4 false,sL 5 256,sB 55 t.2],[(.loc 0,.cells [.d (.int .u8 z1),.d (.str s2),.d (.str s3),.d (.list false 1 l4),.d (.int .u8 z5),.d (.str s6),.d (.list true 3 l7),.d (.int .i64 z8),.d (.str s9),.d (.list false 1 l10),.d (.list true 8 l11),.d (.list true 15 l12),.d (.list true 15 l13),.d (.list true 3 l14),.d (.int .i64 z15)]),(.loc 32,.cells [.d (.int .i64 z16)]),(.loc 256,.cells [.d (.int .i64 6),.d (.int .i64 1),.d (.bool false),.d (.bool false),.d (.bool false),.d (.bool false),.d (.bool false),.d (.bool false),.fn 73 [],.fn 145 []])],1728⟩) (fun t=>t.1<=n/\L77_7 t.1 z5 s6 l7 s9 l10 l11 l12 l13 l14 z16 t.2=some r1) ?_ ?_
  ·try cbv
   refine splitL (fun e=>?_) (fun e=>?_)
   ·replace h:=ite_t e h
    clear e
    try cbv
    exact join_next (n,true) [2,3,4,5,55] [.loc 0,.loc 32,.loc 256] 1728 ⟨by omega,h⟩ (by cbv)
   replace h:=ite_f (Int.not_lt.2 e) h
   clear e
   try cbv
   refine⟨false,rfl,?_⟩
   try cbv
   replace h:=bO1_inv h
   obtain⟨b133,hr,h⟩:=h
   refine call_go rfl rfl ?_
   try cbv
   refine call_pure hM hI (T125 _ hr) rfl ?_
   clear hr
   try cbv
   replace h:=letB_inv h
   obtain⟨b134,hz,h⟩:=h
   refine⟨b134,not_eq' hz,?_⟩
   clear hz
   try cbv
   cases b134
   rotate_left
   ·replace h:=itT h
    try cbv
    exact join_next (n,true) [2,3,4,5,55] [.loc 0,.loc 32,.loc 256] 1728 ⟨by omega,h⟩ (by cbv)
   replace h:=itF h
   try cbv
   replace h:=bO1_inv h
   obtain⟨b135,hr,h⟩:=h
   refine call_go rfl rfl ?_
   try cbv
   refine call_pure hM hI (T73 _ hr) rfl ?_
   clear hr
   try cbv
   replace h:=letB_inv h
   obtain⟨b136,hz,h⟩:=h
   refine⟨b136,not_eq' hz,?_⟩
   clear hz
   try cbv
   cases b136
   rotate_left
   ·replace h:=itT h
    try cbv
    exact join_next (n,true) [2,3,4,5,55] [.loc 0,.loc 32,.loc 256] 1728 ⟨by omega,h⟩ (by cbv)
   replace h:=itF h
   try cbv
   replace h:=bO1_inv h
   obtain⟨b137,hr,h⟩:=h
   refine call_go rfl rfl ?_
   try cbv
   refine call_pure hM hI (T145 _ hr) rfl ?_
   clear hr
   try cbv
   replace h:=letB_inv h
   obtain⟨b138,hz,h⟩:=h
   refine⟨b138,not_eq' hz,?_⟩
   clear hz
   try cbv
   cases b138
   rotate_left
   ·replace h:=itT h
    try cbv
    exact join_next (n,true) [2,3,4,5,55] [.loc 0,.loc 32,.loc 256] 1728 ⟨by omega,h⟩ (by cbv)
   replace h:=itF h
   try cbv
   replace h:=lenF_inv M h
   obtain⟨z139,hz,h⟩:=h
   refine⟨z139,hz,?_⟩
   clear hz
   try cbv
   refine splitI (fun e=>?_) (fun e=>?_)
   ·replace h:=ite_t e h
    clear e
    try cbv
    replace h:=bO1_inv h
    obtain⟨b140,hr,h⟩:=h
    refine call_go rfl rfl ?_
    try cbv
    refine call_pure hM hI (T93x1 _ hr) rfl ?_
    clear hr
    try cbv
    replace h:=letB_inv h
    obtain⟨b141,hz,h⟩:=h
    refine⟨b141,not_eq' hz,?_⟩
    clear hz
    try cbv
    exact join_next (n,b141) [2,3,4,5,55] [.loc 0,.loc 32,.loc 256] 1728 ⟨by omega,h⟩ (by cbv)
   replace h:=ite_f e h
   clear e
   try cbv
   exact join_next (n,true) [2,3,4,5,55] [.loc 0,.loc 32,.loc 256] 1728 ⟨by omega,h⟩ (by cbv)
  clear h
  rintro⟨m7,b142⟩ ⟨hm7,h⟩
  replace hm7:m7<=n:=hm7
  obtain _ | m7:=m7
  ·replace h:L77_7 0 z5 s6 l7 s9 l10 l11 l12 l13 l14 z16 b142=some r1:=h
   rw[L77_7]at h
   cases h
  replace h:L77_7 (m7+1) z5 s6 l7 s9 l10 l11 l12 l13 l14 z16 b142=some r1:=h
  rw[L77_7]at h
  try cbv
  cases b142
  rotate_left
  ·replace h:=itT h
   try cbv
   refine seq_go ?_
   try cbv
   obtain rfl:=Option.some.inj h
   refine fin_go ?_
   try cbv
   exact⟨[],by trivial⟩
  replace h:=itF h
  try cbv
  refine seq_go ?_
  try cbv
  refine seq_join (T:=Nat×Bool) (fun t=>⟨[sL 2 0,sL 3 32,sB 4 false,sL 5 256,sB 93 t.2],[(.loc 0,.cells [.d (.int .u8 z1),.d (.str s2),.d (.str s3),.d (.list false 1 l4),.d (.int .u8 z5),.d (.str s6),.d (.list true 3 l7),.d (.int .i64 z8),.d (.str s9),.d (.list false 1 l10),.d (.list true 8 l11),.d (.list true 15 l12),.d (.list true 15 l13),.d (.list true 3 l14),.d (.int .i64 z15)]),(.loc 32,.cells [.d (.int .i64 z16)]),(.loc 256,.cells [.d (.int .i64 6),.d (.int .i64 1),.d (.bool false),.d (.bool false),.d (.bool false),.d (.bool false),.d (.bool false),.d (.bool false),.fn 73 [],.fn 145 []])],2944⟩) (fun t=>t.1<=m7/\L77_8 t.1 l11 l12 l13 l14 z16 t.2=some r1) ?_ ?_
  ·try cbv
   replace h:=letF_inv h
   obtain⟨z143,hz,h⟩:=h
   refine⟨z143,hz,?_⟩
   clear hz
   try cbv
   replace h:=bO1_inv h
   obtain⟨b144,hr,h⟩:=h
   first | refine .inr (.inl ⟨[],?_⟩) | refine .inl ⟨[],?_⟩
   try cbv
   refine call_pure hM hI (T55 _ hr) rfl ?_
   clear hr
   try cbv
   replace h:=letB_inv h
   obtain⟨b145,hz,h⟩:=h
   refine⟨b145,eqv_ne hz,?_⟩
   clear hz
   try cbv
   cases b145
   rotate_left
   ·replace h:=itT h
    try cbv
    refine drawn ?_ ?_
    ·show _=true
     kernel_rfl
    try cbv
    exact join_next (m7,true) [2,3,4,5,93] [.loc 0,.loc 32,.loc 256] 2944 ⟨by omega,h⟩ (by cbv)
   replace h:=itF h
   try cbv
   refine⟨true,rfl,?_⟩
   try cbv
   replace h:=bO1_inv h
   obtain⟨b146,hr,h⟩:=h
   first | refine .inr (.inl ⟨[],?_⟩) | refine .inl ⟨[],?_⟩
   try cbv
   refine call_pure hM hI (T72 _ hr) rfl ?_
   clear hr
   try cbv
   replace h:=letB_inv h
   obtain⟨b147,hz,h⟩:=h
   refine⟨b147,not_eq' hz,?_⟩
   clear hz
   try cbv
   cases b147
   rotate_left
   ·replace h:=itT h
    try cbv
    refine drawn ?_ ?_
    ·show _=true
     kernel_rfl
    try cbv
    exact join_next (m7,true) [2,3,4,5,93] [.loc 0,.loc 32,.loc 256] 2944 ⟨by omega,h⟩ (by cbv)
   replace h:=itF h
   try cbv
   replace h:=bO1_inv h
   obtain⟨b148,hr,h⟩:=h
   first | refine .inr (.inl ⟨[],?_⟩) | refine .inl ⟨[],?_⟩
   try cbv
   refine call_pure hM hI (T52 _ hr) rfl ?_
   clear hr
   try cbv
   replace h:=letB_inv h
   obtain⟨b149,hz,h⟩:=h
   refine⟨b149,eqv_ne hz,?_⟩
   clear hz
   try cbv
   cases b149
   rotate_left
   ·replace h:=itT h
    try cbv
    refine drawn ?_ ?_
    ·show _=true
     kernel_rfl
    try cbv
    exact join_next (m7,true) [2,3,4,5,93] [.loc 0,.loc 32,.loc 256] 2944 ⟨by omega,h⟩ (by cbv)
   replace h:=itF h
   try cbv
   refine⟨true,rfl,?_⟩
   try cbv
   replace h:=bO1_inv h
   obtain⟨b150,hr,h⟩:=h
   first | refine .inr (.inl ⟨[],?_⟩) | refine .inl ⟨[],?_⟩
   try cbv
   refine call_pure hM hI (T126 _ hr) rfl ?_
   clear hr
   try cbv
   replace h:=letB_inv h
   obtain⟨b151,hz,h⟩:=h
   refine⟨b151,not_eq' hz,?_⟩
   clear hz
   try cbv
   refine drawn ?_ ?_
   ·show _=true
    kernel_rfl
   try cbv
   exact join_next (m7,b151) [2,3,4,5,93] [.loc 0,.loc 32,.loc 256] 2944 ⟨by omega,h⟩ (by cbv)
  clear h
  rintro⟨m8,b152⟩ ⟨hm8,h⟩
  replace hm8:m8<=m7:=hm8
  obtain _ | m8:=m8
  ·replace h:L77_8 0 l11 l12 l13 l14 z16 b152=some r1:=h
   rw[L77_8]at h
   cases h
  replace h:L77_8 (m8+1) l11 l12 l13 l14 z16 b152=some r1:=h
  rw[L77_8]at h
  try cbv
  cases b152
  rotate_left
  ·replace h:=itT h
   try cbv
   refine seq_go ?_
   try cbv
   obtain rfl:=Option.some.inj h
   refine fin_go ?_
   try cbv
   exact⟨[],by trivial⟩
  replace h:=itF h
  try cbv
  refine seq_go ?_
  try cbv
  refine seq_join (T:=Nat×Bool) (fun t=>⟨[sL 2 0,sL 3 32,sB 4 false,sL 5 256,sB 124 t.2],[(.loc 0,.cells [.d (.int .u8 z1),.d (.str s2),.d (.str s3),.d (.list false 1 l4),.d (.int .u8 z5),.d (.str s6),.d (.list true 3 l7),.d (.int .i64 z8),.d (.str s9),.d (.list false 1 l10),.d (.list true 8 l11),.d (.list true 15 l12),.d (.list true 15 l13),.d (.list true 3 l14),.d (.int .i64 z15)]),(.loc 32,.cells [.d (.int .i64 z16)]),(.loc 256,.cells [.d (.int .i64 6),.d (.int .i64 1),.d (.bool false),.d (.bool false),.d (.bool false),.d (.bool false),.d (.bool false),.d (.bool false),.fn 73 [],.fn 145 []])],3936⟩) (fun t=>t.1<=m8/\L77_9 t.1 l11 l12 l13 l14 z16 t.2=some r1) ?_ ?_
  ·try cbv
   refine⟨true,rfl,?_⟩
   try cbv
   replace h:=lenF_inv M h
   obtain⟨z153,hz,h⟩:=h
   refine⟨z153,hz,?_⟩
   clear hz
   try cbv
   refine splitL (fun e=>?_) (fun e=>?_)
   ·replace h:=ite_t e h
    clear e
    try cbv
    exact join_next (m8,true) [2,3,4,5,124] [.loc 0,.loc 32,.loc 256] 3936 ⟨by omega,h⟩ (by cbv)
   replace h:=ite_f (Int.not_lt.2 e) h
   clear e
   try cbv
   refine⟨true,rfl,?_⟩
   try cbv
   replace h:=lenF_inv M h
   obtain⟨z154,hz,h⟩:=h
   refine⟨z154,hz,?_⟩
   clear hz
   try cbv
   refine splitL (fun e=>?_) (fun e=>?_)
   ·replace h:=ite_t e h
    clear e
    try cbv
    exact join_next (m8,true) [2,3,4,5,124] [.loc 0,.loc 32,.loc 256] 3936 ⟨by omega,h⟩ (by cbv)
   replace h:=ite_f (Int.not_lt.2 e) h
   clear e
   try cbv
   refine⟨true,rfl,?_⟩
   try cbv
   replace h:=lenF_inv M h
   obtain⟨z155,hz,h⟩:=h
   refine⟨z155,hz,?_⟩
   clear hz
   try cbv
   refine splitL (fun e=>?_) (fun e=>?_)
   ·replace h:=ite_t e h
    clear e
    try cbv
    exact join_next (m8,true) [2,3,4,5,124] [.loc 0,.loc 32,.loc 256] 3936 ⟨by omega,h⟩ (by cbv)
   replace h:=ite_f (Int.not_lt.2 e) h
   clear e
   try cbv
   exact join_next (m8,false) [2,3,4,5,124] [.loc 0,.loc 32,.loc 256] 3936 ⟨by omega,h⟩ (by cbv)
  clear h
  rintro⟨m9,b156⟩ ⟨hm9,h⟩
  replace hm9:m9<=m8:=hm9
  obtain _ | m9:=m9
  ·replace h:L77_9 0 l11 l12 l13 l14 z16 b156=some r1:=h
   rw[L77_9]at h
   cases h
  replace h:L77_9 (m9+1) l11 l12 l13 l14 z16 b156=some r1:=h
  rw[L77_9]at h
  try cbv
  cases b156
  rotate_left
  ·replace h:=itT h
   try cbv
   refine seq_go ?_
   try cbv
   obtain rfl:=Option.some.inj h
   refine fin_go ?_
   try cbv
   exact⟨[],by trivial⟩
  replace h:=itF h
  try cbv
  refine seq_go ?_
  try cbv
  refine seq_go ?_
  try cbv
  replace h:=bO10_inv h
  obtain⟨b157,z158,z159,b160,b161,b162,b163,b164,b165,z166,hr,h⟩:=h
  refine call_go rfl rfl ?_
  try cbv
  refine call_with hM hI [.loc 256,.loc 32] (T98x3 _ hr) rfl (by simp) ⟨rfl,⟨rfl,trivial⟩⟩ ⟨trivial,⟨trivial,trivial⟩⟩ (by simp) ?_
  clear hr
  try cbv
  cases b157
  ·replace h:=itF h
   try cbv
   obtain rfl:=Option.some.inj h
   refine fin_go ?_
   try cbv
   exact⟨[],by trivial⟩
  replace h:=itT h
  try cbv
  replace h:=lenF_inv M h
  obtain⟨z167,hz,h⟩:=h
  refine⟨z167,hz,?_⟩
  clear hz
  try cbv
  replace h:=bO2_inv h
  obtain⟨b168,z169,hr,h⟩:=h
  refine call_go rfl rfl ?_
  try cbv
  refine call_with hM hI [.loc 32] ((ih _ (by omega)).2.1 hr) rfl (by simp) ⟨rfl,trivial⟩ ⟨trivial,trivial⟩ (by simp) ?_
  clear hr
  try cbv
  cases b168
  ·replace h:=itF h
   try cbv
   obtain rfl:=Option.some.inj h
   refine fin_go ?_
   try cbv
   exact⟨[],by trivial⟩
  replace h:=itT h
  try cbv
  replace h:=lenF_inv M h
  obtain⟨z170,hz,h⟩:=h
  refine⟨z170,hz,?_⟩
  clear hz
  try cbv
  replace h:=bO2_inv h
  obtain⟨b171,z172,hr,h⟩:=h
  refine call_go rfl rfl ?_
  try cbv
  refine call_with hM hI [.loc 32] ((ih _ (by omega)).2.1 hr) rfl (by simp) ⟨rfl,trivial⟩ ⟨trivial,trivial⟩ (by simp) ?_
  clear hr
  try cbv
  cases b171
  ·replace h:=itF h
   try cbv
   obtain rfl:=Option.some.inj h
   refine fin_go ?_
   try cbv
   exact⟨[],by trivial⟩
  replace h:=itT h
  try cbv
  replace h:=bO2_inv h
  obtain⟨b173,z174,hr,h⟩:=h
  refine call_go rfl rfl ?_
  try cbv
  refine call_with hM hI [.loc 3968,.loc 32] ((ih _ (by omega)).2.2.2.1 hr) rfl (by simp) ⟨rfl,⟨rfl,trivial⟩⟩ ⟨trivial,⟨trivial,trivial⟩⟩ (by simp) ?_
  clear hr
  try cbv
  obtain rfl:=Option.some.inj h
  refine fin_go ?_
  try cbv
  exact⟨[],by trivial⟩
 obtain rfl:=Option.some.inj hr2
 skip
 replace h:=bS_inv h
 rcases h with⟨_,hr2,h⟩ | ⟨_,hr2,h⟩
 ·obtain rfl:=Option.some.inj hr2
  refine call_go rfl rfl ?_
  try cbv
  refine call_pure hM hI (T124 _ hr (fun r p n=>r= .t [.agg [.d (.int .i64 0),.d (.int .i64 0),.d (.bool false),.d (.bool false),.d (.bool false),.d (.bool false),.d (.bool true),.d (.bool false),.fn 74 [],.fn 73 []],.d (.bool true)]/\p=[]/\n=[]) ⟨rfl,rfl,rfl⟩:Trip _ _ _ _ _ (.t [.agg [.d (.int .i64 0),.d (.int .i64 0),.d (.bool false),.d (.bool false),.d (.bool false),.d (.bool false),.d (.bool true),.d (.bool false),.fn 74 [],.fn 73 []],.d (.bool true)]) [] []) rfl ?_
  clear hr
  try cbv
  refine seq_go ?_
  try cbv
  refine seq_join (T:=Nat×Bool) (fun t=>⟨[sL 2 0,sL 3 32,sB 4 false,sL 5 256,sB 55 t.2],[(.loc 0,.cells [.d (.int .u8 z1),.d (.str s2),.d (.str s3),.d (.list false 1 l4),.d (.int .u8 z5),.d (.str s6),.d (.list true 3 l7),.d (.int .i64 z8),.d (.str s9),.d (.list false 1 l10),.d (.list true 8 l11),.d (.list true 15 l12),.d (.list true 15 l13),.d (.list true 3 l14),.d (.int .i64 z15)]),(.loc 32,.cells [.d (.int .i64 z16)]),(.loc 256,.cells [.d (.int .i64 0),.d (.int .i64 0),.d (.bool false),.d (.bool false),.d (.bool false),.d (.bool false),.d (.bool true),.d (.bool false),.fn 74 [],.fn 73 []])],1728⟩) (fun t=>t.1<=n/\L77_10 t.1 z5 s6 l7 s9 l10 l11 l12 l13 l14 z16 t.2=some r1) ?_ ?_
  ·try cbv
   refine splitL (fun e=>?_) (fun e=>?_)
   ·replace h:=ite_t e h
    clear e
    try cbv
    exact join_next (n,true) [2,3,4,5,55] [.loc 0,.loc 32,.loc 256] 1728 ⟨by omega,h⟩ (by cbv)
   replace h:=ite_f (Int.not_lt.2 e) h
   clear e
   try cbv
   refine⟨false,rfl,?_⟩
   try cbv
   replace h:=bO1_inv h
   obtain⟨b175,hr,h⟩:=h
   refine call_go rfl rfl ?_
   try cbv
   refine call_pure hM hI (T125 _ hr) rfl ?_
   clear hr
   try cbv
   replace h:=letB_inv h
   obtain⟨b176,hz,h⟩:=h
   refine⟨b176,not_eq' hz,?_⟩
   clear hz
   try cbv
   cases b176
   rotate_left
   ·replace h:=itT h
    try cbv
    exact join_next (n,true) [2,3,4,5,55] [.loc 0,.loc 32,.loc 256] 1728 ⟨by omega,h⟩ (by cbv)
   replace h:=itF h
   try cbv
   replace h:=bO1_inv h
   obtain⟨b177,hr,h⟩:=h
   refine call_go rfl rfl ?_
   try cbv
   refine call_pure hM hI (T74 _ hr) rfl ?_
   clear hr
   try cbv
   replace h:=letB_inv h
   obtain⟨b178,hz,h⟩:=h
   refine⟨b178,not_eq' hz,?_⟩
   clear hz
   try cbv
   cases b178
   rotate_left
   ·replace h:=itT h
    try cbv
    exact join_next (n,true) [2,3,4,5,55] [.loc 0,.loc 32,.loc 256] 1728 ⟨by omega,h⟩ (by cbv)
   replace h:=itF h
   try cbv
   replace h:=bO1_inv h
   obtain⟨b179,hr,h⟩:=h
   refine call_go rfl rfl ?_
   try cbv
   refine call_pure hM hI (T73 _ hr) rfl ?_
   clear hr
   try cbv
   replace h:=letB_inv h
   obtain⟨b180,hz,h⟩:=h
   refine⟨b180,not_eq' hz,?_⟩
   clear hz
   try cbv
   cases b180
   rotate_left
   ·replace h:=itT h
    try cbv
    exact join_next (n,true) [2,3,4,5,55] [.loc 0,.loc 32,.loc 256] 1728 ⟨by omega,h⟩ (by cbv)
   replace h:=itF h
   try cbv
   replace h:=lenF_inv M h
   obtain⟨z181,hz,h⟩:=h
   refine⟨z181,hz,?_⟩
   clear hz
   try cbv
   refine splitI (fun e=>?_) (fun e=>?_)
   ·replace h:=ite_t e h
    clear e
    try cbv
    replace h:=bO1_inv h
    obtain⟨b182,hr,h⟩:=h
    refine call_go rfl rfl ?_
    try cbv
    refine call_pure hM hI (T93x1 _ hr) rfl ?_
    clear hr
    try cbv
    replace h:=letB_inv h
    obtain⟨b183,hz,h⟩:=h
    refine⟨b183,not_eq' hz,?_⟩
    clear hz
    try cbv
    exact join_next (n,b183) [2,3,4,5,55] [.loc 0,.loc 32,.loc 256] 1728 ⟨by omega,h⟩ (by cbv)
   replace h:=ite_f e h
   clear e
   try cbv
   exact join_next (n,true) [2,3,4,5,55] [.loc 0,.loc 32,.loc 256] 1728 ⟨by omega,h⟩ (by cbv)
  clear h
  rintro⟨m10,b184⟩ ⟨hm10,h⟩
  replace hm10:m10<=n:=hm10
  obtain _ | m10:=m10
  ·replace h:L77_10 0 z5 s6 l7 s9 l10 l11 l12 l13 l14 z16 b184=some r1:=h
   rw[L77_10]at h
   cases h
  replace h:L77_10 (m10+1) z5 s6 l7 s9 l10 l11 l12 l13 l14 z16 b184=some r1:=h
  rw[L77_10]at h
  try cbv
  cases b184
  rotate_left
  ·replace h:=itT h
   try cbv
   refine seq_go ?_
   try cbv
   obtain rfl:=Option.some.inj h
   refine fin_go ?_
   try cbv
   exact⟨[],by trivial⟩
  replace h:=itF h
  try cbv
  refine seq_go ?_
  try cbv
  refine seq_join (T:=Nat×Bool) (fun t=>⟨[sL 2 0,sL 3 32,sB 4 false,sL 5 256,sB 93 t.2],[(.loc 0,.cells [.d (.int .u8 z1),.d (.str s2),.d (.str s3),.d (.list false 1 l4),.d (.int .u8 z5),.d (.str s6),.d (.list true 3 l7),.d (.int .i64 z8),.d (.str s9),.d (.list false 1 l10),.d (.list true 8 l11),.d (.list true 15 l12),.d (.list true 15 l13),.d (.list true 3 l14),.d (.int .i64 z15)]),(.loc 32,.cells [.d (.int .i64 z16)]),(.loc 256,.cells [.d (.int .i64 0),.d (.int .i64 0),.d (.bool false),.d (.bool false),.d (.bool false),.d (.bool false),.d (.bool true),.d (.bool false),.fn 74 [],.fn 73 []])],2944⟩) (fun t=>t.1<=m10/\L77_11 t.1 l11 l12 l13 l14 z16 t.2=some r1) ?_ ?_
  ·try cbv
   replace h:=letF_inv h
   obtain⟨z185,hz,h⟩:=h
   refine⟨z185,hz,?_⟩
   clear hz
   try cbv
   replace h:=bO1_inv h
   obtain⟨b186,hr,h⟩:=h
   first | refine .inr (.inl ⟨[],?_⟩) | refine .inl ⟨[],?_⟩
   try cbv
   refine call_pure hM hI (T55 _ hr) rfl ?_
   clear hr
   try cbv
   replace h:=letB_inv h
   obtain⟨b187,hz,h⟩:=h
   refine⟨b187,eqv_ne hz,?_⟩
   clear hz
   try cbv
   cases b187
   rotate_left
   ·replace h:=itT h
    try cbv
    refine drawn ?_ ?_
    ·show _=true
     kernel_rfl
    try cbv
    exact join_next (m10,true) [2,3,4,5,93] [.loc 0,.loc 32,.loc 256] 2944 ⟨by omega,h⟩ (by cbv)
   replace h:=itF h
   try cbv
   refine⟨true,rfl,?_⟩
   try cbv
   replace h:=bO1_inv h
   obtain⟨b188,hr,h⟩:=h
   first | refine .inr (.inl ⟨[],?_⟩) | refine .inl ⟨[],?_⟩
   try cbv
   refine call_pure hM hI (T72 _ hr) rfl ?_
   clear hr
   try cbv
   replace h:=letB_inv h
   obtain⟨b189,hz,h⟩:=h
   refine⟨b189,not_eq' hz,?_⟩
   clear hz
   try cbv
   cases b189
   rotate_left
   ·replace h:=itT h
    try cbv
    refine drawn ?_ ?_
    ·show _=true
     kernel_rfl
    try cbv
    exact join_next (m10,true) [2,3,4,5,93] [.loc 0,.loc 32,.loc 256] 2944 ⟨by omega,h⟩ (by cbv)
   replace h:=itF h
   try cbv
   replace h:=bO1_inv h
   obtain⟨b190,hr,h⟩:=h
   first | refine .inr (.inl ⟨[],?_⟩) | refine .inl ⟨[],?_⟩
   try cbv
   refine call_pure hM hI (T52 _ hr) rfl ?_
   clear hr
   try cbv
   replace h:=letB_inv h
   obtain⟨b191,hz,h⟩:=h
   refine⟨b191,eqv_ne hz,?_⟩
   clear hz
   try cbv
   cases b191
   rotate_left
   ·replace h:=itT h
    try cbv
    refine drawn ?_ ?_
    ·show _=true
     kernel_rfl
    try cbv
    exact join_next (m10,true) [2,3,4,5,93] [.loc 0,.loc 32,.loc 256] 2944 ⟨by omega,h⟩ (by cbv)
   replace h:=itF h
   try cbv
   refine⟨true,rfl,?_⟩
   try cbv
   replace h:=bO1_inv h
   obtain⟨b192,hr,h⟩:=h
   first | refine .inr (.inl ⟨[],?_⟩) | refine .inl ⟨[],?_⟩
   try cbv
   refine call_pure hM hI (T126 _ hr) rfl ?_
   clear hr
   try cbv
   replace h:=letB_inv h
   obtain⟨b193,hz,h⟩:=h
   refine⟨b193,not_eq' hz,?_⟩
   clear hz
   try cbv
   refine drawn ?_ ?_
   ·show _=true
    kernel_rfl
   try cbv
   exact join_next (m10,b193) [2,3,4,5,93] [.loc 0,.loc 32,.loc 256] 2944 ⟨by omega,h⟩ (by cbv)
  clear h
  rintro⟨m11,b194⟩ ⟨hm11,h⟩
  replace hm11:m11<=m10:=hm11
  obtain _ | m11:=m11
  ·replace h:L77_11 0 l11 l12 l13 l14 z16 b194=some r1:=h
   rw[L77_11]at h
   cases h
  replace h:L77_11 (m11+1) l11 l12 l13 l14 z16 b194=some r1:=h
  rw[L77_11]at h
  try cbv
  cases b194
  rotate_left
  ·replace h:=itT h
   try cbv
   refine seq_go ?_
   try cbv
   obtain rfl:=Option.some.inj h
   refine fin_go ?_
   try cbv
   exact⟨[],by trivial⟩
  replace h:=itF h
  try cbv
  refine seq_go ?_
  try cbv
  refine seq_join (T:=Nat×Bool) (fun t=>⟨[sL 2 0,sL 3 32,sB 4 false,sL 5 256,sB 124 t.2],[(.loc 0,.cells [.d (.int .u8 z1),.d (.str s2),.d (.str s3),.d (.list false 1 l4),.d (.int .u8 z5),.d (.str s6),.d (.list true 3 l7),.d (.int .i64 z8),.d (.str s9),.d (.list false 1 l10),.d (.list true 8 l11),.d (.list true 15 l12),.d (.list true 15 l13),.d (.list true 3 l14),.d (.int .i64 z15)]),(.loc 32,.cells [.d (.int .i64 z16)]),(.loc 256,.cells [.d (.int .i64 0),.d (.int .i64 0),.d (.bool false),.d (.bool false),.d (.bool false),.d (.bool false),.d (.bool true),.d (.bool false),.fn 74 [],.fn 73 []])],3936⟩) (fun t=>t.1<=m11/\L77_12 t.1 l11 l12 l13 l14 z16 t.2=some r1) ?_ ?_
  ·try cbv
   refine⟨true,rfl,?_⟩
   try cbv
   replace h:=lenF_inv M h
   obtain⟨z195,hz,h⟩:=h
   refine⟨z195,hz,?_⟩
   clear hz
   try cbv
   refine splitL (fun e=>?_) (fun e=>?_)
   ·replace h:=ite_t e h
    clear e
    try cbv
    exact join_next (m11,true) [2,3,4,5,124] [.loc 0,.loc 32,.loc 256] 3936 ⟨by omega,h⟩ (by cbv)
   replace h:=ite_f (Int.not_lt.2 e) h
   clear e
   try cbv
   refine⟨true,rfl,?_⟩
   try cbv
   replace h:=lenF_inv M h
   obtain⟨z196,hz,h⟩:=h
   refine⟨z196,hz,?_⟩
   clear hz
   try cbv
   refine splitL (fun e=>?_) (fun e=>?_)
   ·replace h:=ite_t e h
    clear e
    try cbv
    exact join_next (m11,true) [2,3,4,5,124] [.loc 0,.loc 32,.loc 256] 3936 ⟨by omega,h⟩ (by cbv)
   replace h:=ite_f (Int.not_lt.2 e) h
   clear e
   try cbv
   refine⟨false,rfl,?_⟩
   try cbv
   exact join_next (m11,false) [2,3,4,5,124] [.loc 0,.loc 32,.loc 256] 3936 ⟨by omega,h⟩ (by cbv)
  clear h
  rintro⟨m12,b197⟩ ⟨hm12,h⟩
  replace hm12:m12<=m11:=hm12
  obtain _ | m12:=m12
  ·replace h:L77_12 0 l11 l12 l13 l14 z16 b197=some r1:=h
   rw[L77_12]at h
   cases h
  replace h:L77_12 (m12+1) l11 l12 l13 l14 z16 b197=some r1:=h
  rw[L77_12]at h
  try cbv
  cases b197
  rotate_left
  ·replace h:=itT h
   try cbv
   refine seq_go ?_
   try cbv
   obtain rfl:=Option.some.inj h
   refine fin_go ?_
   try cbv
   exact⟨[],by trivial⟩
  replace h:=itF h
  try cbv
  refine seq_go ?_
  try cbv
  refine seq_go ?_
  try cbv
  replace h:=bO10_inv h
  obtain⟨b198,z199,z200,b201,b202,b203,b204,b205,b206,z207,hr,h⟩:=h
  refine call_go rfl rfl ?_
  try cbv
  refine call_with hM hI [.loc 256,.loc 32] (T98x4 _ hr) rfl (by simp) ⟨rfl,⟨rfl,trivial⟩⟩ ⟨trivial,⟨trivial,trivial⟩⟩ (by simp) ?_
  clear hr
  try cbv
  cases b198
  ·replace h:=itF h
   try cbv
   obtain rfl:=Option.some.inj h
   refine fin_go ?_
   try cbv
   exact⟨[],by trivial⟩
  replace h:=itT h
  try cbv
  replace h:=lenF_inv M h
  obtain⟨z208,hz,h⟩:=h
  refine⟨z208,hz,?_⟩
  clear hz
  try cbv
  replace h:=bO2_inv h
  obtain⟨b209,z210,hr,h⟩:=h
  refine call_go rfl rfl ?_
  try cbv
  refine call_with hM hI [.loc 32] ((ih _ (by omega)).2.1 hr) rfl (by simp) ⟨rfl,trivial⟩ ⟨trivial,trivial⟩ (by simp) ?_
  clear hr
  try cbv
  cases b209
  ·replace h:=itF h
   try cbv
   obtain rfl:=Option.some.inj h
   refine fin_go ?_
   try cbv
   exact⟨[],by trivial⟩
  replace h:=itT h
  try cbv
  replace h:=lenF_inv M h
  obtain⟨z211,hz,h⟩:=h
  refine⟨z211,hz,?_⟩
  clear hz
  try cbv
  replace h:=bO2_inv h
  obtain⟨b212,z213,hr,h⟩:=h
  refine call_go rfl rfl ?_
  try cbv
  refine call_with hM hI [.loc 32] ((ih _ (by omega)).2.1 hr) rfl (by simp) ⟨rfl,trivial⟩ ⟨trivial,trivial⟩ (by simp) ?_
  clear hr
  try cbv
  cases b212
  ·replace h:=itF h
   try cbv
   obtain rfl:=Option.some.inj h
   refine fin_go ?_
   try cbv
   exact⟨[],by trivial⟩
  replace h:=itT h
  try cbv
  replace h:=bO2_inv h
  obtain⟨b214,z215,hr,h⟩:=h
  refine call_go rfl rfl ?_
  try cbv
  refine call_with hM hI [.loc 3968,.loc 32] ((ih _ (by omega)).2.2.2.1 hr) rfl (by simp) ⟨rfl,⟨rfl,trivial⟩⟩ ⟨trivial,⟨trivial,trivial⟩⟩ (by simp) ?_
  clear hr
  try cbv
  obtain rfl:=Option.some.inj h
  refine fin_go ?_
  try cbv
  exact⟨[],by trivial⟩
 obtain rfl:=Option.some.inj hr2
 refine call_go rfl rfl ?_
 try cbv
 refine call_pure hM hI (T124 _ hr (fun r p n=>r= .t [.agg [.d (.int .i64 0),.d (.int .i64 0),.d (.bool true),.d (.bool false),.d (.bool false),.d (.bool false),.d (.bool false),.d (.bool false),.fn 74 [],.fn 74 []],.d (.bool true)]/\p=[]/\n=[]) ⟨rfl,rfl,rfl⟩:Trip _ _ _ _ _ (.t [.agg [.d (.int .i64 0),.d (.int .i64 0),.d (.bool true),.d (.bool false),.d (.bool false),.d (.bool false),.d (.bool false),.d (.bool false),.fn 74 [],.fn 74 []],.d (.bool true)]) [] []) rfl ?_
 clear hr
 try cbv
 refine seq_go ?_
 try cbv
 refine seq_join (T:=Nat×Bool) (fun t=>⟨[sL 2 0,sL 3 32,sB 4 false,sL 5 256,sB 55 t.2],[(.loc 0,.cells [.d (.int .u8 z1),.d (.str s2),.d (.str s3),.d (.list false 1 l4),.d (.int .u8 z5),.d (.str s6),.d (.list true 3 l7),.d (.int .i64 z8),.d (.str s9),.d (.list false 1 l10),.d (.list true 8 l11),.d (.list true 15 l12),.d (.list true 15 l13),.d (.list true 3 l14),.d (.int .i64 z15)]),(.loc 32,.cells [.d (.int .i64 z16)]),(.loc 256,.cells [.d (.int .i64 0),.d (.int .i64 0),.d (.bool true),.d (.bool false),.d (.bool false),.d (.bool false),.d (.bool false),.d (.bool false),.fn 74 [],.fn 74 []])],1728⟩) (fun t=>t.1<=n/\L77_13 t.1 z5 s6 l7 s9 l10 l11 l12 l13 l14 z16 t.2=some r1) ?_ ?_
 ·try cbv
  refine splitL (fun e=>?_) (fun e=>?_)
  ·replace h:=ite_t e h
   clear e
   try cbv
   exact join_next (n,true) [2,3,4,5,55] [.loc 0,.loc 32,.loc 256] 1728 ⟨by omega,h⟩ (by cbv)
  replace h:=ite_f (Int.not_lt.2 e) h
  clear e
  try cbv
  refine⟨false,rfl,?_⟩
  try cbv
  replace h:=bO1_inv h
  obtain⟨b216,hr,h⟩:=h
  refine call_go rfl rfl ?_
  try cbv
  refine call_pure hM hI (T125 _ hr) rfl ?_
  clear hr
  try cbv
  replace h:=letB_inv h
  obtain⟨b217,hz,h⟩:=h
  refine⟨b217,not_eq' hz,?_⟩
  clear hz
  try cbv
  cases b217
  rotate_left
  ·replace h:=itT h
   try cbv
   exact join_next (n,true) [2,3,4,5,55] [.loc 0,.loc 32,.loc 256] 1728 ⟨by omega,h⟩ (by cbv)
  replace h:=itF h
  try cbv
  replace h:=bO1_inv h
  obtain⟨b218,hr,h⟩:=h
  refine call_go rfl rfl ?_
  try cbv
  refine call_pure hM hI (T74 _ hr) rfl ?_
  clear hr
  try cbv
  replace h:=letB_inv h
  obtain⟨b219,hz,h⟩:=h
  refine⟨b219,not_eq' hz,?_⟩
  clear hz
  try cbv
  cases b219
  rotate_left
  ·replace h:=itT h
   try cbv
   exact join_next (n,true) [2,3,4,5,55] [.loc 0,.loc 32,.loc 256] 1728 ⟨by omega,h⟩ (by cbv)
  replace h:=itF h
  try cbv
  replace h:=bO1_inv h
  obtain⟨b220,hr,h⟩:=h
  refine call_go rfl rfl ?_
  try cbv
  refine call_pure hM hI (T74 _ hr) rfl ?_
  clear hr
  try cbv
  replace h:=letB_inv h
  obtain⟨b221,hz,h⟩:=h
  refine⟨b221,not_eq' hz,?_⟩
  clear hz
  try cbv
  cases b221
  rotate_left
  ·replace h:=itT h
   try cbv
   exact join_next (n,true) [2,3,4,5,55] [.loc 0,.loc 32,.loc 256] 1728 ⟨by omega,h⟩ (by cbv)
  replace h:=itF h
  try cbv
  replace h:=lenF_inv M h
  obtain⟨z222,hz,h⟩:=h
  refine⟨z222,hz,?_⟩
  clear hz
  try cbv
  refine splitI (fun e=>?_) (fun e=>?_)
  ·replace h:=ite_t e h
   clear e
   try cbv
   replace h:=bO1_inv h
   obtain⟨b223,hr,h⟩:=h
   refine call_go rfl rfl ?_
   try cbv
   refine call_pure hM hI (T93x1 _ hr) rfl ?_
   clear hr
   try cbv
   replace h:=letB_inv h
   obtain⟨b224,hz,h⟩:=h
   refine⟨b224,not_eq' hz,?_⟩
   clear hz
   try cbv
   exact join_next (n,b224) [2,3,4,5,55] [.loc 0,.loc 32,.loc 256] 1728 ⟨by omega,h⟩ (by cbv)
  replace h:=ite_f e h
  clear e
  try cbv
  exact join_next (n,true) [2,3,4,5,55] [.loc 0,.loc 32,.loc 256] 1728 ⟨by omega,h⟩ (by cbv)
 clear h
 rintro⟨m13,b225⟩ ⟨hm13,h⟩
 replace hm13:m13<=n:=hm13
 obtain _ | m13:=m13
 ·replace h:L77_13 0 z5 s6 l7 s9 l10 l11 l12 l13 l14 z16 b225=some r1:=h
  rw[L77_13]at h
  cases h
 replace h:L77_13 (m13+1) z5 s6 l7 s9 l10 l11 l12 l13 l14 z16 b225=some r1:=h
 rw[L77_13]at h
 try cbv
 cases b225
 rotate_left
 ·replace h:=itT h
  try cbv
  refine seq_go ?_
  try cbv
  obtain rfl:=Option.some.inj h
  refine fin_go ?_
  try cbv
  exact⟨[],by trivial⟩
 replace h:=itF h
 try cbv
 refine seq_go ?_
 try cbv
 refine seq_join (T:=Nat×Bool) (fun t=>⟨[sL 2 0,sL 3 32,sB 4 false,sL 5 256,sB 93 t.2],[(.loc 0,.cells [.d (.int .u8 z1),.d (.str s2),.d (.str s3),.d (.list false 1 l4),.d (.int .u8 z5),.d (.str s6),.d (.list true 3 l7),.d (.int .i64 z8),.d (.str s9),.d (.list false 1 l10),.d (.list true 8 l11),.d (.list true 15 l12),.d (.list true 15 l13),.d (.list true 3 l14),.d (.int .i64 z15)]),(.loc 32,.cells [.d (.int .i64 z16)]),(.loc 256,.cells [.d (.int .i64 0),.d (.int .i64 0),.d (.bool true),.d (.bool false),.d (.bool false),.d (.bool false),.d (.bool false),.d (.bool false),.fn 74 [],.fn 74 []])],2944⟩) (fun t=>t.1<=m13/\L77_14 t.1 l11 l12 l13 l14 z16 t.2=some r1) ?_ ?_
 ·try cbv
  replace h:=letF_inv h
  obtain⟨z226,hz,h⟩:=h
  refine⟨z226,hz,?_⟩
  clear hz
  try cbv
  replace h:=bO1_inv h
  obtain⟨b227,hr,h⟩:=h
  first | refine .inr (.inl ⟨[],?_⟩) | refine .inl ⟨[],?_⟩
  try cbv
  refine call_pure hM hI (T55 _ hr) rfl ?_
  clear hr
  try cbv
  replace h:=letB_inv h
  obtain⟨b228,hz,h⟩:=h
  refine⟨b228,eqv_ne hz,?_⟩
  clear hz
  try cbv
  cases b228
  rotate_left
  ·replace h:=itT h
   try cbv
   refine drawn ?_ ?_
   ·show _=true
    kernel_rfl
   try cbv
   exact join_next (m13,true) [2,3,4,5,93] [.loc 0,.loc 32,.loc 256] 2944 ⟨by omega,h⟩ (by cbv)
  replace h:=itF h
  try cbv
  refine⟨false,rfl,?_⟩
  try cbv
  replace h:=bO1_inv h
  obtain⟨b229,hr,h⟩:=h
  first | refine .inr (.inl ⟨[],?_⟩) | refine .inl ⟨[],?_⟩
  try cbv
  refine call_pure hM hI (T52 _ hr) rfl ?_
  clear hr
  try cbv
  replace h:=letB_inv h
  obtain⟨b230,hz,h⟩:=h
  refine⟨b230,eqv_ne hz,?_⟩
  clear hz
  try cbv
  cases b230
  rotate_left
  ·replace h:=itT h
   try cbv
   refine drawn ?_ ?_
   ·show _=true
    kernel_rfl
   try cbv
   exact join_next (m13,true) [2,3,4,5,93] [.loc 0,.loc 32,.loc 256] 2944 ⟨by omega,h⟩ (by cbv)
  replace h:=itF h
  try cbv
  refine⟨true,rfl,?_⟩
  try cbv
  replace h:=bO1_inv h
  obtain⟨b231,hr,h⟩:=h
  first | refine .inr (.inl ⟨[],?_⟩) | refine .inl ⟨[],?_⟩
  try cbv
  refine call_pure hM hI (T126 _ hr) rfl ?_
  clear hr
  try cbv
  replace h:=letB_inv h
  obtain⟨b232,hz,h⟩:=h
  refine⟨b232,not_eq' hz,?_⟩
  clear hz
  try cbv
  refine drawn ?_ ?_
  ·show _=true
   kernel_rfl
  try cbv
  exact join_next (m13,b232) [2,3,4,5,93] [.loc 0,.loc 32,.loc 256] 2944 ⟨by omega,h⟩ (by cbv)
 clear h
 rintro⟨m14,b233⟩ ⟨hm14,h⟩
 replace hm14:m14<=m13:=hm14
 obtain _ | m14:=m14
 ·replace h:L77_14 0 l11 l12 l13 l14 z16 b233=some r1:=h
  rw[L77_14]at h
  cases h
 replace h:L77_14 (m14+1) l11 l12 l13 l14 z16 b233=some r1:=h
 rw[L77_14]at h
 try cbv
 cases b233
 rotate_left
 ·replace h:=itT h
  try cbv
  refine seq_go ?_
  try cbv
  obtain rfl:=Option.some.inj h
  refine fin_go ?_
  try cbv
  exact⟨[],by trivial⟩
 replace h:=itF h
 try cbv
 refine seq_go ?_
 try cbv
 refine seq_join (T:=Nat×Bool) (fun t=>⟨[sL 2 0,sL 3 32,sB 4 false,sL 5 256,sB 124 t.2],[(.loc 0,.cells [.d (.int .u8 z1),.d (.str s2),.d (.str s3),.d (.list false 1 l4),.d (.int .u8 z5),.d (.str s6),.d (.list true 3 l7),.d (.int .i64 z8),.d (.str s9),.d (.list false 1 l10),.d (.list true 8 l11),.d (.list true 15 l12),.d (.list true 15 l13),.d (.list true 3 l14),.d (.int .i64 z15)]),(.loc 32,.cells [.d (.int .i64 z16)]),(.loc 256,.cells [.d (.int .i64 0),.d (.int .i64 0),.d (.bool true),.d (.bool false),.d (.bool false),.d (.bool false),.d (.bool false),.d (.bool false),.fn 74 [],.fn 74 []])],3936⟩) (fun t=>t.1<=m14/\L77_15 t.1 l11 l12 l13 l14 z16 t.2=some r1) ?_ ?_
 ·try cbv
  refine⟨true,rfl,?_⟩
  try cbv
  replace h:=lenF_inv M h
  obtain⟨z234,hz,h⟩:=h
  refine⟨z234,hz,?_⟩
  clear hz
  try cbv
  refine splitL (fun e=>?_) (fun e=>?_)
  ·replace h:=ite_t e h
   clear e
   try cbv
   exact join_next (m14,true) [2,3,4,5,124] [.loc 0,.loc 32,.loc 256] 3936 ⟨by omega,h⟩ (by cbv)
  replace h:=ite_f (Int.not_lt.2 e) h
  clear e
  try cbv
  refine⟨true,rfl,?_⟩
  try cbv
  replace h:=lenF_inv M h
  obtain⟨z235,hz,h⟩:=h
  refine⟨z235,hz,?_⟩
  clear hz
  try cbv
  refine splitL (fun e=>?_) (fun e=>?_)
  ·replace h:=ite_t e h
   clear e
   try cbv
   exact join_next (m14,true) [2,3,4,5,124] [.loc 0,.loc 32,.loc 256] 3936 ⟨by omega,h⟩ (by cbv)
  replace h:=ite_f (Int.not_lt.2 e) h
  clear e
  try cbv
  refine⟨true,rfl,?_⟩
  try cbv
  replace h:=lenF_inv M h
  obtain⟨z236,hz,h⟩:=h
  refine⟨z236,hz,?_⟩
  clear hz
  try cbv
  refine splitL (fun e=>?_) (fun e=>?_)
  ·replace h:=ite_t e h
   clear e
   try cbv
   exact join_next (m14,true) [2,3,4,5,124] [.loc 0,.loc 32,.loc 256] 3936 ⟨by omega,h⟩ (by cbv)
  replace h:=ite_f (Int.not_lt.2 e) h
  clear e
  try cbv
  exact join_next (m14,false) [2,3,4,5,124] [.loc 0,.loc 32,.loc 256] 3936 ⟨by omega,h⟩ (by cbv)
 clear h
 rintro⟨m15,b237⟩ ⟨hm15,h⟩
 replace hm15:m15<=m14:=hm15
 obtain _ | m15:=m15
 ·replace h:L77_15 0 l11 l12 l13 l14 z16 b237=some r1:=h
  rw[L77_15]at h
  cases h
 replace h:L77_15 (m15+1) l11 l12 l13 l14 z16 b237=some r1:=h
 rw[L77_15]at h
 try cbv
 cases b237
 rotate_left
 ·replace h:=itT h
  try cbv
  refine seq_go ?_
  try cbv
  obtain rfl:=Option.some.inj h
  refine fin_go ?_
  try cbv
  exact⟨[],by trivial⟩
 replace h:=itF h
 try cbv
 refine seq_go ?_
 try cbv
 refine seq_go ?_
 try cbv
 replace h:=bO10_inv h
 obtain⟨b238,z239,z240,b241,b242,b243,b244,b245,b246,z247,hr,h⟩:=h
 refine call_go rfl rfl ?_
 try cbv
 refine call_with hM hI [.loc 256,.loc 32] (T98x5 _ hr) rfl (by simp) ⟨rfl,⟨rfl,trivial⟩⟩ ⟨trivial,⟨trivial,trivial⟩⟩ (by simp) ?_
 clear hr
 try cbv
 cases b238
 ·replace h:=itF h
  try cbv
  obtain rfl:=Option.some.inj h
  refine fin_go ?_
  try cbv
  exact⟨[],by trivial⟩
 replace h:=itT h
 try cbv
 replace h:=lenF_inv M h
 obtain⟨z248,hz,h⟩:=h
 refine⟨z248,hz,?_⟩
 clear hz
 try cbv
 replace h:=bO2_inv h
 obtain⟨b249,z250,hr,h⟩:=h
 refine call_go rfl rfl ?_
 try cbv
 refine call_with hM hI [.loc 32] ((ih _ (by omega)).2.1 hr) rfl (by simp) ⟨rfl,trivial⟩ ⟨trivial,trivial⟩ (by simp) ?_
 clear hr
 try cbv
 cases b249
 ·replace h:=itF h
  try cbv
  obtain rfl:=Option.some.inj h
  refine fin_go ?_
  try cbv
  exact⟨[],by trivial⟩
 replace h:=itT h
 try cbv
 replace h:=lenF_inv M h
 obtain⟨z251,hz,h⟩:=h
 refine⟨z251,hz,?_⟩
 clear hz
 try cbv
 replace h:=bO2_inv h
 obtain⟨b252,z253,hr,h⟩:=h
 refine call_go rfl rfl ?_
 try cbv
 refine call_with hM hI [.loc 32] ((ih _ (by omega)).2.1 hr) rfl (by simp) ⟨rfl,trivial⟩ ⟨trivial,trivial⟩ (by simp) ?_
 clear hr
 try cbv
 cases b252
 ·replace h:=itF h
  try cbv
  obtain rfl:=Option.some.inj h
  refine fin_go ?_
  try cbv
  exact⟨[],by trivial⟩
 replace h:=itT h
 try cbv
 replace h:=bO2_inv h
 obtain⟨b254,z255,hr,h⟩:=h
 refine call_go rfl rfl ?_
 try cbv
 refine call_with hM hI [.loc 3968,.loc 32] ((ih _ (by omega)).2.2.2.1 hr) rfl (by simp) ⟨rfl,⟨rfl,trivial⟩⟩ ⟨trivial,⟨trivial,trivial⟩⟩ (by simp) ?_
 clear hr
 try cbv
 obtain rfl:=Option.some.inj h
 refine fin_go ?_
 try cbv
 exact⟨[],by trivial⟩
theorem T77 (n:Nat):∀⦃z1 s2 s3 l4 z5 s6 l7 z8 s9 l10 l11 l12 l13 l14 z15 z16 r1⦄,F77 n z1 s2 s3 l4 z5 s6 l7 z8 s9 l10 l11 l12 l13 l14 z15 z16=some r1->
  Trip Tryz.prog inv 77 [.d (.agg [.int .u8 z1,.str s2,.str s3,.list false 1 l4,.int .u8 z5,.str s6,.list true 3 l7,.int .i64 z8,.str s9,.list false 1 l10,.list true 8 l11,.list true 15 l12,.list true 15 l13,.list true 3 l14,.int .i64 z15]),.d (.int .i64 z16)] [] (.v (.d (.bool r1))) [] []:=(G127 n).2.2.2.2
def F76 (n:Nat) (z1:Int) (s2:BA) (s3:BA) (l4:LD) (z5:Int) (s6:BA) (l7:LD) (z8:Int) (s9:BA) (l10:LD) (l11:LD) (l12:LD) (l13:LD) (l14:LD) (z15:Int) (z16:Int):Option (Bool×Int):=
 letF (IntKind.wrap .i64 (z16 - 1)) fun z17=>bO1 (F77 n z1 s2 s3 l4 z5 s6 l7 z8 s9 l10 l11 l12 l13 l14 z15 z17) fun b18=>some (b18,z16)
theorem T76 (n:Nat):∀⦃z1 s2 s3 l4 z5 s6 l7 z8 s9 l10 l11 l12 l13 l14 z15 z16 r1 r2⦄,F76 n z1 s2 s3 l4 z5 s6 l7 z8 s9 l10 l11 l12 l13 l14 z15 z16=some (r1,r2)->
    Trip Tryz.prog inv 76 [.d (.agg [.int .u8 z1,.str s2,.str s3,.list false 1 l4,.int .u8 z5,.str s6,.list true 3 l7,.int .i64 z8,.str s9,.list false 1 l10,.list true 8 l11,.list true 15 l12,.list true 15 l13,.list true 3 l14,.int .i64 z15]),.c (.ptr (.ext 0) 0)] [.cells [.d (.int .i64 z16)]] (.v (.d (.bool r1))) [.cells [.d (.int .i64 r2)]] []:=by
 intro z1 s2 s3 l4 z5 s6 l7 z8 s9 l10 l11 l12 l13 l14 z15 z16 r1 r2 h
 unfold F76 at h
 refine Trip.of tab_ok tab_one fol Tryz.func76 rfl (by kernel_rfl) rfl rfl rfl (fun M hM hI=>?_)
 try cbv
 refine seq_go ?_
 try cbv
 refine seq_go ?_
 try cbv
 replace h:=letF_inv h
 obtain⟨z17,hz,h⟩:=h
 refine⟨z17,hz,?_⟩
 clear hz
 try cbv
 replace h:=bO1_inv h
 obtain⟨b18,hr,h⟩:=h
 refine call_go rfl rfl ?_
 try cbv
 refine call_pure hM hI (T77 _ hr) rfl ?_
 clear hr
 try cbv
 obtain⟨rfl,rfl⟩:=inj2 h
 refine fin_go ?_
 try cbv
 exact⟨[],rfl,rfl,⟨rfl,trivial⟩,trivial,trivial⟩
mutual
def L75_1:Nat->LD->Int->Int->Int->Option (Bool×Int)
 | 0,_,_,_,_=>none
 | n+1,l1,z2,z4,z5=>
  lenF l1 fun z6=>(if z4<z6 then (if z4<z2 then L75_2 n l1 z2 z4 z5 true else L75_2 n l1 z2 z4 z5 false)else L75_2 n l1 z2 z4 z5 false)
def L75_2:Nat->LD->Int->Int->Int->Bool->Option (Bool×Int)
 | 0,_,_,_,_,_=>none
 | n+1,l1,z2,z4,z5,b7=>
  (if b7=true then getF l1 z4 fun x8=>ds_t50 x8 fun z9 s10 s11 l12 z13 s14 l15 z16 s17 l18 l19 l20 l21 l22 z23=>bO2 (F76 n z9 s10 s11 l12 z13 s14 l15 z16 s17 l18 l19 l20 l21 l22 z23 z5) fun b24 z25=>letB (!b24) fun b26=>(if b26=true then some (false,z25)else letF (IntKind.wrap .i64 (z4+1)) fun z27=>L75_1 n l1 z2 z27 z25)else lenF l1 fun z28=>(if z28<=z2 then some (true,z5)else some (false,z5)))
end
def F75 (n:Nat) (l1:LD) (z2:Int) (z3:Int):Option (Bool×Int):=
 L75_1 n l1 z2 (0:Int) z3
theorem T75 (n:Nat):∀⦃l1 z2 z3 r1 r2⦄,F75 n l1 z2 z3=some (r1,r2)->
    Trip Tryz.prog inv 75 [.d (.list true 15 l1),.d (.int .i64 z2),.c (.fn 76 [.ext 0])] [.cells [.d (.int .i64 z3)]] (.v (.d (.bool r1))) [.cells [.d (.int .i64 r2)]] []:=by
 intro l1 z2 z3 r1 r2 h
 unfold F75 at h
 refine Trip.of tab_ok tab_one fol Tryz.func75 rfl (by kernel_rfl) rfl rfl rfl (fun M hM hI=>?_)
 try cbv
 refine seq_go ?_
 try cbv
 refine seq_go ?_
 try cbv
 refine seq_go ?_
 try cbv
 refine loop_inv (T:=Nat×Int×Int) [0,1,2,6,7] [.ext 0] 64 (fun t=>⟨[sT 0 15 l1,sI 1 z2,(2,.v (.c (.fn 76 [.ext 0]))),sB 6 false,sI 7 t.2.1],[(.ext 0,.cells [.d (.int .i64 t.2.2)])],64⟩)
   (fun t=>t.1<=n/\L75_1 t.1 l1 z2 t.2.1 t.2.2=some (r1,r2)) (fun t=>t.1) (n,((0:Int),z3)) ⟨Nat.le_refl _,h⟩ (by cbv) ?_
 clear h
 rintro⟨m1,z4,z5⟩ ⟨hm1,h⟩
 replace hm1:m1<=n:=hm1
 obtain _ | m1:=m1
 ·replace h:L75_1 0 l1 z2 z4 z5=some (r1,r2):=h
  rw[L75_1]at h
  cases h
 replace h:L75_1 (m1+1) l1 z2 z4 z5=some (r1,r2):=h
 rw[L75_1]at h
 try cbv
 refine seq_go ?_
 try cbv
 refine seq_joinB 16 [0,1,2,6,7,16] [.ext 0] 352 (fun m b=>m<=m1/\L75_2 m l1 z2 z4 z5 b=some (r1,r2)) ?_ ?_
 ·try cbv
  replace h:=lenF_inv M h
  obtain⟨z6,hz,h⟩:=h
  refine⟨z6,hz,?_⟩
  clear hz
  try cbv
  refine splitL (fun e=>?_) (fun e=>?_)
  ·replace h:=ite_t e h
   clear e
   try cbv
   refine splitL (fun e=>?_) (fun e=>?_)
   ·replace h:=ite_t e h
    clear e
    try cbv
    exact join_next (m1,true) [0,1,2,6,7,16] [.ext 0] 352 ⟨by omega,h⟩ (by cbv)
   replace h:=ite_f (Int.not_lt.2 e) h
   clear e
   try cbv
   exact join_next (m1,false) [0,1,2,6,7,16] [.ext 0] 352 ⟨by omega,h⟩ (by cbv)
  replace h:=ite_f (Int.not_lt.2 e) h
  clear e
  try cbv
  exact join_next (m1,false) [0,1,2,6,7,16] [.ext 0] 352 ⟨by omega,h⟩ (by cbv)
 clear h
 rintro⟨m2,b7⟩ ⟨hm2,h⟩
 try cbv
 replace hm2:m2<=m1:=hm2
 obtain _ | m2:=m2
 ·replace h:L75_2 0 l1 z2 z4 z5 b7=some (r1,r2):=h
  rw[L75_2]at h
  cases h
 replace h:L75_2 (m2+1) l1 z2 z4 z5 b7=some (r1,r2):=h
 rw[L75_2]at h
 try cbv
 cases b7
 ·replace h:=itF h
  try cbv
  refine seq_go ?_
  try cbv
  replace h:=lenF_inv M h
  obtain⟨z28,hz,h⟩:=h
  refine⟨z28,hz,?_⟩
  clear hz
  try cbv
  refine splitLe (fun e=>?_) (fun e=>?_)
  ·replace h:=ite_t e h
   clear e
   try cbv
   obtain⟨rfl,rfl⟩:=inj2 h
   refine fin_go ?_
   try cbv
   exact⟨[],rfl,rfl,⟨rfl,trivial⟩,trivial,trivial⟩
  replace h:=ite_f (Int.not_le.2 e) h
  clear e
  try cbv
  obtain⟨rfl,rfl⟩:=inj2 h
  refine fin_go ?_
  try cbv
  exact⟨[],rfl,rfl,⟨rfl,trivial⟩,trivial,trivial⟩
 replace h:=itT h
 try cbv
 refine seq_go ?_
 try cbv
 refine seq_go ?_
 try cbv
 replace h:=getF_inv h
 obtain⟨x8,⟨hx0,hx⟩,h⟩:=h
 refine⟨x8,hx0,hx,?_⟩
 clear hx0 hx
 replace h:=ds_t50_inv h
 obtain⟨z9,s10,s11,l12,z13,s14,l15,z16,s17,l18,l19,l20,l21,l22,z23,rfl,h⟩:=h
 try cbv
 replace h:=bO2_inv h
 obtain⟨b24,z25,hr,h⟩:=h
 refine call_go rfl rfl ?_
 try cbv
 refine call_with hM hI [.ext 0] (T76 _ hr) rfl (by simp) ⟨rfl,trivial⟩ ⟨trivial,trivial⟩ (by simp) ?_
 clear hr
 try cbv
 replace h:=letB_inv h
 obtain⟨b26,hz,h⟩:=h
 refine⟨b26,not_eq' hz,?_⟩
 clear hz
 try cbv
 cases b26
 ·replace h:=itF h
  try cbv
  replace h:=letF_inv h
  obtain⟨z27,hz,h⟩:=h
  refine⟨z27,hz,?_⟩
  clear hz
  try cbv
  exact loop_next (m2,(z27,z25)) [0,1,2,6,7] [.ext 0] 64 ⟨by omega,h⟩ (Nat.lt_succ_of_le (by omega)) (by cbv)
 replace h:=itT h
 try cbv
 refine seq_go ?_
 try cbv
 obtain⟨rfl,rfl⟩:=inj2 h
 refine fin_go ?_
 try cbv
 exact⟨[],rfl,rfl,⟨rfl,trivial⟩,trivial,trivial⟩
def L37_4:Nat->Int->BA->LD->Int->BA->LD->LD->Int->Int->BA->BA->BA->LD->LD->Int->Int->Int->Bool->Option (Bool)
 | 0,_,_,_,_,_,_,_,_,_,_,_,_,_,_,_,_,_,_=>none
 | n+1,z1,s2,l3,z4,s5,l6,l7,z8,z9,s10,s11,s12,l13,l14,z15,z16,z17,b61=>
  (if b61=true then bO1 (F74 n s2) fun b62=>(if b62=true then bO18 (F69 n false z1 s2 l3 z4 s5 l6 l7 z8 z9 s10 s11 s12 l13 l14 z15 z16 z17) fun b63 z64 s65 l66 z67 s68 l69 l70 z71 z72 s73 s74 s75 l76 l77 z78 z79 z80=>(if b63=true then letF (IntKind.wrap .i64 (z80 - 1)) fun z81=>bO1 (F55 n z67 s68 l69 z81) fun b82=>(if b82=true then bO1 (F53 n z71 z72 s73 s74 s75 l76 l77 z78) fun b83=>letB (!b83) fun b84=>(if b84=true then letF (IntKind.wrap .i64 (z80 - 1)) fun z85=>bO1 (F54 n z71 z72 s73 s74 s75 l76 l77 z78 z85) fun b86=>(if b86=true then lenF l70 fun z87=>bO2 (F75 n l70 z87 z80) fun b88 z89=>some b88 else some false)else some false)else some false)else some false)else some false)else some false)
def L37_3:Nat->Int->BA->LD->Int->BA->LD->LD->Int->Int->BA->BA->BA->LD->LD->Int->Int->Int->Bool->Bool->Option (Bool)
 | 0,_,_,_,_,_,_,_,_,_,_,_,_,_,_,_,_,_,_,_=>none
 | n+1,z1,s2,l3,z4,s5,l6,l7,z8,z9,s10,s11,s12,l13,l14,z15,z16,z17,b22,b42=>
  (if b42=true then (if b22=true then bO18 (F69x1 n true z1 s2 l3 z4 s5 l6 l7 z8 z9 s10 s11 s12 l13 l14 z15 z16 z17) fun b43 z44 s45 l46 z47 s48 l49 l50 z51 z52 s53 s54 s55 l56 l57 z58 z59 z60=>some b43 else some false)else (if z1=(3:Int)then L37_4 n z1 s2 l3 z4 s5 l6 l7 z8 z9 s10 s11 s12 l13 l14 z15 z16 z17 true else L37_4 n z1 s2 l3 z4 s5 l6 l7 z8 z9 s10 s11 s12 l13 l14 z15 z16 z17 false))
def L37_2:Nat->Int->BA->LD->Int->BA->LD->LD->Int->Int->BA->BA->BA->LD->LD->Int->Int->Int->Bool->Bool->Option (Bool)
 | 0,_,_,_,_,_,_,_,_,_,_,_,_,_,_,_,_,_,_,_=>none
 | n+1,z1,s2,l3,z4,s5,l6,l7,z8,z9,s10,s11,s12,l13,l14,z15,z16,z17,b22,b23=>
  (if b23=true then (if b22=true then bO18 (F69 n false z1 s2 l3 z4 s5 l6 l7 z8 z9 s10 s11 s12 l13 l14 z15 z16 z17) fun b24 z25 s26 l27 z28 s29 l30 l31 z32 z33 s34 s35 s36 l37 l38 z39 z40 z41=>some b24 else some false)else (if z1=(2:Int)then L37_3 n z1 s2 l3 z4 s5 l6 l7 z8 z9 s10 s11 s12 l13 l14 z15 z16 z17 b22 true else L37_3 n z1 s2 l3 z4 s5 l6 l7 z8 z9 s10 s11 s12 l13 l14 z15 z16 z17 b22 false))
def L37_1:Nat->Int->BA->LD->Int->BA->LD->LD->Int->Int->BA->BA->BA->LD->LD->Int->Int->Int->Bool->Option (Bool)
 | 0,_,_,_,_,_,_,_,_,_,_,_,_,_,_,_,_,_,_=>none
 | n+1,z1,s2,l3,z4,s5,l6,l7,z8,z9,s10,s11,s12,l13,l14,z15,z16,z17,b22=>
  (if z1=(1:Int)then L37_2 n z1 s2 l3 z4 s5 l6 l7 z8 z9 s10 s11 s12 l13 l14 z15 z16 z17 b22 true else L37_2 n z1 s2 l3 z4 s5 l6 l7 z8 z9 s10 s11 s12 l13 l14 z15 z16 z17 b22 false)
def F37 (n:Nat) (z1:Int) (s2:BA) (l3:LD) (z4:Int) (s5:BA) (l6:LD) (l7:LD) (z8:Int) (z9:Int) (s10:BA) (s11:BA) (s12:BA) (l13:LD) (l14:LD) (z15:Int) (z16:Int) (z17:Int):Option (Bool):=
 bO1 (F72 n z4 s5 l6) fun b18=>(if b18=true then lenF l7 fun z19=>(if z19=(0:Int)then bO1 (F62 n z8 z9 s10 s11 s12 l13 l14 z15 (0:Int) (0:Int) ByteArray.empty ByteArray.empty ByteArray.empty ([]:LD) ([]:LD) (0:Int)) fun b20=>(if b20=true then bO1 (F73 n s2) fun b21=>L37_1 n z1 s2 l3 z4 s5 l6 l7 z8 z9 s10 s11 s12 l13 l14 z15 z16 z17 b21 else L37_1 n z1 s2 l3 z4 s5 l6 l7 z8 z9 s10 s11 s12 l13 l14 z15 z16 z17 false)else L37_1 n z1 s2 l3 z4 s5 l6 l7 z8 z9 s10 s11 s12 l13 l14 z15 z16 z17 false)else L37_1 n z1 s2 l3 z4 s5 l6 l7 z8 z9 s10 s11 s12 l13 l14 z15 z16 z17 false)
theorem T37 (n:Nat):∀⦃z1 s2 l3 z4 s5 l6 l7 z8 z9 s10 s11 s12 l13 l14 z15 z16 z17 r1⦄,F37 n z1 s2 l3 z4 s5 l6 l7 z8 z9 s10 s11 s12 l13 l14 z15 z16 z17=some r1->
    Trip Tryz.prog inv 37 [.d (.agg [.int .u8 z1,.str s2,.list true 4 l3,.int .u8 z4,.str s5,.list true 3 l6,.list true 15 l7,.int .u8 z8,.int .i64 z9,.str s10,.str s11,.str s12,.list false 1 l13,.list true 8 l14,.int .i64 z15,.int .i64 z16]),.d (.int .i64 z17)] [] (.v (.d (.bool r1))) [] []:=by
 intro z1 s2 l3 z4 s5 l6 l7 z8 z9 s10 s11 s12 l13 l14 z15 z16 z17 r1 h
 unfold F37 at h
 refine Trip.of tab_ok tab_one fol Tryz.func37 rfl (by kernel_rfl) rfl rfl rfl (fun M hM hI=>?_)
 try cbv
 refine seq_go ?_
 try cbv
 refine seq_go ?_
 try cbv
 refine seq_joinB 6 [2,3,4,5,6] [.loc 0,.loc 32] 832 (fun m b=>m<=n/\L37_1 m z1 s2 l3 z4 s5 l6 l7 z8 z9 s10 s11 s12 l13 l14 z15 z16 z17 b=some r1) ?_ ?_
 ·try cbv
  replace h:=bO1_inv h
  obtain⟨b18,hr,h⟩:=h
  refine call_go rfl rfl ?_
  try cbv
  refine call_pure hM hI (T72 _ hr) rfl ?_
  clear hr
  try cbv
  cases b18
  ·replace h:=itF h
   try cbv
   exact join_next (n,false) [2,3,4,5,6] [.loc 0,.loc 32] 832 ⟨by omega,h⟩ (by cbv)
  replace h:=itT h
  try cbv
  replace h:=lenF_inv M h
  obtain⟨z19,hz,h⟩:=h
  refine⟨z19,hz,?_⟩
  clear hz
  try cbv
  refine splitI (fun e=>?_) (fun e=>?_)
  rotate_left
  ·replace h:=ite_f e h
   clear e
   try cbv
   exact join_next (n,false) [2,3,4,5,6] [.loc 0,.loc 32] 832 ⟨by omega,h⟩ (by cbv)
  replace h:=ite_t e h
  clear e
  try cbv
  replace h:=bO1_inv h
  obtain⟨b20,hr,h⟩:=h
  refine call_go rfl rfl ?_
  try cbv
  refine call_pure hM hI (T62 _ hr) rfl ?_
  clear hr
  try cbv
  cases b20
  ·replace h:=itF h
   try cbv
   exact join_next (n,false) [2,3,4,5,6] [.loc 0,.loc 32] 832 ⟨by omega,h⟩ (by cbv)
  replace h:=itT h
  try cbv
  replace h:=bO1_inv h
  obtain⟨b21,hr,h⟩:=h
  refine call_go rfl rfl ?_
  try cbv
  refine call_pure hM hI (T73 _ hr) rfl ?_
  clear hr
  try cbv
  exact join_next (n,b21) [2,3,4,5,6] [.loc 0,.loc 32] 832 ⟨by omega,h⟩ (by cbv)
 clear h
 rintro⟨m1,b22⟩ ⟨hm1,h⟩
 try cbv
 replace hm1:m1<=n:=hm1
 obtain _ | m1:=m1
 ·replace h:L37_1 0 z1 s2 l3 z4 s5 l6 l7 z8 z9 s10 s11 s12 l13 l14 z15 z16 z17 b22=some r1:=h
  rw[L37_1]at h
  cases h
 replace h:L37_1 (m1+1) z1 s2 l3 z4 s5 l6 l7 z8 z9 s10 s11 s12 l13 l14 z15 z16 z17 b22=some r1:=h
 rw[L37_1]at h
 try cbv
 refine seq_go ?_
 try cbv
 refine seq_go ?_
 try cbv
 refine seq_joinB 30 [2,3,4,5,6,29,30] [.loc 0,.loc 32] 960 (fun m b=>m<=m1/\L37_2 m z1 s2 l3 z4 s5 l6 l7 z8 z9 s10 s11 s12 l13 l14 z15 z16 z17 b22 b=some r1) ?_ ?_
 ·try cbv
  refine splitI (fun e=>?_) (fun e=>?_)
  ·replace h:=ite_t e h
   clear e
   try cbv
   exact join_next (m1,true) [2,3,4,5,6,29,30] [.loc 0,.loc 32] 960 ⟨by omega,h⟩ (by cbv)
  replace h:=ite_f e h
  clear e
  try cbv
  exact join_next (m1,false) [2,3,4,5,6,29,30] [.loc 0,.loc 32] 960 ⟨by omega,h⟩ (by cbv)
 clear h
 rintro⟨m2,b23⟩ ⟨hm2,h⟩
 try cbv
 replace hm2:m2<=m1:=hm2
 obtain _ | m2:=m2
 ·replace h:L37_2 0 z1 s2 l3 z4 s5 l6 l7 z8 z9 s10 s11 s12 l13 l14 z15 z16 z17 b22 b23=some r1:=h
  rw[L37_2]at h
  cases h
 replace h:L37_2 (m2+1) z1 s2 l3 z4 s5 l6 l7 z8 z9 s10 s11 s12 l13 l14 z15 z16 z17 b22 b23=some r1:=h
 rw[L37_2]at h
 try cbv
 cases b23
 rotate_left
 ·replace h:=itT h
  try cbv
  refine seq_go ?_
  try cbv
  cases b22
  ·replace h:=itF h
   try cbv
   obtain rfl:=Option.some.inj h
   refine fin_go ?_
   try cbv
   exact⟨[],by trivial⟩
  replace h:=itT h
  try cbv
  replace h:=bO18_inv h
  obtain⟨b24,z25,s26,l27,z28,s29,l30,l31,z32,z33,s34,s35,s36,l37,l38,z39,z40,z41,hr,h⟩:=h
  refine call_go rfl rfl ?_
  try cbv
  refine call_with hM hI [.loc 0,.loc 32] (T69 _ hr) rfl (by simp) ⟨rfl,⟨rfl,trivial⟩⟩ ⟨trivial,⟨trivial,trivial⟩⟩ (by simp) ?_
  clear hr
  try cbv
  obtain rfl:=Option.some.inj h
  refine fin_go ?_
  try cbv
  exact⟨[],by trivial⟩
 replace h:=itF h
 try cbv
 refine seq_joinB 37 [2,3,4,5,6,29,37] [.loc 0,.loc 32] 1024 (fun m b=>m<=m2/\L37_3 m z1 s2 l3 z4 s5 l6 l7 z8 z9 s10 s11 s12 l13 l14 z15 z16 z17 b22 b=some r1) ?_ ?_
 ·try cbv
  refine splitI (fun e=>?_) (fun e=>?_)
  ·replace h:=ite_t e h
   clear e
   try cbv
   exact join_next (m2,true) [2,3,4,5,6,29,37] [.loc 0,.loc 32] 1024 ⟨by omega,h⟩ (by cbv)
  replace h:=ite_f e h
  clear e
  try cbv
  exact join_next (m2,false) [2,3,4,5,6,29,37] [.loc 0,.loc 32] 1024 ⟨by omega,h⟩ (by cbv)
 clear h
 rintro⟨m3,b42⟩ ⟨hm3,h⟩
 try cbv
 replace hm3:m3<=m2:=hm3
 obtain _ | m3:=m3
 ·replace h:L37_3 0 z1 s2 l3 z4 s5 l6 l7 z8 z9 s10 s11 s12 l13 l14 z15 z16 z17 b22 b42=some r1:=h
  rw[L37_3]at h
  cases h
 replace h:L37_3 (m3+1) z1 s2 l3 z4 s5 l6 l7 z8 z9 s10 s11 s12 l13 l14 z15 z16 z17 b22 b42=some r1:=h
 rw[L37_3]at h
 try cbv
 cases b42
 rotate_left
 ·replace h:=itT h
  try cbv
  refine seq_go ?_
  try cbv
  cases b22
  ·replace h:=itF h
   try cbv
   obtain rfl:=Option.some.inj h
   refine fin_go ?_
   try cbv
   exact⟨[],by trivial⟩
  replace h:=itT h
  try cbv
  replace h:=bO18_inv h
  obtain⟨b43,z44,s45,l46,z47,s48,l49,l50,z51,z52,s53,s54,s55,l56,l57,z58,z59,z60,hr,h⟩:=h
  refine call_go rfl rfl ?_
  try cbv
  refine call_with hM hI [.loc 0,.loc 32] (T69x1 _ hr) rfl (by simp) ⟨rfl,⟨rfl,trivial⟩⟩ ⟨trivial,⟨trivial,trivial⟩⟩ (by simp) ?_
  clear hr
  try cbv
  obtain rfl:=Option.some.inj h
  refine fin_go ?_
  try cbv
  exact⟨[],by trivial⟩
 replace h:=itF h
 try cbv
 refine seq_joinB 44 [2,3,4,5,44] [.loc 0,.loc 32] 1088 (fun m b=>m<=m3/\L37_4 m z1 s2 l3 z4 s5 l6 l7 z8 z9 s10 s11 s12 l13 l14 z15 z16 z17 b=some r1) ?_ ?_
 ·try cbv
  refine splitI (fun e=>?_) (fun e=>?_)
  ·replace h:=ite_t e h
   clear e
   try cbv
   exact join_next (m3,true) [2,3,4,5,44] [.loc 0,.loc 32] 1088 ⟨by omega,h⟩ (by cbv)
  replace h:=ite_f e h
  clear e
  try cbv
  exact join_next (m3,false) [2,3,4,5,44] [.loc 0,.loc 32] 1088 ⟨by omega,h⟩ (by cbv)
 clear h
 rintro⟨m4,b61⟩ ⟨hm4,h⟩
 try cbv
 replace hm4:m4<=m3:=hm4
 obtain _ | m4:=m4
 ·replace h:L37_4 0 z1 s2 l3 z4 s5 l6 l7 z8 z9 s10 s11 s12 l13 l14 z15 z16 z17 b61=some r1:=h
  rw[L37_4]at h
  cases h
 replace h:L37_4 (m4+1) z1 s2 l3 z4 s5 l6 l7 z8 z9 s10 s11 s12 l13 l14 z15 z16 z17 b61=some r1:=h
 rw[L37_4]at h
 try cbv
 cases b61
 ·replace h:=itF h
  try cbv
  refine seq_go ?_
  try cbv
  obtain rfl:=Option.some.inj h
  refine fin_go ?_
  try cbv
  exact⟨[],by trivial⟩
 replace h:=itT h
 try cbv
 refine seq_go ?_
 try cbv
 replace h:=bO1_inv h
 obtain⟨b62,hr,h⟩:=h
 refine call_go rfl rfl ?_
 try cbv
 refine call_pure hM hI (T74 _ hr) rfl ?_
 clear hr
 try cbv
 cases b62
 ·replace h:=itF h
  try cbv
  obtain rfl:=Option.some.inj h
  refine fin_go ?_
  try cbv
  exact⟨[],by trivial⟩
 replace h:=itT h
 try cbv
 replace h:=bO18_inv h
 obtain⟨b63,z64,s65,l66,z67,s68,l69,l70,z71,z72,s73,s74,s75,l76,l77,z78,z79,z80,hr,h⟩:=h
 refine call_go rfl rfl ?_
 try cbv
 refine call_with hM hI [.loc 0,.loc 32] (T69 _ hr) rfl (by simp) ⟨rfl,⟨rfl,trivial⟩⟩ ⟨trivial,⟨trivial,trivial⟩⟩ (by simp) ?_
 clear hr
 try cbv
 cases b63
 ·replace h:=itF h
  try cbv
  obtain rfl:=Option.some.inj h
  refine fin_go ?_
  try cbv
  exact⟨[],by trivial⟩
 replace h:=itT h
 try cbv
 replace h:=letF_inv h
 obtain⟨z81,hz,h⟩:=h
 refine⟨z81,hz,?_⟩
 clear hz
 try cbv
 replace h:=bO1_inv h
 obtain⟨b82,hr,h⟩:=h
 refine call_go rfl rfl ?_
 try cbv
 refine call_pure hM hI (T55 _ hr) rfl ?_
 clear hr
 try cbv
 cases b82
 ·replace h:=itF h
  try cbv
  obtain rfl:=Option.some.inj h
  refine fin_go ?_
  try cbv
  exact⟨[],by trivial⟩
 replace h:=itT h
 try cbv
 replace h:=bO1_inv h
 obtain⟨b83,hr,h⟩:=h
 refine call_go rfl rfl ?_
 try cbv
 refine call_pure hM hI (T53 _ hr) rfl ?_
 clear hr
 try cbv
 replace h:=letB_inv h
 obtain⟨b84,hz,h⟩:=h
 refine⟨b84,not_eq' hz,?_⟩
 clear hz
 try cbv
 cases b84
 ·replace h:=itF h
  try cbv
  obtain rfl:=Option.some.inj h
  refine fin_go ?_
  try cbv
  exact⟨[],by trivial⟩
 replace h:=itT h
 try cbv
 replace h:=letF_inv h
 obtain⟨z85,hz,h⟩:=h
 refine⟨z85,hz,?_⟩
 clear hz
 try cbv
 replace h:=bO1_inv h
 obtain⟨b86,hr,h⟩:=h
 refine call_go rfl rfl ?_
 try cbv
 refine call_pure hM hI (T54 _ hr) rfl ?_
 clear hr
 try cbv
 cases b86
 ·replace h:=itF h
  try cbv
  obtain rfl:=Option.some.inj h
  refine fin_go ?_
  try cbv
  exact⟨[],by trivial⟩
 replace h:=itT h
 try cbv
 replace h:=lenF_inv M h
 obtain⟨z87,hz,h⟩:=h
 refine⟨z87,hz,?_⟩
 clear hz
 try cbv
 replace h:=bO2_inv h
 obtain⟨b88,z89,hr,h⟩:=h
 refine call_go rfl rfl ?_
 try cbv
 refine call_with hM hI [.loc 32] (T75 _ hr) rfl (by simp) ⟨rfl,trivial⟩ ⟨trivial,trivial⟩ (by simp) ?_
 clear hr
 try cbv
 obtain rfl:=Option.some.inj h
 refine fin_go ?_
 try cbv
 exact⟨[],by trivial⟩
def F36 (n:Nat) (z1:Int) (s2:BA) (l3:LD) (z4:Int) (s5:BA) (l6:LD) (l7:LD) (z8:Int) (z9:Int) (s10:BA) (s11:BA) (s12:BA) (l13:LD) (l14:LD) (z15:Int) (z16:Int):Option (Bool):=
 bO1 (F37 n z1 s2 l3 z4 s5 l6 l7 z8 z9 s10 s11 s12 l13 l14 z15 z16 (39:Int)) fun b17=>some b17
theorem T36 (n:Nat):∀⦃z1 s2 l3 z4 s5 l6 l7 z8 z9 s10 s11 s12 l13 l14 z15 z16 r1⦄,F36 n z1 s2 l3 z4 s5 l6 l7 z8 z9 s10 s11 s12 l13 l14 z15 z16=some r1->
    Trip Tryz.prog inv 36 [.d (.agg [.int .u8 z1,.str s2,.list true 4 l3,.int .u8 z4,.str s5,.list true 3 l6,.list true 15 l7,.int .u8 z8,.int .i64 z9,.str s10,.str s11,.str s12,.list false 1 l13,.list true 8 l14,.int .i64 z15,.int .i64 z16])] [] (.v (.d (.bool r1))) [] []:=by
 intro z1 s2 l3 z4 s5 l6 l7 z8 z9 s10 s11 s12 l13 l14 z15 z16 r1 h
 unfold F36 at h
 refine Trip.of tab_ok tab_one fol Tryz.func36 rfl (by kernel_rfl) rfl rfl rfl (fun M hM hI=>?_)
 try cbv
 refine seq_go ?_
 try cbv
 refine seq_go ?_
 try cbv
 replace h:=bO1_inv h
 obtain⟨b17,hr,h⟩:=h
 refine call_go rfl rfl ?_
 try cbv
 refine call_pure hM hI (T37 _ hr) rfl ?_
 clear hr
 try cbv
 obtain rfl:=Option.some.inj h
 refine fin_go ?_
 try cbv
 exact⟨[],by trivial⟩
mutual
def L35_1:Nat->LD->Int->Int->Option (Bool)
 | 0,_,_,_=>none
 | n+1,l1,z2,z3=>
  lenF l1 fun z4=>(if z3<z4 then (if z3<z2 then L35_2 n l1 z2 z3 true else L35_2 n l1 z2 z3 false)else L35_2 n l1 z2 z3 false)
def L35_2:Nat->LD->Int->Int->Bool->Option (Bool)
 | 0,_,_,_,_=>none
 | n+1,l1,z2,z3,b5=>
  (if b5=true then getF l1 z3 fun x6=>ds_t45 x6 fun z7 s8 l9 z10 s11 l12 l13 z14 z15 s16 s17 s18 l19 l20 z21 z22=>bO1 (F36 n z7 s8 l9 z10 s11 l12 l13 z14 z15 s16 s17 s18 l19 l20 z21 z22) fun b23=>letB (!b23) fun b24=>(if b24=true then some false else letF (IntKind.wrap .i64 (z3+1)) fun z25=>L35_1 n l1 z2 z25)else lenF l1 fun z26=>(if z26<=z2 then some true else some false))
end
def F35 (n:Nat) (l1:LD) (z2:Int):Option (Bool):=
 L35_1 n l1 z2 (0:Int)
theorem T35 (n:Nat):∀⦃l1 z2 r1⦄,F35 n l1 z2=some r1->
    Trip Tryz.prog inv 35 [.d (.list true 16 l1),.d (.int .i64 z2),.c (.fn 36 [])] [] (.v (.d (.bool r1))) [] []:=by
 intro l1 z2 r1 h
 unfold F35 at h
 refine Trip.of tab_ok tab_one fol Tryz.func35 rfl (by kernel_rfl) rfl rfl rfl (fun M hM hI=>?_)
 try cbv
 refine seq_go ?_
 try cbv
 refine seq_go ?_
 try cbv
 refine seq_go ?_
 try cbv
 refine loop_inv (T:=Nat×Int) [0,1,2,6,7] [] 64 (fun t=>⟨[sT 0 16 l1,sI 1 z2,(2,.v (.c (.fn 36 []))),sB 6 false,sI 7 t.2],[],64⟩)
   (fun t=>t.1<=n/\L35_1 t.1 l1 z2 t.2=some r1) (fun t=>t.1) (n,(0:Int)) ⟨Nat.le_refl _,h⟩ (by cbv) ?_
 clear h
 rintro⟨m1,z3⟩ ⟨hm1,h⟩
 replace hm1:m1<=n:=hm1
 obtain _ | m1:=m1
 ·replace h:L35_1 0 l1 z2 z3=some r1:=h
  rw[L35_1]at h
  cases h
 replace h:L35_1 (m1+1) l1 z2 z3=some r1:=h
 rw[L35_1]at h
 try cbv
 refine seq_go ?_
 try cbv
 refine seq_joinB 16 [0,1,2,6,7,16] [] 352 (fun m b=>m<=m1/\L35_2 m l1 z2 z3 b=some r1) ?_ ?_
 ·try cbv
  replace h:=lenF_inv M h
  obtain⟨z4,hz,h⟩:=h
  refine⟨z4,hz,?_⟩
  clear hz
  try cbv
  refine splitL (fun e=>?_) (fun e=>?_)
  ·replace h:=ite_t e h
   clear e
   try cbv
   refine splitL (fun e=>?_) (fun e=>?_)
   ·replace h:=ite_t e h
    clear e
    try cbv
    exact join_next (m1,true) [0,1,2,6,7,16] [] 352 ⟨by omega,h⟩ (by cbv)
   replace h:=ite_f (Int.not_lt.2 e) h
   clear e
   try cbv
   exact join_next (m1,false) [0,1,2,6,7,16] [] 352 ⟨by omega,h⟩ (by cbv)
  replace h:=ite_f (Int.not_lt.2 e) h
  clear e
  try cbv
  exact join_next (m1,false) [0,1,2,6,7,16] [] 352 ⟨by omega,h⟩ (by cbv)
 clear h
 rintro⟨m2,b5⟩ ⟨hm2,h⟩
 try cbv
 replace hm2:m2<=m1:=hm2
 obtain _ | m2:=m2
 ·replace h:L35_2 0 l1 z2 z3 b5=some r1:=h
  rw[L35_2]at h
  cases h
 replace h:L35_2 (m2+1) l1 z2 z3 b5=some r1:=h
 rw[L35_2]at h
 try cbv
 cases b5
 ·replace h:=itF h
  try cbv
  refine seq_go ?_
  try cbv
  replace h:=lenF_inv M h
  obtain⟨z26,hz,h⟩:=h
  refine⟨z26,hz,?_⟩
  clear hz
  try cbv
  refine splitLe (fun e=>?_) (fun e=>?_)
  ·replace h:=ite_t e h
   clear e
   try cbv
   obtain rfl:=Option.some.inj h
   refine fin_go ?_
   try cbv
   exact⟨[],by trivial⟩
  replace h:=ite_f (Int.not_le.2 e) h
  clear e
  try cbv
  obtain rfl:=Option.some.inj h
  refine fin_go ?_
  try cbv
  exact⟨[],by trivial⟩
 replace h:=itT h
 try cbv
 refine seq_go ?_
 try cbv
 refine seq_go ?_
 try cbv
 replace h:=getF_inv h
 obtain⟨x6,⟨hx0,hx⟩,h⟩:=h
 refine⟨x6,hx0,hx,?_⟩
 clear hx0 hx
 replace h:=ds_t45_inv h
 obtain⟨z7,s8,l9,z10,s11,l12,l13,z14,z15,s16,s17,s18,l19,l20,z21,z22,rfl,h⟩:=h
 try cbv
 replace h:=bO1_inv h
 obtain⟨b23,hr,h⟩:=h
 refine call_go rfl rfl ?_
 try cbv
 refine call_pure hM hI (T36 _ hr) rfl ?_
 clear hr
 try cbv
 replace h:=letB_inv h
 obtain⟨b24,hz,h⟩:=h
 refine⟨b24,not_eq' hz,?_⟩
 clear hz
 try cbv
 cases b24
 ·replace h:=itF h
  try cbv
  replace h:=letF_inv h
  obtain⟨z25,hz,h⟩:=h
  refine⟨z25,hz,?_⟩
  clear hz
  try cbv
  exact loop_next (m2,z25) [0,1,2,6,7] [] 64 ⟨by omega,h⟩ (Nat.lt_succ_of_le (by omega)) (by cbv)
 replace h:=itT h
 try cbv
 refine seq_go ?_
 try cbv
 obtain rfl:=Option.some.inj h
 refine fin_go ?_
 try cbv
 exact⟨[],by trivial⟩
def F10 (n:Nat) (l1:LD):Option (Bool):=
 bO1 (F35 n l1 (30:Int)) fun b2=>some b2
theorem T10 (n:Nat):∀⦃l1 r1⦄,F10 n l1=some r1->
    Trip Tryz.prog inv 10 [.d (.agg [.list true 16 l1])] [] (.v (.d (.bool r1))) [] []:=by
 intro l1 r1 h
 unfold F10 at h
 refine Trip.of tab_ok tab_one fol Tryz.func10 rfl (by kernel_rfl) rfl rfl rfl (fun M hM hI=>?_)
 try cbv
 refine seq_go ?_
 try cbv
 refine seq_go ?_
 try cbv
 replace h:=bO1_inv h
 obtain⟨b2,hr,h⟩:=h
 refine call_go rfl rfl ?_
 try cbv
 refine call_pure hM hI (T35 _ hr) rfl ?_
 clear hr
 try cbv
 obtain rfl:=Option.some.inj h
 refine fin_go ?_
 try cbv
 exact⟨[],by trivial⟩
mutual
def L86_1:Nat->LD->Int->Int->Int->Option (Int)
 | 0,_,_,_,_=>none
 | n+1,l3,z4,z5,z6=>
  (if z6<z4 then L86_2 n l3 z4 z5 z6 true else L86_2 n l3 z4 z5 z6 false)
def L86_2:Nat->LD->Int->Int->Int->Bool->Option (Int)
 | 0,_,_,_,_,_=>none
 | n+1,l3,z4,z5,z6,b7=>
  (if b7=true then getF l3 z6 fun x8=>ds_t33 x8 fun z9 s10 l11=>bO1 (F86 n z9 s10 l11) fun z12=>letF (if z12>z5 then z12 else z5) fun z13=>letF (IntKind.wrap .i64 (z6+1)) fun z14=>L86_1 n l3 z4 z13 z14 else letF (IntKind.wrap .i64 (z5+1)) fun z15=>some z15)
def F86:Nat->Int->BA->LD->Option (Int)
 | 0,_,_,_=>none
 | n+1,z1,s2,l3=>
  lenF l3 fun z4=>L86_1 n l3 z4 (0:Int) (0:Int)
end
theorem T86 (n:Nat):∀⦃z1 s2 l3 r1⦄,F86 n z1 s2 l3=some r1->
    Trip Tryz.prog inv 86 [.d (.agg [.int .u8 z1,.str s2,.list true 3 l3])] [] (.v (.d (.int .i64 r1))) [] []:=by
 induction n using Nat.strongRecOn with | _ n ih=>
 obtain _ | n:=n
 ·intro z1 s2 l3 r1 h
  cases (show (none:Option _)=some _ from h)
 intro z1 s2 l3 r1 h
 rw[F86]at h
 refine Trip.of tab_ok tab_one fol Tryz.func86 rfl (by kernel_rfl) rfl rfl rfl (fun M hM hI=>?_)
 try cbv
 refine seq_go ?_
 try cbv
 refine seq_go ?_
 try cbv
 refine seq_go ?_
 try cbv
 refine seq_go ?_
 try cbv
 replace h:=lenF_inv M h
 obtain⟨z4,hz,h⟩:=h
 refine⟨z4,hz,?_⟩
 clear hz
 try cbv
 refine loop_inv (T:=Nat×Int×Int) [2,3,7,8,9] [] 224 (fun t=>⟨[sI 2 0,sI 3 t.2.1,sT 7 3 l3,sI 8 z4,sI 9 t.2.2],[],224⟩)
   (fun t=>t.1<=n/\L86_1 t.1 l3 z4 t.2.1 t.2.2=some r1) (fun t=>t.1) (n,((0:Int),(0:Int))) ⟨Nat.le_refl _,h⟩ (by cbv) ?_
 clear h
 rintro⟨m1,z5,z6⟩ ⟨hm1,h⟩
 replace hm1:m1<=n:=hm1
 obtain _ | m1:=m1
 ·replace h:L86_1 0 l3 z4 z5 z6=some r1:=h
  rw[L86_1]at h
  cases h
 replace h:L86_1 (m1+1) l3 z4 z5 z6=some r1:=h
 rw[L86_1]at h
 try cbv
 refine seq_joinB 10 [2,3,7,8,9,10] [] 256 (fun m b=>m<=m1/\L86_2 m l3 z4 z5 z6 b=some r1) ?_ ?_
 ·try cbv
  refine splitL (fun e=>?_) (fun e=>?_)
  ·replace h:=ite_t e h
   clear e
   try cbv
   exact join_next (m1,true) [2,3,7,8,9,10] [] 256 ⟨by omega,h⟩ (by cbv)
  replace h:=ite_f (Int.not_lt.2 e) h
  clear e
  try cbv
  exact join_next (m1,false) [2,3,7,8,9,10] [] 256 ⟨by omega,h⟩ (by cbv)
 clear h
 rintro⟨m2,b7⟩ ⟨hm2,h⟩
 try cbv
 replace hm2:m2<=m1:=hm2
 obtain _ | m2:=m2
 ·replace h:L86_2 0 l3 z4 z5 z6 b7=some r1:=h
  rw[L86_2]at h
  cases h
 replace h:L86_2 (m2+1) l3 z4 z5 z6 b7=some r1:=h
 rw[L86_2]at h
 try cbv
 refine seq_go ?_
 try cbv
 cases b7
 ·replace h:=itF h
  try cbv
  refine seq_go ?_
  try cbv
  replace h:=letF_inv h
  obtain⟨z15,hz,h⟩:=h
  refine⟨z15,hz,?_⟩
  clear hz
  try cbv
  obtain rfl:=Option.some.inj h
  refine fin_go ?_
  try cbv
  exact⟨[],by trivial⟩
 replace h:=itT h
 try cbv
 refine seq_go ?_
 try cbv
 refine seq_go ?_
 try cbv
 replace h:=getF_inv h
 obtain⟨x8,⟨hx0,hx⟩,h⟩:=h
 refine⟨x8,hx0,hx,?_⟩
 clear hx0 hx
 replace h:=ds_t33_inv h
 obtain⟨z9,s10,l11,rfl,h⟩:=h
 try cbv
 replace h:=bO1_inv h
 obtain⟨z12,hr,h⟩:=h
 refine call_go rfl rfl ?_
 try cbv
 refine call_pure hM hI ((ih _ (by omega)) hr) rfl ?_
 clear hr
 try cbv
 replace h:=letF_inv h
 obtain⟨z13,hz,h⟩:=h
 refine⟨z13,hz,?_⟩
 clear hz
 try cbv
 replace h:=letF_inv h
 obtain⟨z14,hz,h⟩:=h
 refine⟨z14,hz,?_⟩
 clear hz
 try cbv
 exact loop_next (m2,(z13,z14)) [2,3,7,8,9] [] 224 ⟨by omega,h⟩ (Nat.lt_succ_of_le (by omega)) (by cbv)
mutual
def L87_1:Nat->LD->Int->Int->Int->Option (Int)
 | 0,_,_,_,_=>none
 | n+1,l7,z9,z10,z11=>
  (if z11<z9 then L87_2 n l7 z9 z10 z11 true else L87_2 n l7 z9 z10 z11 false)
def L87_2:Nat->LD->Int->Int->Int->Bool->Option (Int)
 | 0,_,_,_,_,_=>none
 | n+1,l7,z9,z10,z11,b12=>
  (if b12=true then getF l7 z11 fun x13=>ds_t39 x13 fun z14 z15 s16 s17 s18 l19 l20 z21=>bO1 (F87 n z14 z15 s16 s17 s18 l19 l20 z21) fun z22=>letF (if z22>z10 then z22 else z10) fun z23=>letF (IntKind.wrap .i64 (z11+1)) fun z24=>L87_1 n l7 z9 z23 z24 else letF (IntKind.wrap .i64 (z10+1)) fun z25=>some z25)
def F87:Nat->Int->Int->BA->BA->BA->LD->LD->Int->Option (Int)
 | 0,_,_,_,_,_,_,_,_=>none
 | n+1,z1,z2,s3,s4,s5,l6,l7,z8=>
  lenF l7 fun z9=>L87_1 n l7 z9 (0:Int) (0:Int)
end
theorem T87 (n:Nat):∀⦃z1 z2 s3 s4 s5 l6 l7 z8 r1⦄,F87 n z1 z2 s3 s4 s5 l6 l7 z8=some r1->
    Trip Tryz.prog inv 87 [.d (.agg [.int .u8 z1,.int .i64 z2,.str s3,.str s4,.str s5,.list false 1 l6,.list true 8 l7,.int .i64 z8])] [] (.v (.d (.int .i64 r1))) [] []:=by
 induction n using Nat.strongRecOn with | _ n ih=>
 obtain _ | n:=n
 ·intro z1 z2 s3 s4 s5 l6 l7 z8 r1 h
  cases (show (none:Option _)=some _ from h)
 intro z1 z2 s3 s4 s5 l6 l7 z8 r1 h
 rw[F87]at h
 refine Trip.of tab_ok tab_one fol Tryz.func87 rfl (by kernel_rfl) rfl rfl rfl (fun M hM hI=>?_)
 try cbv
 refine seq_go ?_
 try cbv
 refine seq_go ?_
 try cbv
 refine seq_go ?_
 try cbv
 refine seq_go ?_
 try cbv
 replace h:=lenF_inv M h
 obtain⟨z9,hz,h⟩:=h
 refine⟨z9,hz,?_⟩
 clear hz
 try cbv
 refine loop_inv (T:=Nat×Int×Int) [2,3,7,8,9] [] 224 (fun t=>⟨[sI 2 0,sI 3 t.2.1,sT 7 8 l7,sI 8 z9,sI 9 t.2.2],[],224⟩)
   (fun t=>t.1<=n/\L87_1 t.1 l7 z9 t.2.1 t.2.2=some r1) (fun t=>t.1) (n,((0:Int),(0:Int))) ⟨Nat.le_refl _,h⟩ (by cbv) ?_
 clear h
 rintro⟨m1,z10,z11⟩ ⟨hm1,h⟩
 replace hm1:m1<=n:=hm1
 obtain _ | m1:=m1
 ·replace h:L87_1 0 l7 z9 z10 z11=some r1:=h
  rw[L87_1]at h
  cases h
 replace h:L87_1 (m1+1) l7 z9 z10 z11=some r1:=h
 rw[L87_1]at h
 try cbv
 refine seq_joinB 10 [2,3,7,8,9,10] [] 256 (fun m b=>m<=m1/\L87_2 m l7 z9 z10 z11 b=some r1) ?_ ?_
 ·try cbv
  refine splitL (fun e=>?_) (fun e=>?_)
  ·replace h:=ite_t e h
   clear e
   try cbv
   exact join_next (m1,true) [2,3,7,8,9,10] [] 256 ⟨by omega,h⟩ (by cbv)
  replace h:=ite_f (Int.not_lt.2 e) h
  clear e
  try cbv
  exact join_next (m1,false) [2,3,7,8,9,10] [] 256 ⟨by omega,h⟩ (by cbv)
 clear h
 rintro⟨m2,b12⟩ ⟨hm2,h⟩
 try cbv
 replace hm2:m2<=m1:=hm2
 obtain _ | m2:=m2
 ·replace h:L87_2 0 l7 z9 z10 z11 b12=some r1:=h
  rw[L87_2]at h
  cases h
 replace h:L87_2 (m2+1) l7 z9 z10 z11 b12=some r1:=h
 rw[L87_2]at h
 try cbv
 refine seq_go ?_
 try cbv
 cases b12
 ·replace h:=itF h
  try cbv
  refine seq_go ?_
  try cbv
  replace h:=letF_inv h
  obtain⟨z25,hz,h⟩:=h
  refine⟨z25,hz,?_⟩
  clear hz
  try cbv
  obtain rfl:=Option.some.inj h
  refine fin_go ?_
  try cbv
  exact⟨[],by trivial⟩
 replace h:=itT h
 try cbv
 refine seq_go ?_
 try cbv
 refine seq_go ?_
 try cbv
 replace h:=getF_inv h
 obtain⟨x13,⟨hx0,hx⟩,h⟩:=h
 refine⟨x13,hx0,hx,?_⟩
 clear hx0 hx
 replace h:=ds_t39_inv h
 obtain⟨z14,z15,s16,s17,s18,l19,l20,z21,rfl,h⟩:=h
 try cbv
 replace h:=bO1_inv h
 obtain⟨z22,hr,h⟩:=h
 refine call_go rfl rfl ?_
 try cbv
 refine call_pure hM hI ((ih _ (by omega)) hr) rfl ?_
 clear hr
 try cbv
 replace h:=letF_inv h
 obtain⟨z23,hz,h⟩:=h
 refine⟨z23,hz,?_⟩
 clear hz
 try cbv
 replace h:=letF_inv h
 obtain⟨z24,hz,h⟩:=h
 refine⟨z24,hz,?_⟩
 clear hz
 try cbv
 exact loop_next (m2,(z23,z24)) [2,3,7,8,9] [] 224 ⟨by omega,h⟩ (Nat.lt_succ_of_le (by omega)) (by cbv)
def F89 (n:Nat) (z1:Int) (s2:BA) (s3:BA) (l4:LD) (z5:Int) (s6:BA) (l7:LD) (z8:Int) (s9:BA) (l10:LD) (l11:LD) (l12:LD) (l13:LD) (l14:LD) (z15:Int):Option (Int×BA×BA×LD×Int×BA×LD×Int×BA×LD×LD×LD×LD×LD×Int):=
 some (z1,s2,s3,l4,z5,s6,l7,z8,s9,l10,l11,l12,l13,l14,z15)
theorem T89 (n:Nat):∀⦃z1 s2 s3 l4 z5 s6 l7 z8 s9 l10 l11 l12 l13 l14 z15 r1 r2 r3 r4 r5 r6 r7 r8 r9 r10 r11 r12 r13 r14 r15⦄,F89 n z1 s2 s3 l4 z5 s6 l7 z8 s9 l10 l11 l12 l13 l14 z15=some (r1,r2,r3,r4,r5,r6,r7,r8,r9,r10,r11,r12,r13,r14,r15)->
    Trip Tryz.prog inv 89 [.d (.agg [.int .u8 z1,.str s2,.str s3,.list false 1 l4,.int .u8 z5,.str s6,.list true 3 l7,.int .i64 z8,.str s9,.list false 1 l10,.list true 8 l11,.list true 15 l12,.list true 15 l13,.list true 3 l14,.int .i64 z15])] [] (.v (.c (.fn 138 [.loc 0]))) [] [.cells [.d (.int .u8 r1),.d (.str r2),.d (.str r3),.d (.list false 1 r4),.d (.int .u8 r5),.d (.str r6),.d (.list true 3 r7),.d (.int .i64 r8),.d (.str r9),.d (.list false 1 r10),.d (.list true 8 r11),.d (.list true 15 r12),.d (.list true 15 r13),.d (.list true 3 r14),.d (.int .i64 r15)]]:=by
 intro z1 s2 s3 l4 z5 s6 l7 z8 s9 l10 l11 l12 l13 l14 z15 r1 r2 r3 r4 r5 r6 r7 r8 r9 r10 r11 r12 r13 r14 r15 h
 unfold F89 at h
 refine Trip.of tab_ok tab_one fol Tryz.func89 rfl (by kernel_rfl) rfl rfl rfl (fun M hM hI=>?_)
 try cbv
 refine seq_go ?_
 try cbv
 refine seq_go ?_
 try cbv
 obtain⟨rfl,rfl,rfl,rfl,rfl,rfl,rfl,rfl,rfl,rfl,rfl,rfl,rfl,rfl,rfl⟩:=inj15 h
 refine fin_go ?_
 try cbv
 exact⟨[.loc 0],rfl,rfl,trivial,⟨rfl,trivial⟩,trivial⟩
mutual
def F88r0:Nat->Int->BA->BA->LD->Int->BA->LD->Int->BA->LD->LD->LD->LD->LD->Int->Int->Option (Int)
 | 0,_,_,_,_,_,_,_,_,_,_,_,_,_,_,_,_=>none
 | n+1,z1,s2,s3,l4,z5,s6,l7,z8,s9,l10,l11,l12,l13,l14,z15,z16=>
  bO1 (F88 n z1 s2 s3 l4 z5 s6 l7 z8 s9 l10 l11 l12 l13 l14 z15) fun z17=>letF (if z17>z16 then z17 else z16) fun z18=>some z18
def L138_1:Nat->Int->BA->BA->LD->Int->BA->LD->Int->BA->LD->LD->LD->LD->LD->Int->Int->Int->Option (Int×Int×BA×BA×LD×Int×BA×LD×Int×BA×LD×LD×LD×LD×LD×Int)
 | 0,_,_,_,_,_,_,_,_,_,_,_,_,_,_,_,_,_=>none
 | n+1,z2,s3,s4,l5,z6,s7,l8,z9,s10,l11,l12,l13,l14,l15,z16,z17,z18=>
  (if z17<(2:Int)then L138_2 n z2 s3 s4 l5 z6 s7 l8 z9 s10 l11 l12 l13 l14 l15 z16 z17 z18 true else L138_2 n z2 s3 s4 l5 z6 s7 l8 z9 s10 l11 l12 l13 l14 l15 z16 z17 z18 false)
def L138_2:Nat->Int->BA->BA->LD->Int->BA->LD->Int->BA->LD->LD->LD->LD->LD->Int->Int->Int->Bool->Option (Int×Int×BA×BA×LD×Int×BA×LD×Int×BA×LD×LD×LD×LD×LD×Int)
 | 0,_,_,_,_,_,_,_,_,_,_,_,_,_,_,_,_,_,_=>none
 | n+1,z2,s3,s4,l5,z6,s7,l8,z9,s10,l11,l12,l13,l14,l15,z16,z17,z18,b19=>
  (if b19=true then getF ([.list true 15 l13,.list true 15 l14]) z17 fun x20=>ds_listtrue15 x20 fun l21=>lenF l21 fun z22=>L138_3 n z2 s3 s4 l5 z6 s7 l8 z9 s10 l11 l12 l13 l14 l15 z16 z17 l21 z22 (0:Int) z18 else lenF l15 fun z45=>L138_5 n z2 s3 s4 l5 z6 s7 l8 z9 s10 l11 l12 l13 l14 l15 z16 z45 (0:Int) z18)
def L138_3:Nat->Int->BA->BA->LD->Int->BA->LD->Int->BA->LD->LD->LD->LD->LD->Int->Int->LD->Int->Int->Int->Option (Int×Int×BA×BA×LD×Int×BA×LD×Int×BA×LD×LD×LD×LD×LD×Int)
 | 0,_,_,_,_,_,_,_,_,_,_,_,_,_,_,_,_,_,_,_,_=>none
 | n+1,z2,s3,s4,l5,z6,s7,l8,z9,s10,l11,l12,l13,l14,l15,z16,z17,l21,z22,z23,z24=>
  (if z23<z22 then L138_4 n z2 s3 s4 l5 z6 s7 l8 z9 s10 l11 l12 l13 l14 l15 z16 z17 l21 z22 z23 z24 true else L138_4 n z2 s3 s4 l5 z6 s7 l8 z9 s10 l11 l12 l13 l14 l15 z16 z17 l21 z22 z23 z24 false)
def L138_4:Nat->Int->BA->BA->LD->Int->BA->LD->Int->BA->LD->LD->LD->LD->LD->Int->Int->LD->Int->Int->Int->Bool->Option (Int×Int×BA×BA×LD×Int×BA×LD×Int×BA×LD×LD×LD×LD×LD×Int)
 | 0,_,_,_,_,_,_,_,_,_,_,_,_,_,_,_,_,_,_,_,_,_=>none
 | n+1,z2,s3,s4,l5,z6,s7,l8,z9,s10,l11,l12,l13,l14,l15,z16,z17,l21,z22,z23,z24,b25=>
  (if b25=true then getF l21 z23 fun x26=>ds_t50 x26 fun z27 s28 s29 l30 z31 s32 l33 z34 s35 l36 l37 l38 l39 l40 z41=>bO1 (F88r0 n z27 s28 s29 l30 z31 s32 l33 z34 s35 l36 l37 l38 l39 l40 z41 z24) fun z42=>letF (IntKind.wrap .i64 (z23+1)) fun z43=>L138_3 n z2 s3 s4 l5 z6 s7 l8 z9 s10 l11 l12 l13 l14 l15 z16 z17 l21 z22 z43 z42 else letF (IntKind.wrap .i64 (z17+1)) fun z44=>L138_1 n z2 s3 s4 l5 z6 s7 l8 z9 s10 l11 l12 l13 l14 l15 z16 z44 z24)
def L138_5:Nat->Int->BA->BA->LD->Int->BA->LD->Int->BA->LD->LD->LD->LD->LD->Int->Int->Int->Int->Option (Int×Int×BA×BA×LD×Int×BA×LD×Int×BA×LD×LD×LD×LD×LD×Int)
 | 0,_,_,_,_,_,_,_,_,_,_,_,_,_,_,_,_,_,_=>none
 | n+1,z2,s3,s4,l5,z6,s7,l8,z9,s10,l11,l12,l13,l14,l15,z16,z45,z46,z47=>
  (if z46<z45 then L138_6 n z2 s3 s4 l5 z6 s7 l8 z9 s10 l11 l12 l13 l14 l15 z16 z45 z46 z47 true else L138_6 n z2 s3 s4 l5 z6 s7 l8 z9 s10 l11 l12 l13 l14 l15 z16 z45 z46 z47 false)
def L138_6:Nat->Int->BA->BA->LD->Int->BA->LD->Int->BA->LD->LD->LD->LD->LD->Int->Int->Int->Int->Bool->Option (Int×Int×BA×BA×LD×Int×BA×LD×Int×BA×LD×LD×LD×LD×LD×Int)
 | 0,_,_,_,_,_,_,_,_,_,_,_,_,_,_,_,_,_,_,_=>none
 | n+1,z2,s3,s4,l5,z6,s7,l8,z9,s10,l11,l12,l13,l14,l15,z16,z45,z46,z47,b48=>
  (if b48=true then getF l15 z46 fun x49=>ds_t95 x49 fun s50 s51 l52=>lenF l52 fun z53=>L138_7 n z2 s3 s4 l5 z6 s7 l8 z9 s10 l11 l12 l13 l14 l15 z16 z45 z46 l52 z53 (0:Int) z47 else some (z47,z2,s3,s4,l5,z6,s7,l8,z9,s10,l11,l12,l13,l14,l15,z16))
def L138_7:Nat->Int->BA->BA->LD->Int->BA->LD->Int->BA->LD->LD->LD->LD->LD->Int->Int->Int->LD->Int->Int->Int->Option (Int×Int×BA×BA×LD×Int×BA×LD×Int×BA×LD×LD×LD×LD×LD×Int)
 | 0,_,_,_,_,_,_,_,_,_,_,_,_,_,_,_,_,_,_,_,_,_=>none
 | n+1,z2,s3,s4,l5,z6,s7,l8,z9,s10,l11,l12,l13,l14,l15,z16,z45,z46,l52,z53,z54,z55=>
  (if z54<z53 then L138_8 n z2 s3 s4 l5 z6 s7 l8 z9 s10 l11 l12 l13 l14 l15 z16 z45 z46 l52 z53 z54 z55 true else L138_8 n z2 s3 s4 l5 z6 s7 l8 z9 s10 l11 l12 l13 l14 l15 z16 z45 z46 l52 z53 z54 z55 false)
def L138_8:Nat->Int->BA->BA->LD->Int->BA->LD->Int->BA->LD->LD->LD->LD->LD->Int->Int->Int->LD->Int->Int->Int->Bool->Option (Int×Int×BA×BA×LD×Int×BA×LD×Int×BA×LD×LD×LD×LD×LD×Int)
 | 0,_,_,_,_,_,_,_,_,_,_,_,_,_,_,_,_,_,_,_,_,_,_=>none
 | n+1,z2,s3,s4,l5,z6,s7,l8,z9,s10,l11,l12,l13,l14,l15,z16,z45,z46,l52,z53,z54,z55,b56=>
  (if b56=true then getF l52 z54 fun x57=>ds_t50 x57 fun z58 s59 s60 l61 z62 s63 l64 z65 s66 l67 l68 l69 l70 l71 z72=>bO1 (F88r0 n z58 s59 s60 l61 z62 s63 l64 z65 s66 l67 l68 l69 l70 l71 z72 z55) fun z73=>letF (IntKind.wrap .i64 (z54+1)) fun z74=>L138_7 n z2 s3 s4 l5 z6 s7 l8 z9 s10 l11 l12 l13 l14 l15 z16 z45 z46 l52 z53 z74 z73 else letF (IntKind.wrap .i64 (z46+1)) fun z75=>L138_5 n z2 s3 s4 l5 z6 s7 l8 z9 s10 l11 l12 l13 l14 l15 z16 z45 z75 z55)
def F138:Nat->Int->Int->BA->BA->LD->Int->BA->LD->Int->BA->LD->LD->LD->LD->LD->Int->Option (Int×Int×BA×BA×LD×Int×BA×LD×Int×BA×LD×LD×LD×LD×LD×Int)
 | 0,_,_,_,_,_,_,_,_,_,_,_,_,_,_,_,_=>none
 | n+1,z1,z2,s3,s4,l5,z6,s7,l8,z9,s10,l11,l12,l13,l14,l15,z16=>
  L138_1 n z2 s3 s4 l5 z6 s7 l8 z9 s10 l11 l12 l13 l14 l15 z16 (0:Int) z1
def L88_1:Nat->Int->BA->BA->LD->Int->BA->LD->Int->BA->LD->LD->LD->LD->LD->Int->Bool->Option (Int)
 | 0,_,_,_,_,_,_,_,_,_,_,_,_,_,_,_,_=>none
 | n+1,z1,s2,s3,l4,z5,s6,l7,z8,s9,l10,l11,l12,l13,l14,z15,b16=>
  (if b16=true then bO1 (F86 n z5 s6 l7) fun z17=>L88_2 n z1 s2 s3 l4 z5 s6 l7 z8 s9 l10 l11 l12 l13 l14 z15 z17 else L88_2 n z1 s2 s3 l4 z5 s6 l7 z8 s9 l10 l11 l12 l13 l14 z15 (0:Int))
def L88_2:Nat->Int->BA->BA->LD->Int->BA->LD->Int->BA->LD->LD->LD->LD->LD->Int->Int->Option (Int)
 | 0,_,_,_,_,_,_,_,_,_,_,_,_,_,_,_,_=>none
 | n+1,z1,s2,s3,l4,z5,s6,l7,z8,s9,l10,l11,l12,l13,l14,z15,z18=>
  lenF l11 fun z19=>L88_3 n z1 s2 s3 l4 z5 s6 l7 z8 s9 l10 l11 l12 l13 l14 z15 z19 (0:Int) z18
def L88_3:Nat->Int->BA->BA->LD->Int->BA->LD->Int->BA->LD->LD->LD->LD->LD->Int->Int->Int->Int->Option (Int)
 | 0,_,_,_,_,_,_,_,_,_,_,_,_,_,_,_,_,_,_=>none
 | n+1,z1,s2,s3,l4,z5,s6,l7,z8,s9,l10,l11,l12,l13,l14,z15,z19,z20,z21=>
  (if z20<z19 then L88_4 n z1 s2 s3 l4 z5 s6 l7 z8 s9 l10 l11 l12 l13 l14 z15 z19 z20 z21 true else L88_4 n z1 s2 s3 l4 z5 s6 l7 z8 s9 l10 l11 l12 l13 l14 z15 z19 z20 z21 false)
def L88_4:Nat->Int->BA->BA->LD->Int->BA->LD->Int->BA->LD->LD->LD->LD->LD->Int->Int->Int->Int->Bool->Option (Int)
 | 0,_,_,_,_,_,_,_,_,_,_,_,_,_,_,_,_,_,_,_=>none
 | n+1,z1,s2,s3,l4,z5,s6,l7,z8,s9,l10,l11,l12,l13,l14,z15,z19,z20,z21,b22=>
  (if b22=true then getF l11 z20 fun x23=>ds_t39 x23 fun z24 z25 s26 s27 s28 l29 l30 z31=>bO1 (F87 n z24 z25 s26 s27 s28 l29 l30 z31) fun z32=>letF (if z32>z21 then z32 else z21) fun z33=>letF (IntKind.wrap .i64 (z20+1)) fun z34=>L88_3 n z1 s2 s3 l4 z5 s6 l7 z8 s9 l10 l11 l12 l13 l14 z15 z19 z34 z33 else bO15 (F89 n z1 s2 s3 l4 z5 s6 l7 z8 s9 l10 l11 l12 l13 l14 z15) fun z35 s36 s37 l38 z39 s40 l41 z42 s43 l44 l45 l46 l47 l48 z49=>bO16 (F138 n z21 z35 s36 s37 l38 z39 s40 l41 z42 s43 l44 l45 l46 l47 l48 z49) fun z50 z51 s52 s53 l54 z55 s56 l57 z58 s59 l60 l61 l62 l63 l64 z65=>letF (IntKind.wrap .i64 (z50+1)) fun z66=>some z66)
def F88:Nat->Int->BA->BA->LD->Int->BA->LD->Int->BA->LD->LD->LD->LD->LD->Int->Option (Int)
 | 0,_,_,_,_,_,_,_,_,_,_,_,_,_,_,_=>none
 | n+1,z1,s2,s3,l4,z5,s6,l7,z8,s9,l10,l11,l12,l13,l14,z15=>
  (if z1=(12:Int)then L88_1 n z1 s2 s3 l4 z5 s6 l7 z8 s9 l10 l11 l12 l13 l14 z15 true else L88_1 n z1 s2 s3 l4 z5 s6 l7 z8 s9 l10 l11 l12 l13 l14 z15 false)
end
theorem G88r0 (n:Nat):(∀⦃z1 s2 s3 l4 z5 s6 l7 z8 s9 l10 l11 l12 l13 l14 z15 z16 r1⦄,F88r0 n z1 s2 s3 l4 z5 s6 l7 z8 s9 l10 l11 l12 l13 l14 z15 z16=some r1->
    RoundK Tryz.prog inv (rf88_0 ()) [(3,.v (.c (.ptr (.ext 0) 0)))] [.d (.agg [.int .u8 z1,.str s2,.str s3,.list false 1 l4,.int .u8 z5,.str s6,.list true 3 l7,.int .i64 z8,.str s9,.list false 1 l10,.list true 8 l11,.list true 15 l12,.list true 15 l13,.list true 3 l14,.int .i64 z15])] [.cells [.d (.int .i64 z16)]] fun j p n=>j=none/\p=[.cells [.d (.int .i64 r1)]]/\n=[])/\
    (∀⦃z1 z2 s3 s4 l5 z6 s7 l8 z9 s10 l11 l12 l13 l14 l15 z16 r1 r2 r3 r4 r5 r6 r7 r8 r9 r10 r11 r12 r13 r14 r15 r16⦄,F138 n z1 z2 s3 s4 l5 z6 s7 l8 z9 s10 l11 l12 l13 l14 l15 z16=some (r1,r2,r3,r4,r5,r6,r7,r8,r9,r10,r11,r12,r13,r14,r15,r16)->
    Trip Tryz.prog inv 138 [.c (.yl (.ext 0)),.c (.ptr (.ext 2) 0)] [.rnd rf88_0 [(3,.v (.c (.ptr (.ext 1) 0)))],.cells [.d (.int .i64 z1)],.cells [.d (.int .u8 z2),.d (.str s3),.d (.str s4),.d (.list false 1 l5),.d (.int .u8 z6),.d (.str s7),.d (.list true 3 l8),.d (.int .i64 z9),.d (.str s10),.d (.list false 1 l11),.d (.list true 8 l12),.d (.list true 15 l13),.d (.list true 15 l14),.d (.list true 3 l15),.d (.int .i64 z16)]] (.t []) [.rnd rf88_0 [(3,.v (.c (.ptr (.ext 1) 0)))],.cells [.d (.int .i64 r1)],.cells [.d (.int .u8 r2),.d (.str r3),.d (.str r4),.d (.list false 1 r5),.d (.int .u8 r6),.d (.str r7),.d (.list true 3 r8),.d (.int .i64 r9),.d (.str r10),.d (.list false 1 r11),.d (.list true 8 r12),.d (.list true 15 r13),.d (.list true 15 r14),.d (.list true 3 r15),.d (.int .i64 r16)]] [])/\
    (∀⦃z1 s2 s3 l4 z5 s6 l7 z8 s9 l10 l11 l12 l13 l14 z15 r1⦄,F88 n z1 s2 s3 l4 z5 s6 l7 z8 s9 l10 l11 l12 l13 l14 z15=some r1->
    Trip Tryz.prog inv 88 [.d (.agg [.int .u8 z1,.str s2,.str s3,.list false 1 l4,.int .u8 z5,.str s6,.list true 3 l7,.int .i64 z8,.str s9,.list false 1 l10,.list true 8 l11,.list true 15 l12,.list true 15 l13,.list true 3 l14,.int .i64 z15])] [] (.v (.d (.int .i64 r1))) [] []):=by
 induction n using Nat.strongRecOn with | _ n ih=>
 obtain _ | n:=n
 ·refine⟨?_,?_,?_⟩
  ·intro z1 s2 s3 l4 z5 s6 l7 z8 s9 l10 l11 l12 l13 l14 z15 z16 r1 h
   cases (show (none:Option _)=some _ from h)
  ·intro z1 z2 s3 s4 l5 z6 s7 l8 z9 s10 l11 l12 l13 l14 l15 z16 r1 r2 r3 r4 r5 r6 r7 r8 r9 r10 r11 r12 r13 r14 r15 r16 h
   cases (show (none:Option _)=some _ from h)
  intro z1 s2 s3 l4 z5 s6 l7 z8 s9 l10 l11 l12 l13 l14 z15 r1 h
  cases (show (none:Option _)=some _ from h)
 refine⟨?_,?_,?_⟩
 ·intro z1 s2 s3 l4 z5 s6 l7 z8 s9 l10 l11 l12 l13 l14 z15 z16 r1 h
  rw[F88r0]at h
  refine RoundK.of' tab_ok tab_one fol rfl rfl rfl rfl rfl (by kernel_rfl) (fun M hM hI=>?_)
  try cbv
  replace h:=bO1_inv h
  obtain⟨z17,hr,h⟩:=h
  first | refine .inr (.inl ⟨[],?_⟩) | refine .inl ⟨[],?_⟩
  try cbv
  refine call_pure hM hI ((ih _ (by omega)).2.2 hr) rfl ?_
  clear hr
  try cbv
  replace h:=letF_inv h
  obtain⟨z18,hz,h⟩:=h
  refine⟨z18,hz,?_⟩
  clear hz
  try cbv
  refine drawn ?_ ?_
  ·show _=true
   kernel_rfl
  try cbv
  obtain rfl:=Option.some.inj h
  refine⟨_,_,⟨rfl,rfl,rfl⟩,[],?_⟩
  try cbv
  exact⟨[],rfl,⟨rfl,trivial⟩,trivial,trivial⟩
 ·intro z1 z2 s3 s4 l5 z6 s7 l8 z9 s10 l11 l12 l13 l14 l15 z16 r1 r2 r3 r4 r5 r6 r7 r8 r9 r10 r11 r12 r13 r14 r15 r16 h
  rw[F138]at h
  refine Trip.of tab_ok tab_one fol Tryz.func138 rfl (by kernel_rfl) rfl rfl rfl (fun M hM hI=>?_)
  try cbv
  refine seq_go ?_
  try cbv
  refine seq_go ?_
  try cbv
  refine⟨false,?_⟩
  try cbv
  refine⟨true,?_⟩
  try cbv
  refine⟨2,(M.lenI_eq _).trans rfl,?_⟩
  try cbv
  refine loop_inv (T:=Nat×Int×Int) [0,1,15,16,17] [.ext 0,.ext 1,.ext 2] 224 (fun t=>⟨[(0,.v (.c (.yl (.ext 0)))),sE 1 2,(15,.v (.c (.tl false 1 ([.list true 15 l13,.list true 15 l14])))),sI 16 2,sI 17 t.2.1],[(.ext 0,.rnd rf88_0 [sE 3 1]),(.ext 1,.cells [.d (.int .i64 t.2.2)]),(.ext 2,.cells [.d (.int .u8 z2),.d (.str s3),.d (.str s4),.d (.list false 1 l5),.d (.int .u8 z6),.d (.str s7),.d (.list true 3 l8),.d (.int .i64 z9),.d (.str s10),.d (.list false 1 l11),.d (.list true 8 l12),.d (.list true 15 l13),.d (.list true 15 l14),.d (.list true 3 l15),.d (.int .i64 z16)])],224⟩)
    (fun t=>t.1<=n/\L138_1 t.1 z2 s3 s4 l5 z6 s7 l8 z9 s10 l11 l12 l13 l14 l15 z16 t.2.1 t.2.2=some (r1,r2,r3,r4,r5,r6,r7,r8,r9,r10,r11,r12,r13,r14,r15,r16)) (fun t=>t.1) (n,((0:Int),z1)) ⟨Nat.le_refl _,h⟩ (by cbv) ?_
  clear h
  rintro⟨m1,z17,z18⟩ ⟨hm1,h⟩
  replace hm1:m1<=n:=hm1
  obtain _ | m1:=m1
  ·replace h:L138_1 0 z2 s3 s4 l5 z6 s7 l8 z9 s10 l11 l12 l13 l14 l15 z16 z17 z18=some (r1,r2,r3,r4,r5,r6,r7,r8,r9,r10,r11,r12,r13,r14,r15,r16):=h
   rw[L138_1]at h
   cases h
  replace h:L138_1 (m1+1) z2 s3 s4 l5 z6 s7 l8 z9 s10 l11 l12 l13 l14 l15 z16 z17 z18=some (r1,r2,r3,r4,r5,r6,r7,r8,r9,r10,r11,r12,r13,r14,r15,r16):=h
  rw[L138_1]at h
  try cbv
  refine seq_joinB 18 [0,1,15,16,17,18] [.ext 0,.ext 1,.ext 2] 256 (fun m b=>m<=m1/\L138_2 m z2 s3 s4 l5 z6 s7 l8 z9 s10 l11 l12 l13 l14 l15 z16 z17 z18 b=some (r1,r2,r3,r4,r5,r6,r7,r8,r9,r10,r11,r12,r13,r14,r15,r16)) ?_ ?_
  ·try cbv
   refine splitL (fun e=>?_) (fun e=>?_)
   ·replace h:=ite_t e h
    clear e
    try cbv
    exact join_next (m1,true) [0,1,15,16,17,18] [.ext 0,.ext 1,.ext 2] 256 ⟨by omega,h⟩ (by cbv)
   replace h:=ite_f (Int.not_lt.2 e) h
   clear e
   try cbv
   exact join_next (m1,false) [0,1,15,16,17,18] [.ext 0,.ext 1,.ext 2] 256 ⟨by omega,h⟩ (by cbv)
  clear h
  rintro⟨m2,b19⟩ ⟨hm2,h⟩
  try cbv
  replace hm2:m2<=m1:=hm2
  obtain _ | m2:=m2
  ·replace h:L138_2 0 z2 s3 s4 l5 z6 s7 l8 z9 s10 l11 l12 l13 l14 l15 z16 z17 z18 b19=some (r1,r2,r3,r4,r5,r6,r7,r8,r9,r10,r11,r12,r13,r14,r15,r16):=h
   rw[L138_2]at h
   cases h
  replace h:L138_2 (m2+1) z2 s3 s4 l5 z6 s7 l8 z9 s10 l11 l12 l13 l14 l15 z16 z17 z18 b19=some (r1,r2,r3,r4,r5,r6,r7,r8,r9,r10,r11,r12,r13,r14,r15,r16):=h
  rw[L138_2]at h
  try cbv
  refine seq_go ?_
  try cbv
  cases b19
  rotate_left
  ·replace h:=itT h
   try cbv
   refine seq_go ?_
   try cbv
   refine seq_go ?_
   try cbv
   replace h:=getF_inv h
   obtain⟨x20,⟨hx0,hx⟩,h⟩:=h
   refine⟨x20,hx0,hx,?_⟩
   clear hx0 hx
   replace h:=ds_listtrue15_inv h
   obtain⟨l21,rfl,h⟩:=h
   try cbv
   refine seq_go ?_
   try cbv
   replace h:=lenF_inv M h
   obtain⟨z22,hz,h⟩:=h
   refine⟨z22,hz,?_⟩
   clear hz
   try cbv
   refine loop_inv (T:=Nat×Int×Int) [0,1,15,16,17,21,22,23] [.ext 0,.ext 1,.ext 2] 448 (fun t=>⟨[(0,.v (.c (.yl (.ext 0)))),sE 1 2,(15,.v (.c (.tl false 1 ([.list true 15 l13,.list true 15 l14])))),sI 16 2,sI 17 z17,sT 21 15 l21,sI 22 z22,sI 23 t.2.1],[(.ext 0,.rnd rf88_0 [sE 3 1]),(.ext 1,.cells [.d (.int .i64 t.2.2)]),(.ext 2,.cells [.d (.int .u8 z2),.d (.str s3),.d (.str s4),.d (.list false 1 l5),.d (.int .u8 z6),.d (.str s7),.d (.list true 3 l8),.d (.int .i64 z9),.d (.str s10),.d (.list false 1 l11),.d (.list true 8 l12),.d (.list true 15 l13),.d (.list true 15 l14),.d (.list true 3 l15),.d (.int .i64 z16)])],448⟩)
     (fun t=>t.1<=m2/\L138_3 t.1 z2 s3 s4 l5 z6 s7 l8 z9 s10 l11 l12 l13 l14 l15 z16 z17 l21 z22 t.2.1 t.2.2=some (r1,r2,r3,r4,r5,r6,r7,r8,r9,r10,r11,r12,r13,r14,r15,r16)) (fun t=>t.1) (m2,((0:Int),z18)) ⟨Nat.le_refl _,h⟩ (by cbv) ?_
   clear h
   rintro⟨m3,z23,z24⟩ ⟨hm3,h⟩
   replace hm3:m3<=m2:=hm3
   obtain _ | m3:=m3
   ·replace h:L138_3 0 z2 s3 s4 l5 z6 s7 l8 z9 s10 l11 l12 l13 l14 l15 z16 z17 l21 z22 z23 z24=some (r1,r2,r3,r4,r5,r6,r7,r8,r9,r10,r11,r12,r13,r14,r15,r16):=h
    rw[L138_3]at h
    cases h
   replace h:L138_3 (m3+1) z2 s3 s4 l5 z6 s7 l8 z9 s10 l11 l12 l13 l14 l15 z16 z17 l21 z22 z23 z24=some (r1,r2,r3,r4,r5,r6,r7,r8,r9,r10,r11,r12,r13,r14,r15,r16):=h
   rw[L138_3]at h
   try cbv
   refine seq_joinB 24 [0,1,15,16,17,21,22,23,24] [.ext 0,.ext 1,.ext 2] 480 (fun m b=>m<=m3/\L138_4 m z2 s3 s4 l5 z6 s7 l8 z9 s10 l11 l12 l13 l14 l15 z16 z17 l21 z22 z23 z24 b=some (r1,r2,r3,r4,r5,r6,r7,r8,r9,r10,r11,r12,r13,r14,r15,r16)) ?_ ?_
   ·try cbv
    refine splitL (fun e=>?_) (fun e=>?_)
    ·replace h:=ite_t e h
     clear e
     try cbv
     exact join_next (m3,true) [0,1,15,16,17,21,22,23,24] [.ext 0,.ext 1,.ext 2] 480 ⟨by omega,h⟩ (by cbv)
    replace h:=ite_f (Int.not_lt.2 e) h
    clear e
    try cbv
    exact join_next (m3,false) [0,1,15,16,17,21,22,23,24] [.ext 0,.ext 1,.ext 2] 480 ⟨by omega,h⟩ (by cbv)
   clear h
   rintro⟨m4,b25⟩ ⟨hm4,h⟩
   try cbv
   replace hm4:m4<=m3:=hm4
   obtain _ | m4:=m4
   ·replace h:L138_4 0 z2 s3 s4 l5 z6 s7 l8 z9 s10 l11 l12 l13 l14 l15 z16 z17 l21 z22 z23 z24 b25=some (r1,r2,r3,r4,r5,r6,r7,r8,r9,r10,r11,r12,r13,r14,r15,r16):=h
    rw[L138_4]at h
    cases h
   replace h:L138_4 (m4+1) z2 s3 s4 l5 z6 s7 l8 z9 s10 l11 l12 l13 l14 l15 z16 z17 l21 z22 z23 z24 b25=some (r1,r2,r3,r4,r5,r6,r7,r8,r9,r10,r11,r12,r13,r14,r15,r16):=h
   rw[L138_4]at h
   try cbv
   refine seq_go ?_
   try cbv
   cases b25
   ·replace h:=itF h
    try cbv
    replace h:=letF_inv h
    obtain⟨z44,hz,h⟩:=h
    refine⟨z44,hz,?_⟩
    clear hz
    try cbv
    exact loop_next (m4,(z44,z24)) [0,1,15,16,17] [.ext 0,.ext 1,.ext 2] 224 ⟨by omega,h⟩ (Nat.lt_succ_of_le (by omega)) (by cbv)
   replace h:=itT h
   try cbv
   refine seq_go ?_
   try cbv
   refine seq_go ?_
   try cbv
   replace h:=getF_inv h
   obtain⟨x26,⟨hx0,hx⟩,h⟩:=h
   refine⟨x26,hx0,hx,?_⟩
   clear hx0 hx
   replace h:=ds_t50_inv h
   obtain⟨z27,s28,s29,l30,z31,s32,l33,z34,s35,l36,l37,l38,l39,l40,z41,rfl,h⟩:=h
   try cbv
   refine seq_go ?_
   try cbv
   replace h:=bO1_inv h
   obtain⟨z42,hr,h⟩:=h
   refine yl_with hM hI [.ext 1] (sl0:=[(3,.v (.c (.ptr (.ext 0) 0)))]) rfl rfl rfl rfl ((ih _ (by omega)).1 hr) rfl rfl rfl (by simp) ⟨rfl,trivial⟩ ⟨trivial,trivial⟩ (by simp) ?_
   clear hr
   try cbv
   refine⟨false,rfl,?_⟩
   try cbv
   replace h:=letF_inv h
   obtain⟨z43,hz,h⟩:=h
   refine⟨z43,hz,?_⟩
   clear hz
   try cbv
   exact loop_next (m4,(z43,z42)) [0,1,15,16,17,21,22,23] [.ext 0,.ext 1,.ext 2] 448 ⟨by omega,h⟩ (Nat.lt_succ_of_le (by omega)) (by cbv)
  replace h:=itF h
  try cbv
  refine seq_go ?_
  try cbv
  replace h:=lenF_inv M h
  obtain⟨z45,hz,h⟩:=h
  refine⟨z45,hz,?_⟩
  clear hz
  try cbv
  refine loop_inv (T:=Nat×Int×Int) [0,34,35,36] [.ext 0,.ext 1,.ext 2] 384 (fun t=>⟨[(0,.v (.c (.yl (.ext 0)))),sT 34 3 l15,sI 35 z45,sI 36 t.2.1],[(.ext 0,.rnd rf88_0 [sE 3 1]),(.ext 1,.cells [.d (.int .i64 t.2.2)]),(.ext 2,.cells [.d (.int .u8 z2),.d (.str s3),.d (.str s4),.d (.list false 1 l5),.d (.int .u8 z6),.d (.str s7),.d (.list true 3 l8),.d (.int .i64 z9),.d (.str s10),.d (.list false 1 l11),.d (.list true 8 l12),.d (.list true 15 l13),.d (.list true 15 l14),.d (.list true 3 l15),.d (.int .i64 z16)])],384⟩)
    (fun t=>t.1<=m2/\L138_5 t.1 z2 s3 s4 l5 z6 s7 l8 z9 s10 l11 l12 l13 l14 l15 z16 z45 t.2.1 t.2.2=some (r1,r2,r3,r4,r5,r6,r7,r8,r9,r10,r11,r12,r13,r14,r15,r16)) (fun t=>t.1) (m2,((0:Int),z18)) ⟨Nat.le_refl _,h⟩ (by cbv) ?_
  clear h
  rintro⟨m5,z46,z47⟩ ⟨hm5,h⟩
  replace hm5:m5<=m2:=hm5
  obtain _ | m5:=m5
  ·replace h:L138_5 0 z2 s3 s4 l5 z6 s7 l8 z9 s10 l11 l12 l13 l14 l15 z16 z45 z46 z47=some (r1,r2,r3,r4,r5,r6,r7,r8,r9,r10,r11,r12,r13,r14,r15,r16):=h
   rw[L138_5]at h
   cases h
  replace h:L138_5 (m5+1) z2 s3 s4 l5 z6 s7 l8 z9 s10 l11 l12 l13 l14 l15 z16 z45 z46 z47=some (r1,r2,r3,r4,r5,r6,r7,r8,r9,r10,r11,r12,r13,r14,r15,r16):=h
  rw[L138_5]at h
  try cbv
  refine seq_joinB 37 [0,34,35,36,37] [.ext 0,.ext 1,.ext 2] 416 (fun m b=>m<=m5/\L138_6 m z2 s3 s4 l5 z6 s7 l8 z9 s10 l11 l12 l13 l14 l15 z16 z45 z46 z47 b=some (r1,r2,r3,r4,r5,r6,r7,r8,r9,r10,r11,r12,r13,r14,r15,r16)) ?_ ?_
  ·try cbv
   refine splitL (fun e=>?_) (fun e=>?_)
   ·replace h:=ite_t e h
    clear e
    try cbv
    exact join_next (m5,true) [0,34,35,36,37] [.ext 0,.ext 1,.ext 2] 416 ⟨by omega,h⟩ (by cbv)
   replace h:=ite_f (Int.not_lt.2 e) h
   clear e
   try cbv
   exact join_next (m5,false) [0,34,35,36,37] [.ext 0,.ext 1,.ext 2] 416 ⟨by omega,h⟩ (by cbv)
  clear h
  rintro⟨m6,b48⟩ ⟨hm6,h⟩
  try cbv
  replace hm6:m6<=m5:=hm6
  obtain _ | m6:=m6
  ·replace h:L138_6 0 z2 s3 s4 l5 z6 s7 l8 z9 s10 l11 l12 l13 l14 l15 z16 z45 z46 z47 b48=some (r1,r2,r3,r4,r5,r6,r7,r8,r9,r10,r11,r12,r13,r14,r15,r16):=h
   rw[L138_6]at h
   cases h
  replace h:L138_6 (m6+1) z2 s3 s4 l5 z6 s7 l8 z9 s10 l11 l12 l13 l14 l15 z16 z45 z46 z47 b48=some (r1,r2,r3,r4,r5,r6,r7,r8,r9,r10,r11,r12,r13,r14,r15,r16):=h
  rw[L138_6]at h
  try cbv
  refine seq_go ?_
  try cbv
  cases b48
  ·replace h:=itF h
   try cbv
   obtain⟨rfl,rfl,rfl,rfl,rfl,rfl,rfl,rfl,rfl,rfl,rfl,rfl,rfl,rfl,rfl,rfl⟩:=inj16 h
   refine fin_go ?_
   try cbv
   exact⟨[],rfl,rfl,⟨rfl,⟨rfl,⟨rfl,trivial⟩⟩⟩,trivial,trivial⟩
  replace h:=itT h
  try cbv
  refine seq_go ?_
  try cbv
  refine seq_go ?_
  try cbv
  replace h:=getF_inv h
  obtain⟨x49,⟨hx0,hx⟩,h⟩:=h
  refine⟨x49,hx0,hx,?_⟩
  clear hx0 hx
  replace h:=ds_t95_inv h
  obtain⟨s50,s51,l52,rfl,h⟩:=h
  try cbv
  refine seq_go ?_
  try cbv
  replace h:=lenF_inv M h
  obtain⟨z53,hz,h⟩:=h
  refine⟨z53,hz,?_⟩
  clear hz
  try cbv
  refine loop_inv (T:=Nat×Int×Int) [0,34,35,36,41,42,43] [.ext 0,.ext 1,.ext 2] 672 (fun t=>⟨[(0,.v (.c (.yl (.ext 0)))),sT 34 3 l15,sI 35 z45,sI 36 z46,sT 41 15 l52,sI 42 z53,sI 43 t.2.1],[(.ext 0,.rnd rf88_0 [sE 3 1]),(.ext 1,.cells [.d (.int .i64 t.2.2)]),(.ext 2,.cells [.d (.int .u8 z2),.d (.str s3),.d (.str s4),.d (.list false 1 l5),.d (.int .u8 z6),.d (.str s7),.d (.list true 3 l8),.d (.int .i64 z9),.d (.str s10),.d (.list false 1 l11),.d (.list true 8 l12),.d (.list true 15 l13),.d (.list true 15 l14),.d (.list true 3 l15),.d (.int .i64 z16)])],672⟩)
    (fun t=>t.1<=m6/\L138_7 t.1 z2 s3 s4 l5 z6 s7 l8 z9 s10 l11 l12 l13 l14 l15 z16 z45 z46 l52 z53 t.2.1 t.2.2=some (r1,r2,r3,r4,r5,r6,r7,r8,r9,r10,r11,r12,r13,r14,r15,r16)) (fun t=>t.1) (m6,((0:Int),z47)) ⟨Nat.le_refl _,h⟩ (by cbv) ?_
  clear h
  rintro⟨m7,z54,z55⟩ ⟨hm7,h⟩
  replace hm7:m7<=m6:=hm7
  obtain _ | m7:=m7
  ·replace h:L138_7 0 z2 s3 s4 l5 z6 s7 l8 z9 s10 l11 l12 l13 l14 l15 z16 z45 z46 l52 z53 z54 z55=some (r1,r2,r3,r4,r5,r6,r7,r8,r9,r10,r11,r12,r13,r14,r15,r16):=h
   rw[L138_7]at h
   cases h
  replace h:L138_7 (m7+1) z2 s3 s4 l5 z6 s7 l8 z9 s10 l11 l12 l13 l14 l15 z16 z45 z46 l52 z53 z54 z55=some (r1,r2,r3,r4,r5,r6,r7,r8,r9,r10,r11,r12,r13,r14,r15,r16):=h
  rw[L138_7]at h
  try cbv
  refine seq_joinB 44 [0,34,35,36,41,42,43,44] [.ext 0,.ext 1,.ext 2] 704 (fun m b=>m<=m7/\L138_8 m z2 s3 s4 l5 z6 s7 l8 z9 s10 l11 l12 l13 l14 l15 z16 z45 z46 l52 z53 z54 z55 b=some (r1,r2,r3,r4,r5,r6,r7,r8,r9,r10,r11,r12,r13,r14,r15,r16)) ?_ ?_
  ·try cbv
   refine splitL (fun e=>?_) (fun e=>?_)
   ·replace h:=ite_t e h
    clear e
    try cbv
    exact join_next (m7,true) [0,34,35,36,41,42,43,44] [.ext 0,.ext 1,.ext 2] 704 ⟨by omega,h⟩ (by cbv)
   replace h:=ite_f (Int.not_lt.2 e) h
   clear e
   try cbv
   exact join_next (m7,false) [0,34,35,36,41,42,43,44] [.ext 0,.ext 1,.ext 2] 704 ⟨by omega,h⟩ (by cbv)
  clear h
  rintro⟨m8,b56⟩ ⟨hm8,h⟩
  try cbv
  replace hm8:m8<=m7:=hm8
  obtain _ | m8:=m8
  ·replace h:L138_8 0 z2 s3 s4 l5 z6 s7 l8 z9 s10 l11 l12 l13 l14 l15 z16 z45 z46 l52 z53 z54 z55 b56=some (r1,r2,r3,r4,r5,r6,r7,r8,r9,r10,r11,r12,r13,r14,r15,r16):=h
   rw[L138_8]at h
   cases h
  replace h:L138_8 (m8+1) z2 s3 s4 l5 z6 s7 l8 z9 s10 l11 l12 l13 l14 l15 z16 z45 z46 l52 z53 z54 z55 b56=some (r1,r2,r3,r4,r5,r6,r7,r8,r9,r10,r11,r12,r13,r14,r15,r16):=h
  rw[L138_8]at h
  try cbv
  refine seq_go ?_
  try cbv
  cases b56
  ·replace h:=itF h
   try cbv
   replace h:=letF_inv h
   obtain⟨z75,hz,h⟩:=h
   refine⟨z75,hz,?_⟩
   clear hz
   try cbv
   exact loop_next (m8,(z75,z55)) [0,34,35,36] [.ext 0,.ext 1,.ext 2] 384 ⟨by omega,h⟩ (Nat.lt_succ_of_le (by omega)) (by cbv)
  replace h:=itT h
  try cbv
  refine seq_go ?_
  try cbv
  refine seq_go ?_
  try cbv
  replace h:=getF_inv h
  obtain⟨x57,⟨hx0,hx⟩,h⟩:=h
  refine⟨x57,hx0,hx,?_⟩
  clear hx0 hx
  replace h:=ds_t50_inv h
  obtain⟨z58,s59,s60,l61,z62,s63,l64,z65,s66,l67,l68,l69,l70,l71,z72,rfl,h⟩:=h
  try cbv
  refine seq_go ?_
  try cbv
  replace h:=bO1_inv h
  obtain⟨z73,hr,h⟩:=h
  refine yl_with hM hI [.ext 1] (sl0:=[(3,.v (.c (.ptr (.ext 0) 0)))]) rfl rfl rfl rfl ((ih _ (by omega)).1 hr) rfl rfl rfl (by simp) ⟨rfl,trivial⟩ ⟨trivial,trivial⟩ (by simp) ?_
  clear hr
  try cbv
  refine⟨false,rfl,?_⟩
  try cbv
  replace h:=letF_inv h
  obtain⟨z74,hz,h⟩:=h
  refine⟨z74,hz,?_⟩
  clear hz
  try cbv
  exact loop_next (m8,(z74,z73)) [0,34,35,36,41,42,43] [.ext 0,.ext 1,.ext 2] 672 ⟨by omega,h⟩ (Nat.lt_succ_of_le (by omega)) (by cbv)
 intro z1 s2 s3 l4 z5 s6 l7 z8 s9 l10 l11 l12 l13 l14 z15 r1 h
 rw[F88]at h
 refine Trip.of tab_ok tab_one fol Tryz.func88 rfl (by kernel_rfl) rfl rfl rfl (fun M hM hI=>?_)
 try cbv
 refine seq_go ?_
 try cbv
 refine seq_go ?_
 try cbv
 refine seq_join (T:=Nat×Int) (fun t=>⟨[sL 1 0,sI 2 0,sL 3 64],[(.loc 0,.cells [.d (.int .u8 z1),.d (.str s2),.d (.str s3),.d (.list false 1 l4),.d (.int .u8 z5),.d (.str s6),.d (.list true 3 l7),.d (.int .i64 z8),.d (.str s9),.d (.list false 1 l10),.d (.list true 8 l11),.d (.list true 15 l12),.d (.list true 15 l13),.d (.list true 3 l14),.d (.int .i64 z15)]),(.loc 64,.cells [.d (.int .i64 t.2)])],352⟩) (fun t=>t.1<=n/\L88_2 t.1 z1 s2 s3 l4 z5 s6 l7 z8 s9 l10 l11 l12 l13 l14 z15 t.2=some r1) ?_ ?_
 ·try cbv
  refine seq_joinB 9 [1,2,3,9] [.loc 0,.loc 64] 224 (fun m b=>m<=n/\L88_1 m z1 s2 s3 l4 z5 s6 l7 z8 s9 l10 l11 l12 l13 l14 z15 b=some r1) ?_ ?_
  ·try cbv
   refine splitI (fun e=>?_) (fun e=>?_)
   ·replace h:=ite_t e h
    clear e
    try cbv
    exact join_next (n,true) [1,2,3,9] [.loc 0,.loc 64] 224 ⟨by omega,h⟩ (by cbv)
   replace h:=ite_f e h
   clear e
   try cbv
   exact join_next (n,false) [1,2,3,9] [.loc 0,.loc 64] 224 ⟨by omega,h⟩ (by cbv)
  clear h
  rintro⟨m1,b16⟩ ⟨hm1,h⟩
  try cbv
  replace hm1:m1<=n:=hm1
  obtain _ | m1:=m1
  ·replace h:L88_1 0 z1 s2 s3 l4 z5 s6 l7 z8 s9 l10 l11 l12 l13 l14 z15 b16=some r1:=h
   rw[L88_1]at h
   cases h
  replace h:L88_1 (m1+1) z1 s2 s3 l4 z5 s6 l7 z8 s9 l10 l11 l12 l13 l14 z15 b16=some r1:=h
  rw[L88_1]at h
  try cbv
  cases b16
  ·replace h:=itF h
   try cbv
   exact join_next (m1,(0:Int)) [1,2,3] [.loc 0,.loc 64] 352 ⟨by omega,h⟩ (by cbv)
  replace h:=itT h
  try cbv
  replace h:=bO1_inv h
  obtain⟨z17,hr,h⟩:=h
  refine call_go rfl rfl ?_
  try cbv
  refine call_pure hM hI (T86 _ hr) rfl ?_
  clear hr
  try cbv
  exact join_next (m1,z17) [1,2,3] [.loc 0,.loc 64] 352 ⟨by omega,h⟩ (by cbv)
 clear h
 rintro⟨m2,z18⟩ ⟨hm2,h⟩
 replace hm2:m2<=n:=hm2
 obtain _ | m2:=m2
 ·replace h:L88_2 0 z1 s2 s3 l4 z5 s6 l7 z8 s9 l10 l11 l12 l13 l14 z15 z18=some r1:=h
  rw[L88_2]at h
  cases h
 replace h:L88_2 (m2+1) z1 s2 s3 l4 z5 s6 l7 z8 s9 l10 l11 l12 l13 l14 z15 z18=some r1:=h
 rw[L88_2]at h
 try cbv
 refine seq_go ?_
 try cbv
 refine seq_go ?_
 try cbv
 replace h:=lenF_inv M h
 obtain⟨z19,hz,h⟩:=h
 refine⟨z19,hz,?_⟩
 clear hz
 try cbv
 refine loop_inv (T:=Nat×Int×Int) [1,2,3,14,15,16] [.loc 0,.loc 64] 480 (fun t=>⟨[sL 1 0,sI 2 0,sL 3 64,sT 14 8 l11,sI 15 z19,sI 16 t.2.1],[(.loc 0,.cells [.d (.int .u8 z1),.d (.str s2),.d (.str s3),.d (.list false 1 l4),.d (.int .u8 z5),.d (.str s6),.d (.list true 3 l7),.d (.int .i64 z8),.d (.str s9),.d (.list false 1 l10),.d (.list true 8 l11),.d (.list true 15 l12),.d (.list true 15 l13),.d (.list true 3 l14),.d (.int .i64 z15)]),(.loc 64,.cells [.d (.int .i64 t.2.2)])],480⟩)
   (fun t=>t.1<=m2/\L88_3 t.1 z1 s2 s3 l4 z5 s6 l7 z8 s9 l10 l11 l12 l13 l14 z15 z19 t.2.1 t.2.2=some r1) (fun t=>t.1) (m2,((0:Int),z18)) ⟨Nat.le_refl _,h⟩ (by cbv) ?_
 clear h
 rintro⟨m3,z20,z21⟩ ⟨hm3,h⟩
 replace hm3:m3<=m2:=hm3
 obtain _ | m3:=m3
 ·replace h:L88_3 0 z1 s2 s3 l4 z5 s6 l7 z8 s9 l10 l11 l12 l13 l14 z15 z19 z20 z21=some r1:=h
  rw[L88_3]at h
  cases h
 replace h:L88_3 (m3+1) z1 s2 s3 l4 z5 s6 l7 z8 s9 l10 l11 l12 l13 l14 z15 z19 z20 z21=some r1:=h
 rw[L88_3]at h
 try cbv
 refine seq_joinB 17 [1,2,3,14,15,16,17] [.loc 0,.loc 64] 512 (fun m b=>m<=m3/\L88_4 m z1 s2 s3 l4 z5 s6 l7 z8 s9 l10 l11 l12 l13 l14 z15 z19 z20 z21 b=some r1) ?_ ?_
 ·try cbv
  refine splitL (fun e=>?_) (fun e=>?_)
  ·replace h:=ite_t e h
   clear e
   try cbv
   exact join_next (m3,true) [1,2,3,14,15,16,17] [.loc 0,.loc 64] 512 ⟨by omega,h⟩ (by cbv)
  replace h:=ite_f (Int.not_lt.2 e) h
  clear e
  try cbv
  exact join_next (m3,false) [1,2,3,14,15,16,17] [.loc 0,.loc 64] 512 ⟨by omega,h⟩ (by cbv)
 clear h
 rintro⟨m4,b22⟩ ⟨hm4,h⟩
 try cbv
 replace hm4:m4<=m3:=hm4
 obtain _ | m4:=m4
 ·replace h:L88_4 0 z1 s2 s3 l4 z5 s6 l7 z8 s9 l10 l11 l12 l13 l14 z15 z19 z20 z21 b22=some r1:=h
  rw[L88_4]at h
  cases h
 replace h:L88_4 (m4+1) z1 s2 s3 l4 z5 s6 l7 z8 s9 l10 l11 l12 l13 l14 z15 z19 z20 z21 b22=some r1:=h
 rw[L88_4]at h
 try cbv
 refine seq_go ?_
 try cbv
 cases b22
 ·replace h:=itF h
  try cbv
  refine seq_go ?_
  try cbv
  refine seq_go ?_
  try cbv
  replace h:=bO15_inv h
  obtain⟨z35,s36,s37,l38,z39,s40,l41,z42,s43,l44,l45,l46,l47,l48,z49,hr,h⟩:=h
  refine call_go rfl rfl ?_
  try cbv
  refine call_with hM hI [] (T89 _ hr) rfl (by simp) trivial trivial (by simp) ?_
  clear hr
  try cbv
  replace h:=bO16_inv h
  obtain⟨z50,z51,s52,s53,l54,z55,s56,l57,z58,s59,l60,l61,l62,l63,l64,z65,hr,h⟩:=h
  refine range_with hM hI [.loc 576,.loc 64,.loc 544] [(3,.v (.c (.ptr (.loc 64) 0)))] rfl ⟨rfl,trivial⟩ ((ih _ (by omega)).2.1 hr) rfl (by simp) ⟨rfl,⟨rfl,⟨rfl,trivial⟩⟩⟩ ⟨trivial,⟨trivial,⟨trivial,trivial⟩⟩⟩ (by simp) ?_
  clear hr
  try cbv
  refine seq_go ?_
  try cbv
  replace h:=letF_inv h
  obtain⟨z66,hz,h⟩:=h
  refine⟨z66,hz,?_⟩
  clear hz
  try cbv
  obtain rfl:=Option.some.inj h
  refine fin_go ?_
  try cbv
  exact⟨[],by trivial⟩
 replace h:=itT h
 try cbv
 refine seq_go ?_
 try cbv
 refine seq_go ?_
 try cbv
 replace h:=getF_inv h
 obtain⟨x23,⟨hx0,hx⟩,h⟩:=h
 refine⟨x23,hx0,hx,?_⟩
 clear hx0 hx
 replace h:=ds_t39_inv h
 obtain⟨z24,z25,s26,s27,s28,l29,l30,z31,rfl,h⟩:=h
 try cbv
 replace h:=bO1_inv h
 obtain⟨z32,hr,h⟩:=h
 first | refine .inr (.inl ⟨[],?_⟩) | refine .inl ⟨[],?_⟩
 try cbv
 refine call_pure hM hI (T87 _ hr) rfl ?_
 clear hr
 try cbv
 replace h:=letF_inv h
 obtain⟨z33,hz,h⟩:=h
 refine⟨z33,hz,?_⟩
 clear hz
 try cbv
 refine drawn ?_ ?_
 ·show _=true
  kernel_rfl
 try cbv
 replace h:=letF_inv h
 obtain⟨z34,hz,h⟩:=h
 refine⟨z34,hz,?_⟩
 clear hz
 try cbv
 exact loop_next (m4,(z34,z33)) [1,2,3,14,15,16] [.loc 0,.loc 64] 480 ⟨by omega,h⟩ (Nat.lt_succ_of_le (by omega)) (by cbv)
theorem T88 (n:Nat):∀⦃z1 s2 s3 l4 z5 s6 l7 z8 s9 l10 l11 l12 l13 l14 z15 r1⦄,F88 n z1 s2 s3 l4 z5 s6 l7 z8 s9 l10 l11 l12 l13 l14 z15=some r1->
  Trip Tryz.prog inv 88 [.d (.agg [.int .u8 z1,.str s2,.str s3,.list false 1 l4,.int .u8 z5,.str s6,.list true 3 l7,.int .i64 z8,.str s9,.list false 1 l10,.list true 8 l11,.list true 15 l12,.list true 15 l13,.list true 3 l14,.int .i64 z15])] [] (.v (.d (.int .i64 r1))) [] []:=(G88r0 n).2.2
mutual
def L39_3:Nat->LD->Int->Int->Int->Option (Int)
 | 0,_,_,_,_=>none
 | n+1,l7,z32,z33,z34=>
  (if z34<z32 then L39_4 n l7 z32 z33 z34 true else L39_4 n l7 z32 z33 z34 false)
def L39_4:Nat->LD->Int->Int->Int->Bool->Option (Int)
 | 0,_,_,_,_,_=>none
 | n+1,l7,z32,z33,z34,b35=>
  (if b35=true then getF l7 z34 fun x36=>ds_t50 x36 fun z37 s38 s39 l40 z41 s42 l43 z44 s45 l46 l47 l48 l49 l50 z51=>bO1 (F88 n z37 s38 s39 l40 z41 s42 l43 z44 s45 l46 l47 l48 l49 l50 z51) fun z52=>letF (if z52>z33 then z52 else z33) fun z53=>letF (IntKind.wrap .i64 (z34+1)) fun z54=>L39_3 n l7 z32 z53 z54 else letF (IntKind.wrap .i64 (z33+1)) fun z55=>some z55)
end
mutual
def L39_1:Nat->LD->LD->Int->Int->Int->Option (Int)
 | 0,_,_,_,_,_=>none
 | n+1,l3,l7,z20,z21,z22=>
  (if z22<z20 then L39_2 n l3 l7 z20 z21 z22 true else L39_2 n l3 l7 z20 z21 z22 false)
def L39_2:Nat->LD->LD->Int->Int->Int->Bool->Option (Int)
 | 0,_,_,_,_,_,_=>none
 | n+1,l3,l7,z20,z21,z22,b23=>
  (if b23=true then getF l3 z22 fun x24=>ds_t74 x24 fun s25 z26 s27 l28=>bO1 (F86 n z26 s27 l28) fun z29=>letF (if z29>z21 then z29 else z21) fun z30=>letF (IntKind.wrap .i64 (z22+1)) fun z31=>L39_1 n l3 l7 z20 z30 z31 else lenF l7 fun z32=>L39_3 n l7 z32 z21 (0:Int))
end
def F39 (n:Nat) (z1:Int) (s2:BA) (l3:LD) (z4:Int) (s5:BA) (l6:LD) (l7:LD) (z8:Int) (z9:Int) (s10:BA) (s11:BA) (s12:BA) (l13:LD) (l14:LD) (z15:Int) (z16:Int):Option (Int):=
 bO1 (F86 n z4 s5 l6) fun z17=>bO1 (F87 n z8 z9 s10 s11 s12 l13 l14 z15) fun z18=>letF (if z18>z17 then z18 else z17) fun z19=>lenF l3 fun z20=>L39_1 n l3 l7 z20 z19 (0:Int)
theorem T39 (n:Nat):∀⦃z1 s2 l3 z4 s5 l6 l7 z8 z9 s10 s11 s12 l13 l14 z15 z16 r1⦄,F39 n z1 s2 l3 z4 s5 l6 l7 z8 z9 s10 s11 s12 l13 l14 z15 z16=some r1->
    Trip Tryz.prog inv 39 [.d (.agg [.int .u8 z1,.str s2,.list true 4 l3,.int .u8 z4,.str s5,.list true 3 l6,.list true 15 l7,.int .u8 z8,.int .i64 z9,.str s10,.str s11,.str s12,.list false 1 l13,.list true 8 l14,.int .i64 z15,.int .i64 z16])] [] (.v (.d (.int .i64 r1))) [] []:=by
 intro z1 s2 l3 z4 s5 l6 l7 z8 z9 s10 s11 s12 l13 l14 z15 z16 r1 h
 unfold F39 at h
 refine Trip.of tab_ok tab_one fol Tryz.func39 rfl (by kernel_rfl) rfl rfl rfl (fun M hM hI=>?_)
 try cbv
 refine seq_go ?_
 try cbv
 refine seq_go ?_
 try cbv
 replace h:=bO1_inv h
 obtain⟨z17,hr,h⟩:=h
 first | refine .inr (.inl ⟨[],?_⟩) | refine .inl ⟨[],?_⟩
 try cbv
 refine call_pure hM hI (T86 _ hr) rfl ?_
 clear hr
 try cbv
 replace h:=bO1_inv h
 obtain⟨z18,hr,h⟩:=h
 first | refine .inr (.inl ⟨[],?_⟩) | refine .inl ⟨[],?_⟩
 try cbv
 refine call_pure hM hI (T87 _ hr) rfl ?_
 clear hr
 try cbv
 replace h:=letF_inv h
 obtain⟨z19,hz,h⟩:=h
 refine⟨z19,hz,?_⟩
 clear hz
 try cbv
 refine drawn ?_ ?_
 ·show _=true
  kernel_rfl
 try cbv
 refine seq_go ?_
 try cbv
 refine seq_go ?_
 try cbv
 replace h:=lenF_inv M h
 obtain⟨z20,hz,h⟩:=h
 refine⟨z20,hz,?_⟩
 clear hz
 try cbv
 refine loop_inv (T:=Nat×Int×Int) [1,2,3,16,17,18] [.loc 0] 448 (fun t=>⟨[sL 1 0,sI 2 0,sI 3 t.2.1,sT 16 4 l3,sI 17 z20,sI 18 t.2.2],[(.loc 0,.cells [.d (.int .u8 z1),.d (.str s2),.d (.list true 4 l3),.d (.int .u8 z4),.d (.str s5),.d (.list true 3 l6),.d (.list true 15 l7),.d (.int .u8 z8),.d (.int .i64 z9),.d (.str s10),.d (.str s11),.d (.str s12),.d (.list false 1 l13),.d (.list true 8 l14),.d (.int .i64 z15),.d (.int .i64 z16)])],448⟩)
   (fun t=>t.1<=n/\L39_1 t.1 l3 l7 z20 t.2.1 t.2.2=some r1) (fun t=>t.1) (n,(z19,(0:Int))) ⟨Nat.le_refl _,h⟩ (by cbv) ?_
 clear h
 rintro⟨m1,z21,z22⟩ ⟨hm1,h⟩
 replace hm1:m1<=n:=hm1
 obtain _ | m1:=m1
 ·replace h:L39_1 0 l3 l7 z20 z21 z22=some r1:=h
  rw[L39_1]at h
  cases h
 replace h:L39_1 (m1+1) l3 l7 z20 z21 z22=some r1:=h
 rw[L39_1]at h
 try cbv
 refine seq_joinB 19 [1,2,3,16,17,18,19] [.loc 0] 480 (fun m b=>m<=m1/\L39_2 m l3 l7 z20 z21 z22 b=some r1) ?_ ?_
 ·try cbv
  refine splitL (fun e=>?_) (fun e=>?_)
  ·replace h:=ite_t e h
   clear e
   try cbv
   exact join_next (m1,true) [1,2,3,16,17,18,19] [.loc 0] 480 ⟨by omega,h⟩ (by cbv)
  replace h:=ite_f (Int.not_lt.2 e) h
  clear e
  try cbv
  exact join_next (m1,false) [1,2,3,16,17,18,19] [.loc 0] 480 ⟨by omega,h⟩ (by cbv)
 clear h
 rintro⟨m2,b23⟩ ⟨hm2,h⟩
 try cbv
 replace hm2:m2<=m1:=hm2
 obtain _ | m2:=m2
 ·replace h:L39_2 0 l3 l7 z20 z21 z22 b23=some r1:=h
  rw[L39_2]at h
  cases h
 replace h:L39_2 (m2+1) l3 l7 z20 z21 z22 b23=some r1:=h
 rw[L39_2]at h
 try cbv
 refine seq_go ?_
 try cbv
 cases b23
 rotate_left
 ·replace h:=itT h
  try cbv
  refine seq_go ?_
  try cbv
  refine seq_go ?_
  try cbv
  replace h:=getF_inv h
  obtain⟨x24,⟨hx0,hx⟩,h⟩:=h
  refine⟨x24,hx0,hx,?_⟩
  clear hx0 hx
  replace h:=ds_t74_inv h
  obtain⟨s25,z26,s27,l28,rfl,h⟩:=h
  try cbv
  replace h:=bO1_inv h
  obtain⟨z29,hr,h⟩:=h
  refine call_go rfl rfl ?_
  try cbv
  refine call_pure hM hI (T86 _ hr) rfl ?_
  clear hr
  try cbv
  replace h:=letF_inv h
  obtain⟨z30,hz,h⟩:=h
  refine⟨z30,hz,?_⟩
  clear hz
  try cbv
  replace h:=letF_inv h
  obtain⟨z31,hz,h⟩:=h
  refine⟨z31,hz,?_⟩
  clear hz
  try cbv
  exact loop_next (m2,(z30,z31)) [1,2,3,16,17,18] [.loc 0] 448 ⟨by omega,h⟩ (Nat.lt_succ_of_le (by omega)) (by cbv)
 replace h:=itF h
 try cbv
 refine seq_go ?_
 try cbv
 refine seq_go ?_
 try cbv
 replace h:=lenF_inv M h
 obtain⟨z32,hz,h⟩:=h
 refine⟨z32,hz,?_⟩
 clear hz
 try cbv
 refine loop_inv (T:=Nat×Int×Int) [2,3,29,30,31] [] 608 (fun t=>⟨[sI 2 0,sI 3 t.2.1,sT 29 15 l7,sI 30 z32,sI 31 t.2.2],[],608⟩)
   (fun t=>t.1<=m2/\L39_3 t.1 l7 z32 t.2.1 t.2.2=some r1) (fun t=>t.1) (m2,(z21,(0:Int))) ⟨Nat.le_refl _,h⟩ (by cbv) ?_
 clear h
 rintro⟨m3,z33,z34⟩ ⟨hm3,h⟩
 replace hm3:m3<=m2:=hm3
 obtain _ | m3:=m3
 ·replace h:L39_3 0 l7 z32 z33 z34=some r1:=h
  rw[L39_3]at h
  cases h
 replace h:L39_3 (m3+1) l7 z32 z33 z34=some r1:=h
 rw[L39_3]at h
 try cbv
 refine seq_joinB 32 [2,3,29,30,31,32] [] 640 (fun m b=>m<=m3/\L39_4 m l7 z32 z33 z34 b=some r1) ?_ ?_
 ·try cbv
  refine splitL (fun e=>?_) (fun e=>?_)
  ·replace h:=ite_t e h
   clear e
   try cbv
   exact join_next (m3,true) [2,3,29,30,31,32] [] 640 ⟨by omega,h⟩ (by cbv)
  replace h:=ite_f (Int.not_lt.2 e) h
  clear e
  try cbv
  exact join_next (m3,false) [2,3,29,30,31,32] [] 640 ⟨by omega,h⟩ (by cbv)
 clear h
 rintro⟨m4,b35⟩ ⟨hm4,h⟩
 try cbv
 replace hm4:m4<=m3:=hm4
 obtain _ | m4:=m4
 ·replace h:L39_4 0 l7 z32 z33 z34 b35=some r1:=h
  rw[L39_4]at h
  cases h
 replace h:L39_4 (m4+1) l7 z32 z33 z34 b35=some r1:=h
 rw[L39_4]at h
 try cbv
 refine seq_go ?_
 try cbv
 cases b35
 ·replace h:=itF h
  try cbv
  refine seq_go ?_
  try cbv
  replace h:=letF_inv h
  obtain⟨z55,hz,h⟩:=h
  refine⟨z55,hz,?_⟩
  clear hz
  try cbv
  obtain rfl:=Option.some.inj h
  refine fin_go ?_
  try cbv
  exact⟨[],by trivial⟩
 replace h:=itT h
 try cbv
 refine seq_go ?_
 try cbv
 refine seq_go ?_
 try cbv
 replace h:=getF_inv h
 obtain⟨x36,⟨hx0,hx⟩,h⟩:=h
 refine⟨x36,hx0,hx,?_⟩
 clear hx0 hx
 replace h:=ds_t50_inv h
 obtain⟨z37,s38,s39,l40,z41,s42,l43,z44,s45,l46,l47,l48,l49,l50,z51,rfl,h⟩:=h
 try cbv
 replace h:=bO1_inv h
 obtain⟨z52,hr,h⟩:=h
 refine call_go rfl rfl ?_
 try cbv
 refine call_pure hM hI (T88 _ hr) rfl ?_
 clear hr
 try cbv
 replace h:=letF_inv h
 obtain⟨z53,hz,h⟩:=h
 refine⟨z53,hz,?_⟩
 clear hz
 try cbv
 replace h:=letF_inv h
 obtain⟨z54,hz,h⟩:=h
 refine⟨z54,hz,?_⟩
 clear hz
 try cbv
 exact loop_next (m4,(z53,z54)) [2,3,29,30,31] [] 608 ⟨by omega,h⟩ (Nat.lt_succ_of_le (by omega)) (by cbv)
mutual
def L12_1:Nat->LD->Int->Int->Int->Option (Int)
 | 0,_,_,_,_=>none
 | n+1,l1,z2,z3,z4=>
  (if z4<z2 then L12_2 n l1 z2 z3 z4 true else L12_2 n l1 z2 z3 z4 false)
def L12_2:Nat->LD->Int->Int->Int->Bool->Option (Int)
 | 0,_,_,_,_,_=>none
 | n+1,l1,z2,z3,z4,b5=>
  (if b5=true then getF l1 z4 fun x6=>ds_t45 x6 fun z7 s8 l9 z10 s11 l12 l13 z14 z15 s16 s17 s18 l19 l20 z21 z22=>bO1 (F39 n z7 s8 l9 z10 s11 l12 l13 z14 z15 s16 s17 s18 l19 l20 z21 z22) fun z23=>letF (if z23>z3 then z23 else z3) fun z24=>letF (IntKind.wrap .i64 (z4+1)) fun z25=>L12_1 n l1 z2 z24 z25 else letF (IntKind.wrap .i64 (z3+1)) fun z26=>some z26)
end
def F12 (n:Nat) (l1:LD):Option (Int):=
 lenF l1 fun z2=>L12_1 n l1 z2 (0:Int) (0:Int)
theorem T12 (n:Nat):∀⦃l1 r1⦄,F12 n l1=some r1->
    Trip Tryz.prog inv 12 [.d (.agg [.list true 16 l1])] [] (.v (.d (.int .i64 r1))) [] []:=by
 intro l1 r1 h
 unfold F12 at h
 refine Trip.of tab_ok tab_one fol Tryz.func12 rfl (by kernel_rfl) rfl rfl rfl (fun M hM hI=>?_)
 try cbv
 refine seq_go ?_
 try cbv
 refine seq_go ?_
 try cbv
 refine seq_go ?_
 try cbv
 refine seq_go ?_
 try cbv
 replace h:=lenF_inv M h
 obtain⟨z2,hz,h⟩:=h
 refine⟨z2,hz,?_⟩
 clear hz
 try cbv
 refine loop_inv (T:=Nat×Int×Int) [2,3,7,8,9] [] 224 (fun t=>⟨[sI 2 0,sI 3 t.2.1,sT 7 16 l1,sI 8 z2,sI 9 t.2.2],[],224⟩)
   (fun t=>t.1<=n/\L12_1 t.1 l1 z2 t.2.1 t.2.2=some r1) (fun t=>t.1) (n,((0:Int),(0:Int))) ⟨Nat.le_refl _,h⟩ (by cbv) ?_
 clear h
 rintro⟨m1,z3,z4⟩ ⟨hm1,h⟩
 replace hm1:m1<=n:=hm1
 obtain _ | m1:=m1
 ·replace h:L12_1 0 l1 z2 z3 z4=some r1:=h
  rw[L12_1]at h
  cases h
 replace h:L12_1 (m1+1) l1 z2 z3 z4=some r1:=h
 rw[L12_1]at h
 try cbv
 refine seq_joinB 10 [2,3,7,8,9,10] [] 256 (fun m b=>m<=m1/\L12_2 m l1 z2 z3 z4 b=some r1) ?_ ?_
 ·try cbv
  refine splitL (fun e=>?_) (fun e=>?_)
  ·replace h:=ite_t e h
   clear e
   try cbv
   exact join_next (m1,true) [2,3,7,8,9,10] [] 256 ⟨by omega,h⟩ (by cbv)
  replace h:=ite_f (Int.not_lt.2 e) h
  clear e
  try cbv
  exact join_next (m1,false) [2,3,7,8,9,10] [] 256 ⟨by omega,h⟩ (by cbv)
 clear h
 rintro⟨m2,b5⟩ ⟨hm2,h⟩
 try cbv
 replace hm2:m2<=m1:=hm2
 obtain _ | m2:=m2
 ·replace h:L12_2 0 l1 z2 z3 z4 b5=some r1:=h
  rw[L12_2]at h
  cases h
 replace h:L12_2 (m2+1) l1 z2 z3 z4 b5=some r1:=h
 rw[L12_2]at h
 try cbv
 refine seq_go ?_
 try cbv
 cases b5
 ·replace h:=itF h
  try cbv
  refine seq_go ?_
  try cbv
  replace h:=letF_inv h
  obtain⟨z26,hz,h⟩:=h
  refine⟨z26,hz,?_⟩
  clear hz
  try cbv
  obtain rfl:=Option.some.inj h
  refine fin_go ?_
  try cbv
  exact⟨[],by trivial⟩
 replace h:=itT h
 try cbv
 refine seq_go ?_
 try cbv
 refine seq_go ?_
 try cbv
 replace h:=getF_inv h
 obtain⟨x6,⟨hx0,hx⟩,h⟩:=h
 refine⟨x6,hx0,hx,?_⟩
 clear hx0 hx
 replace h:=ds_t45_inv h
 obtain⟨z7,s8,l9,z10,s11,l12,l13,z14,z15,s16,s17,s18,l19,l20,z21,z22,rfl,h⟩:=h
 try cbv
 replace h:=bO1_inv h
 obtain⟨z23,hr,h⟩:=h
 refine call_go rfl rfl ?_
 try cbv
 refine call_pure hM hI (T39 _ hr) rfl ?_
 clear hr
 try cbv
 replace h:=letF_inv h
 obtain⟨z24,hz,h⟩:=h
 refine⟨z24,hz,?_⟩
 clear hz
 try cbv
 replace h:=letF_inv h
 obtain⟨z25,hz,h⟩:=h
 refine⟨z25,hz,?_⟩
 clear hz
 try cbv
 exact loop_next (m2,(z24,z25)) [2,3,7,8,9] [] 224 ⟨by omega,h⟩ (Nat.lt_succ_of_le (by omega)) (by cbv)
mutual
def L44_1:Nat->LD->Int->Int->Int->Option (Int)
 | 0,_,_,_,_=>none
 | n+1,l7,z9,z10,z11=>
  (if z11<z9 then L44_2 n l7 z9 z10 z11 true else L44_2 n l7 z9 z10 z11 false)
def L44_2:Nat->LD->Int->Int->Int->Bool->Option (Int)
 | 0,_,_,_,_,_=>none
 | n+1,l7,z9,z10,z11,b12=>
  (if b12=true then getF l7 z11 fun x13=>ds_t39 x13 fun z14 z15 s16 s17 s18 l19 l20 z21=>bO1 (F44 n z14 z15 s16 s17 s18 l19 l20 z21) fun z22=>letF (IntKind.wrap .i64 (z10+z22)) fun z23=>letF (IntKind.wrap .i64 (z11+1)) fun z24=>L44_1 n l7 z9 z23 z24 else some z10)
def F44:Nat->Int->Int->BA->BA->BA->LD->LD->Int->Option (Int)
 | 0,_,_,_,_,_,_,_,_=>none
 | n+1,z1,z2,s3,s4,s5,l6,l7,z8=>
  lenF l7 fun z9=>L44_1 n l7 z9 (1:Int) (0:Int)
end
theorem T44 (n:Nat):∀⦃z1 z2 s3 s4 s5 l6 l7 z8 r1⦄,F44 n z1 z2 s3 s4 s5 l6 l7 z8=some r1->
    Trip Tryz.prog inv 44 [.d (.agg [.int .u8 z1,.int .i64 z2,.str s3,.str s4,.str s5,.list false 1 l6,.list true 8 l7,.int .i64 z8])] [] (.v (.d (.int .i64 r1))) [] []:=by
 induction n using Nat.strongRecOn with | _ n ih=>
 obtain _ | n:=n
 ·intro z1 z2 s3 s4 s5 l6 l7 z8 r1 h
  cases (show (none:Option _)=some _ from h)
 intro z1 z2 s3 s4 s5 l6 l7 z8 r1 h
 rw[F44]at h
 refine Trip.of tab_ok tab_one fol Tryz.func44 rfl (by kernel_rfl) rfl rfl rfl (fun M hM hI=>?_)
 try cbv
 refine seq_go ?_
 try cbv
 refine seq_go ?_
 try cbv
 refine seq_go ?_
 try cbv
 refine seq_go ?_
 try cbv
 replace h:=lenF_inv M h
 obtain⟨z9,hz,h⟩:=h
 refine⟨z9,hz,?_⟩
 clear hz
 try cbv
 refine loop_inv (T:=Nat×Int×Int) [2,3,7,8,9] [] 224 (fun t=>⟨[sI 2 0,sI 3 t.2.1,sT 7 8 l7,sI 8 z9,sI 9 t.2.2],[],224⟩)
   (fun t=>t.1<=n/\L44_1 t.1 l7 z9 t.2.1 t.2.2=some r1) (fun t=>t.1) (n,((1:Int),(0:Int))) ⟨Nat.le_refl _,h⟩ (by cbv) ?_
 clear h
 rintro⟨m1,z10,z11⟩ ⟨hm1,h⟩
 replace hm1:m1<=n:=hm1
 obtain _ | m1:=m1
 ·replace h:L44_1 0 l7 z9 z10 z11=some r1:=h
  rw[L44_1]at h
  cases h
 replace h:L44_1 (m1+1) l7 z9 z10 z11=some r1:=h
 rw[L44_1]at h
 try cbv
 refine seq_joinB 10 [2,3,7,8,9,10] [] 256 (fun m b=>m<=m1/\L44_2 m l7 z9 z10 z11 b=some r1) ?_ ?_
 ·try cbv
  refine splitL (fun e=>?_) (fun e=>?_)
  ·replace h:=ite_t e h
   clear e
   try cbv
   exact join_next (m1,true) [2,3,7,8,9,10] [] 256 ⟨by omega,h⟩ (by cbv)
  replace h:=ite_f (Int.not_lt.2 e) h
  clear e
  try cbv
  exact join_next (m1,false) [2,3,7,8,9,10] [] 256 ⟨by omega,h⟩ (by cbv)
 clear h
 rintro⟨m2,b12⟩ ⟨hm2,h⟩
 try cbv
 replace hm2:m2<=m1:=hm2
 obtain _ | m2:=m2
 ·replace h:L44_2 0 l7 z9 z10 z11 b12=some r1:=h
  rw[L44_2]at h
  cases h
 replace h:L44_2 (m2+1) l7 z9 z10 z11 b12=some r1:=h
 rw[L44_2]at h
 try cbv
 refine seq_go ?_
 try cbv
 cases b12
 ·replace h:=itF h
  try cbv
  refine seq_go ?_
  try cbv
  obtain rfl:=Option.some.inj h
  refine fin_go ?_
  try cbv
  exact⟨[],by trivial⟩
 replace h:=itT h
 try cbv
 refine seq_go ?_
 try cbv
 refine seq_go ?_
 try cbv
 replace h:=getF_inv h
 obtain⟨x13,⟨hx0,hx⟩,h⟩:=h
 refine⟨x13,hx0,hx,?_⟩
 clear hx0 hx
 replace h:=ds_t39_inv h
 obtain⟨z14,z15,s16,s17,s18,l19,l20,z21,rfl,h⟩:=h
 try cbv
 replace h:=bO1_inv h
 obtain⟨z22,hr,h⟩:=h
 refine call_go rfl rfl ?_
 try cbv
 refine call_pure hM hI ((ih _ (by omega)) hr) rfl ?_
 clear hr
 try cbv
 replace h:=letF_inv h
 obtain⟨z23,hz,h⟩:=h
 refine⟨z23,hz,?_⟩
 clear hz
 try cbv
 replace h:=letF_inv h
 obtain⟨z24,hz,h⟩:=h
 refine⟨z24,hz,?_⟩
 clear hz
 try cbv
 exact loop_next (m2,(z23,z24)) [2,3,7,8,9] [] 224 ⟨by omega,h⟩ (Nat.lt_succ_of_le (by omega)) (by cbv)
mutual
def F45r0:Nat->Int->BA->BA->LD->Int->BA->LD->Int->BA->LD->LD->LD->LD->LD->Int->Int->Option (Int)
 | 0,_,_,_,_,_,_,_,_,_,_,_,_,_,_,_,_=>none
 | n+1,z1,s2,s3,l4,z5,s6,l7,z8,s9,l10,l11,l12,l13,l14,z15,z16=>
  bO1 (F45 n z1 s2 s3 l4 z5 s6 l7 z8 s9 l10 l11 l12 l13 l14 z15) fun z17=>letF (IntKind.wrap .i64 (z16+z17)) fun z18=>some z18
def L138x1_1:Nat->Int->BA->BA->LD->Int->BA->LD->Int->BA->LD->LD->LD->LD->LD->Int->Int->Int->Option (Int×Int×BA×BA×LD×Int×BA×LD×Int×BA×LD×LD×LD×LD×LD×Int)
 | 0,_,_,_,_,_,_,_,_,_,_,_,_,_,_,_,_,_=>none
 | n+1,z2,s3,s4,l5,z6,s7,l8,z9,s10,l11,l12,l13,l14,l15,z16,z17,z18=>
  (if z17<(2:Int)then L138x1_2 n z2 s3 s4 l5 z6 s7 l8 z9 s10 l11 l12 l13 l14 l15 z16 z17 z18 true else L138x1_2 n z2 s3 s4 l5 z6 s7 l8 z9 s10 l11 l12 l13 l14 l15 z16 z17 z18 false)
def L138x1_2:Nat->Int->BA->BA->LD->Int->BA->LD->Int->BA->LD->LD->LD->LD->LD->Int->Int->Int->Bool->Option (Int×Int×BA×BA×LD×Int×BA×LD×Int×BA×LD×LD×LD×LD×LD×Int)
 | 0,_,_,_,_,_,_,_,_,_,_,_,_,_,_,_,_,_,_=>none
 | n+1,z2,s3,s4,l5,z6,s7,l8,z9,s10,l11,l12,l13,l14,l15,z16,z17,z18,b19=>
  (if b19=true then getF ([.list true 15 l13,.list true 15 l14]) z17 fun x20=>ds_listtrue15 x20 fun l21=>lenF l21 fun z22=>L138x1_3 n z2 s3 s4 l5 z6 s7 l8 z9 s10 l11 l12 l13 l14 l15 z16 z17 l21 z22 (0:Int) z18 else lenF l15 fun z45=>L138x1_5 n z2 s3 s4 l5 z6 s7 l8 z9 s10 l11 l12 l13 l14 l15 z16 z45 (0:Int) z18)
def L138x1_3:Nat->Int->BA->BA->LD->Int->BA->LD->Int->BA->LD->LD->LD->LD->LD->Int->Int->LD->Int->Int->Int->Option (Int×Int×BA×BA×LD×Int×BA×LD×Int×BA×LD×LD×LD×LD×LD×Int)
 | 0,_,_,_,_,_,_,_,_,_,_,_,_,_,_,_,_,_,_,_,_=>none
 | n+1,z2,s3,s4,l5,z6,s7,l8,z9,s10,l11,l12,l13,l14,l15,z16,z17,l21,z22,z23,z24=>
  (if z23<z22 then L138x1_4 n z2 s3 s4 l5 z6 s7 l8 z9 s10 l11 l12 l13 l14 l15 z16 z17 l21 z22 z23 z24 true else L138x1_4 n z2 s3 s4 l5 z6 s7 l8 z9 s10 l11 l12 l13 l14 l15 z16 z17 l21 z22 z23 z24 false)
def L138x1_4:Nat->Int->BA->BA->LD->Int->BA->LD->Int->BA->LD->LD->LD->LD->LD->Int->Int->LD->Int->Int->Int->Bool->Option (Int×Int×BA×BA×LD×Int×BA×LD×Int×BA×LD×LD×LD×LD×LD×Int)
 | 0,_,_,_,_,_,_,_,_,_,_,_,_,_,_,_,_,_,_,_,_,_=>none
 | n+1,z2,s3,s4,l5,z6,s7,l8,z9,s10,l11,l12,l13,l14,l15,z16,z17,l21,z22,z23,z24,b25=>
  (if b25=true then getF l21 z23 fun x26=>ds_t50 x26 fun z27 s28 s29 l30 z31 s32 l33 z34 s35 l36 l37 l38 l39 l40 z41=>bO1 (F45r0 n z27 s28 s29 l30 z31 s32 l33 z34 s35 l36 l37 l38 l39 l40 z41 z24) fun z42=>letF (IntKind.wrap .i64 (z23+1)) fun z43=>L138x1_3 n z2 s3 s4 l5 z6 s7 l8 z9 s10 l11 l12 l13 l14 l15 z16 z17 l21 z22 z43 z42 else letF (IntKind.wrap .i64 (z17+1)) fun z44=>L138x1_1 n z2 s3 s4 l5 z6 s7 l8 z9 s10 l11 l12 l13 l14 l15 z16 z44 z24)
def L138x1_5:Nat->Int->BA->BA->LD->Int->BA->LD->Int->BA->LD->LD->LD->LD->LD->Int->Int->Int->Int->Option (Int×Int×BA×BA×LD×Int×BA×LD×Int×BA×LD×LD×LD×LD×LD×Int)
 | 0,_,_,_,_,_,_,_,_,_,_,_,_,_,_,_,_,_,_=>none
 | n+1,z2,s3,s4,l5,z6,s7,l8,z9,s10,l11,l12,l13,l14,l15,z16,z45,z46,z47=>
  (if z46<z45 then L138x1_6 n z2 s3 s4 l5 z6 s7 l8 z9 s10 l11 l12 l13 l14 l15 z16 z45 z46 z47 true else L138x1_6 n z2 s3 s4 l5 z6 s7 l8 z9 s10 l11 l12 l13 l14 l15 z16 z45 z46 z47 false)
def L138x1_6:Nat->Int->BA->BA->LD->Int->BA->LD->Int->BA->LD->LD->LD->LD->LD->Int->Int->Int->Int->Bool->Option (Int×Int×BA×BA×LD×Int×BA×LD×Int×BA×LD×LD×LD×LD×LD×Int)
 | 0,_,_,_,_,_,_,_,_,_,_,_,_,_,_,_,_,_,_,_=>none
 | n+1,z2,s3,s4,l5,z6,s7,l8,z9,s10,l11,l12,l13,l14,l15,z16,z45,z46,z47,b48=>
  (if b48=true then getF l15 z46 fun x49=>ds_t95 x49 fun s50 s51 l52=>lenF l52 fun z53=>L138x1_7 n z2 s3 s4 l5 z6 s7 l8 z9 s10 l11 l12 l13 l14 l15 z16 z45 z46 l52 z53 (0:Int) z47 else some (z47,z2,s3,s4,l5,z6,s7,l8,z9,s10,l11,l12,l13,l14,l15,z16))
def L138x1_7:Nat->Int->BA->BA->LD->Int->BA->LD->Int->BA->LD->LD->LD->LD->LD->Int->Int->Int->LD->Int->Int->Int->Option (Int×Int×BA×BA×LD×Int×BA×LD×Int×BA×LD×LD×LD×LD×LD×Int)
 | 0,_,_,_,_,_,_,_,_,_,_,_,_,_,_,_,_,_,_,_,_,_=>none
 | n+1,z2,s3,s4,l5,z6,s7,l8,z9,s10,l11,l12,l13,l14,l15,z16,z45,z46,l52,z53,z54,z55=>
  (if z54<z53 then L138x1_8 n z2 s3 s4 l5 z6 s7 l8 z9 s10 l11 l12 l13 l14 l15 z16 z45 z46 l52 z53 z54 z55 true else L138x1_8 n z2 s3 s4 l5 z6 s7 l8 z9 s10 l11 l12 l13 l14 l15 z16 z45 z46 l52 z53 z54 z55 false)
def L138x1_8:Nat->Int->BA->BA->LD->Int->BA->LD->Int->BA->LD->LD->LD->LD->LD->Int->Int->Int->LD->Int->Int->Int->Bool->Option (Int×Int×BA×BA×LD×Int×BA×LD×Int×BA×LD×LD×LD×LD×LD×Int)
 | 0,_,_,_,_,_,_,_,_,_,_,_,_,_,_,_,_,_,_,_,_,_,_=>none
 | n+1,z2,s3,s4,l5,z6,s7,l8,z9,s10,l11,l12,l13,l14,l15,z16,z45,z46,l52,z53,z54,z55,b56=>
  (if b56=true then getF l52 z54 fun x57=>ds_t50 x57 fun z58 s59 s60 l61 z62 s63 l64 z65 s66 l67 l68 l69 l70 l71 z72=>bO1 (F45r0 n z58 s59 s60 l61 z62 s63 l64 z65 s66 l67 l68 l69 l70 l71 z72 z55) fun z73=>letF (IntKind.wrap .i64 (z54+1)) fun z74=>L138x1_7 n z2 s3 s4 l5 z6 s7 l8 z9 s10 l11 l12 l13 l14 l15 z16 z45 z46 l52 z53 z74 z73 else letF (IntKind.wrap .i64 (z46+1)) fun z75=>L138x1_5 n z2 s3 s4 l5 z6 s7 l8 z9 s10 l11 l12 l13 l14 l15 z16 z45 z75 z55)
def F138x1:Nat->Int->Int->BA->BA->LD->Int->BA->LD->Int->BA->LD->LD->LD->LD->LD->Int->Option (Int×Int×BA×BA×LD×Int×BA×LD×Int×BA×LD×LD×LD×LD×LD×Int)
 | 0,_,_,_,_,_,_,_,_,_,_,_,_,_,_,_,_=>none
 | n+1,z1,z2,s3,s4,l5,z6,s7,l8,z9,s10,l11,l12,l13,l14,l15,z16=>
  L138x1_1 n z2 s3 s4 l5 z6 s7 l8 z9 s10 l11 l12 l13 l14 l15 z16 (0:Int) z1
def L45_1:Nat->Int->BA->BA->LD->Int->BA->LD->Int->BA->LD->LD->LD->LD->LD->Int->Int->Int->Int->Option (Int)
 | 0,_,_,_,_,_,_,_,_,_,_,_,_,_,_,_,_,_,_=>none
 | n+1,z1,s2,s3,l4,z5,s6,l7,z8,s9,l10,l11,l12,l13,l14,z15,z16,z17,z18=>
  (if z17<z16 then L45_2 n z1 s2 s3 l4 z5 s6 l7 z8 s9 l10 l11 l12 l13 l14 z15 z16 z17 z18 true else L45_2 n z1 s2 s3 l4 z5 s6 l7 z8 s9 l10 l11 l12 l13 l14 z15 z16 z17 z18 false)
def L45_2:Nat->Int->BA->BA->LD->Int->BA->LD->Int->BA->LD->LD->LD->LD->LD->Int->Int->Int->Int->Bool->Option (Int)
 | 0,_,_,_,_,_,_,_,_,_,_,_,_,_,_,_,_,_,_,_=>none
 | n+1,z1,s2,s3,l4,z5,s6,l7,z8,s9,l10,l11,l12,l13,l14,z15,z16,z17,z18,b19=>
  (if b19=true then getF l11 z17 fun x20=>ds_t39 x20 fun z21 z22 s23 s24 s25 l26 l27 z28=>bO1 (F44 n z21 z22 s23 s24 s25 l26 l27 z28) fun z29=>letF (IntKind.wrap .i64 (z18+z29)) fun z30=>letF (IntKind.wrap .i64 (z17+1)) fun z31=>L45_1 n z1 s2 s3 l4 z5 s6 l7 z8 s9 l10 l11 l12 l13 l14 z15 z16 z31 z30 else bO15 (F89 n z1 s2 s3 l4 z5 s6 l7 z8 s9 l10 l11 l12 l13 l14 z15) fun z32 s33 s34 l35 z36 s37 l38 z39 s40 l41 l42 l43 l44 l45 z46=>bO16 (F138x1 n z18 z32 s33 s34 l35 z36 s37 l38 z39 s40 l41 l42 l43 l44 l45 z46) fun z47 z48 s49 s50 l51 z52 s53 l54 z55 s56 l57 l58 l59 l60 l61 z62=>some z47)
def F45:Nat->Int->BA->BA->LD->Int->BA->LD->Int->BA->LD->LD->LD->LD->LD->Int->Option (Int)
 | 0,_,_,_,_,_,_,_,_,_,_,_,_,_,_,_=>none
 | n+1,z1,s2,s3,l4,z5,s6,l7,z8,s9,l10,l11,l12,l13,l14,z15=>
  lenF l11 fun z16=>L45_1 n z1 s2 s3 l4 z5 s6 l7 z8 s9 l10 l11 l12 l13 l14 z15 z16 (0:Int) (1:Int)
end
theorem G45r0 (n:Nat):(∀⦃z1 s2 s3 l4 z5 s6 l7 z8 s9 l10 l11 l12 l13 l14 z15 z16 r1⦄,F45r0 n z1 s2 s3 l4 z5 s6 l7 z8 s9 l10 l11 l12 l13 l14 z15 z16=some r1->
    RoundK Tryz.prog inv (rf45_0 ()) [(3,.v (.c (.ptr (.ext 0) 0)))] [.d (.agg [.int .u8 z1,.str s2,.str s3,.list false 1 l4,.int .u8 z5,.str s6,.list true 3 l7,.int .i64 z8,.str s9,.list false 1 l10,.list true 8 l11,.list true 15 l12,.list true 15 l13,.list true 3 l14,.int .i64 z15])] [.cells [.d (.int .i64 z16)]] fun j p n=>j=none/\p=[.cells [.d (.int .i64 r1)]]/\n=[])/\
    (∀⦃z1 z2 s3 s4 l5 z6 s7 l8 z9 s10 l11 l12 l13 l14 l15 z16 r1 r2 r3 r4 r5 r6 r7 r8 r9 r10 r11 r12 r13 r14 r15 r16⦄,F138x1 n z1 z2 s3 s4 l5 z6 s7 l8 z9 s10 l11 l12 l13 l14 l15 z16=some (r1,r2,r3,r4,r5,r6,r7,r8,r9,r10,r11,r12,r13,r14,r15,r16)->
    Trip Tryz.prog inv 138 [.c (.yl (.ext 0)),.c (.ptr (.ext 2) 0)] [.rnd rf45_0 [(3,.v (.c (.ptr (.ext 1) 0)))],.cells [.d (.int .i64 z1)],.cells [.d (.int .u8 z2),.d (.str s3),.d (.str s4),.d (.list false 1 l5),.d (.int .u8 z6),.d (.str s7),.d (.list true 3 l8),.d (.int .i64 z9),.d (.str s10),.d (.list false 1 l11),.d (.list true 8 l12),.d (.list true 15 l13),.d (.list true 15 l14),.d (.list true 3 l15),.d (.int .i64 z16)]] (.t []) [.rnd rf45_0 [(3,.v (.c (.ptr (.ext 1) 0)))],.cells [.d (.int .i64 r1)],.cells [.d (.int .u8 r2),.d (.str r3),.d (.str r4),.d (.list false 1 r5),.d (.int .u8 r6),.d (.str r7),.d (.list true 3 r8),.d (.int .i64 r9),.d (.str r10),.d (.list false 1 r11),.d (.list true 8 r12),.d (.list true 15 r13),.d (.list true 15 r14),.d (.list true 3 r15),.d (.int .i64 r16)]] [])/\
    (∀⦃z1 s2 s3 l4 z5 s6 l7 z8 s9 l10 l11 l12 l13 l14 z15 r1⦄,F45 n z1 s2 s3 l4 z5 s6 l7 z8 s9 l10 l11 l12 l13 l14 z15=some r1->
    Trip Tryz.prog inv 45 [.d (.agg [.int .u8 z1,.str s2,.str s3,.list false 1 l4,.int .u8 z5,.str s6,.list true 3 l7,.int .i64 z8,.str s9,.list false 1 l10,.list true 8 l11,.list true 15 l12,.list true 15 l13,.list true 3 l14,.int .i64 z15])] [] (.v (.d (.int .i64 r1))) [] []):=by
 induction n using Nat.strongRecOn with | _ n ih=>
 obtain _ | n:=n
 ·refine⟨?_,?_,?_⟩
  ·intro z1 s2 s3 l4 z5 s6 l7 z8 s9 l10 l11 l12 l13 l14 z15 z16 r1 h
   cases (show (none:Option _)=some _ from h)
  ·intro z1 z2 s3 s4 l5 z6 s7 l8 z9 s10 l11 l12 l13 l14 l15 z16 r1 r2 r3 r4 r5 r6 r7 r8 r9 r10 r11 r12 r13 r14 r15 r16 h
   cases (show (none:Option _)=some _ from h)
  intro z1 s2 s3 l4 z5 s6 l7 z8 s9 l10 l11 l12 l13 l14 z15 r1 h
  cases (show (none:Option _)=some _ from h)
 refine⟨?_,?_,?_⟩
 ·intro z1 s2 s3 l4 z5 s6 l7 z8 s9 l10 l11 l12 l13 l14 z15 z16 r1 h
  rw[F45r0]at h
  refine RoundK.of' tab_ok tab_one fol rfl rfl rfl rfl rfl (by kernel_rfl) (fun M hM hI=>?_)
  try cbv
  replace h:=bO1_inv h
  obtain⟨z17,hr,h⟩:=h
  first | refine .inr (.inl ⟨[],?_⟩) | refine .inl ⟨[],?_⟩
  try cbv
  refine call_pure hM hI ((ih _ (by omega)).2.2 hr) rfl ?_
  clear hr
  try cbv
  replace h:=letF_inv h
  obtain⟨z18,hz,h⟩:=h
  refine⟨z18,hz,?_⟩
  clear hz
  try cbv
  refine drawn ?_ ?_
  ·show _=true
   kernel_rfl
  try cbv
  obtain rfl:=Option.some.inj h
  refine⟨_,_,⟨rfl,rfl,rfl⟩,[],?_⟩
  try cbv
  exact⟨[],rfl,⟨rfl,trivial⟩,trivial,trivial⟩
 ·intro z1 z2 s3 s4 l5 z6 s7 l8 z9 s10 l11 l12 l13 l14 l15 z16 r1 r2 r3 r4 r5 r6 r7 r8 r9 r10 r11 r12 r13 r14 r15 r16 h
  rw[F138x1]at h
  refine Trip.of tab_ok tab_one fol Tryz.func138 rfl (by kernel_rfl) rfl rfl rfl (fun M hM hI=>?_)
  try cbv
  refine seq_go ?_
  try cbv
  refine seq_go ?_
  try cbv
  refine⟨false,?_⟩
  try cbv
  refine⟨true,?_⟩
  try cbv
  refine⟨2,(M.lenI_eq _).trans rfl,?_⟩
  try cbv
  refine loop_inv (T:=Nat×Int×Int) [0,1,15,16,17] [.ext 0,.ext 1,.ext 2] 224 (fun t=>⟨[(0,.v (.c (.yl (.ext 0)))),sE 1 2,(15,.v (.c (.tl false 1 ([.list true 15 l13,.list true 15 l14])))),sI 16 2,sI 17 t.2.1],[(.ext 0,.rnd rf45_0 [sE 3 1]),(.ext 1,.cells [.d (.int .i64 t.2.2)]),(.ext 2,.cells [.d (.int .u8 z2),.d (.str s3),.d (.str s4),.d (.list false 1 l5),.d (.int .u8 z6),.d (.str s7),.d (.list true 3 l8),.d (.int .i64 z9),.d (.str s10),.d (.list false 1 l11),.d (.list true 8 l12),.d (.list true 15 l13),.d (.list true 15 l14),.d (.list true 3 l15),.d (.int .i64 z16)])],224⟩)
    (fun t=>t.1<=n/\L138x1_1 t.1 z2 s3 s4 l5 z6 s7 l8 z9 s10 l11 l12 l13 l14 l15 z16 t.2.1 t.2.2=some (r1,r2,r3,r4,r5,r6,r7,r8,r9,r10,r11,r12,r13,r14,r15,r16)) (fun t=>t.1) (n,((0:Int),z1)) ⟨Nat.le_refl _,h⟩ (by cbv) ?_
  clear h
  rintro⟨m1,z17,z18⟩ ⟨hm1,h⟩
  replace hm1:m1<=n:=hm1
  obtain _ | m1:=m1
  ·replace h:L138x1_1 0 z2 s3 s4 l5 z6 s7 l8 z9 s10 l11 l12 l13 l14 l15 z16 z17 z18=some (r1,r2,r3,r4,r5,r6,r7,r8,r9,r10,r11,r12,r13,r14,r15,r16):=h
   rw[L138x1_1]at h
   cases h
  replace h:L138x1_1 (m1+1) z2 s3 s4 l5 z6 s7 l8 z9 s10 l11 l12 l13 l14 l15 z16 z17 z18=some (r1,r2,r3,r4,r5,r6,r7,r8,r9,r10,r11,r12,r13,r14,r15,r16):=h
  rw[L138x1_1]at h
  try cbv
  refine seq_joinB 18 [0,1,15,16,17,18] [.ext 0,.ext 1,.ext 2] 256 (fun m b=>m<=m1/\L138x1_2 m z2 s3 s4 l5 z6 s7 l8 z9 s10 l11 l12 l13 l14 l15 z16 z17 z18 b=some (r1,r2,r3,r4,r5,r6,r7,r8,r9,r10,r11,r12,r13,r14,r15,r16)) ?_ ?_
  ·try cbv
   refine splitL (fun e=>?_) (fun e=>?_)
   ·replace h:=ite_t e h
    clear e
    try cbv
    exact join_next (m1,true) [0,1,15,16,17,18] [.ext 0,.ext 1,.ext 2] 256 ⟨by omega,h⟩ (by cbv)
   replace h:=ite_f (Int.not_lt.2 e) h
   clear e
   try cbv
   exact join_next (m1,false) [0,1,15,16,17,18] [.ext 0,.ext 1,.ext 2] 256 ⟨by omega,h⟩ (by cbv)
  clear h
  rintro⟨m2,b19⟩ ⟨hm2,h⟩
  try cbv
  replace hm2:m2<=m1:=hm2
  obtain _ | m2:=m2
  ·replace h:L138x1_2 0 z2 s3 s4 l5 z6 s7 l8 z9 s10 l11 l12 l13 l14 l15 z16 z17 z18 b19=some (r1,r2,r3,r4,r5,r6,r7,r8,r9,r10,r11,r12,r13,r14,r15,r16):=h
   rw[L138x1_2]at h
   cases h
  replace h:L138x1_2 (m2+1) z2 s3 s4 l5 z6 s7 l8 z9 s10 l11 l12 l13 l14 l15 z16 z17 z18 b19=some (r1,r2,r3,r4,r5,r6,r7,r8,r9,r10,r11,r12,r13,r14,r15,r16):=h
  rw[L138x1_2]at h
  try cbv
  refine seq_go ?_
  try cbv
  cases b19
  rotate_left
  ·replace h:=itT h
   try cbv
   refine seq_go ?_
   try cbv
   refine seq_go ?_
   try cbv
   replace h:=getF_inv h
   obtain⟨x20,⟨hx0,hx⟩,h⟩:=h
   refine⟨x20,hx0,hx,?_⟩
   clear hx0 hx
   replace h:=ds_listtrue15_inv h
   obtain⟨l21,rfl,h⟩:=h
   try cbv
   refine seq_go ?_
   try cbv
   replace h:=lenF_inv M h
   obtain⟨z22,hz,h⟩:=h
   refine⟨z22,hz,?_⟩
   clear hz
   try cbv
   refine loop_inv (T:=Nat×Int×Int) [0,1,15,16,17,21,22,23] [.ext 0,.ext 1,.ext 2] 448 (fun t=>⟨[(0,.v (.c (.yl (.ext 0)))),sE 1 2,(15,.v (.c (.tl false 1 ([.list true 15 l13,.list true 15 l14])))),sI 16 2,sI 17 z17,sT 21 15 l21,sI 22 z22,sI 23 t.2.1],[(.ext 0,.rnd rf45_0 [sE 3 1]),(.ext 1,.cells [.d (.int .i64 t.2.2)]),(.ext 2,.cells [.d (.int .u8 z2),.d (.str s3),.d (.str s4),.d (.list false 1 l5),.d (.int .u8 z6),.d (.str s7),.d (.list true 3 l8),.d (.int .i64 z9),.d (.str s10),.d (.list false 1 l11),.d (.list true 8 l12),.d (.list true 15 l13),.d (.list true 15 l14),.d (.list true 3 l15),.d (.int .i64 z16)])],448⟩)
     (fun t=>t.1<=m2/\L138x1_3 t.1 z2 s3 s4 l5 z6 s7 l8 z9 s10 l11 l12 l13 l14 l15 z16 z17 l21 z22 t.2.1 t.2.2=some (r1,r2,r3,r4,r5,r6,r7,r8,r9,r10,r11,r12,r13,r14,r15,r16)) (fun t=>t.1) (m2,((0:Int),z18)) ⟨Nat.le_refl _,h⟩ (by cbv) ?_
   clear h
   rintro⟨m3,z23,z24⟩ ⟨hm3,h⟩
   replace hm3:m3<=m2:=hm3
   obtain _ | m3:=m3
   ·replace h:L138x1_3 0 z2 s3 s4 l5 z6 s7 l8 z9 s10 l11 l12 l13 l14 l15 z16 z17 l21 z22 z23 z24=some (r1,r2,r3,r4,r5,r6,r7,r8,r9,r10,r11,r12,r13,r14,r15,r16):=h
    rw[L138x1_3]at h
    cases h
   replace h:L138x1_3 (m3+1) z2 s3 s4 l5 z6 s7 l8 z9 s10 l11 l12 l13 l14 l15 z16 z17 l21 z22 z23 z24=some (r1,r2,r3,r4,r5,r6,r7,r8,r9,r10,r11,r12,r13,r14,r15,r16):=h
   rw[L138x1_3]at h
   try cbv
   refine seq_joinB 24 [0,1,15,16,17,21,22,23,24] [.ext 0,.ext 1,.ext 2] 480 (fun m b=>m<=m3/\L138x1_4 m z2 s3 s4 l5 z6 s7 l8 z9 s10 l11 l12 l13 l14 l15 z16 z17 l21 z22 z23 z24 b=some (r1,r2,r3,r4,r5,r6,r7,r8,r9,r10,r11,r12,r13,r14,r15,r16)) ?_ ?_
   ·try cbv
    refine splitL (fun e=>?_) (fun e=>?_)
    ·replace h:=ite_t e h
     clear e
     try cbv
     exact join_next (m3,true) [0,1,15,16,17,21,22,23,24] [.ext 0,.ext 1,.ext 2] 480 ⟨by omega,h⟩ (by cbv)
    replace h:=ite_f (Int.not_lt.2 e) h
    clear e
    try cbv
    exact join_next (m3,false) [0,1,15,16,17,21,22,23,24] [.ext 0,.ext 1,.ext 2] 480 ⟨by omega,h⟩ (by cbv)
   clear h
   rintro⟨m4,b25⟩ ⟨hm4,h⟩
   try cbv
   replace hm4:m4<=m3:=hm4
   obtain _ | m4:=m4
   ·replace h:L138x1_4 0 z2 s3 s4 l5 z6 s7 l8 z9 s10 l11 l12 l13 l14 l15 z16 z17 l21 z22 z23 z24 b25=some (r1,r2,r3,r4,r5,r6,r7,r8,r9,r10,r11,r12,r13,r14,r15,r16):=h
    rw[L138x1_4]at h
    cases h
   replace h:L138x1_4 (m4+1) z2 s3 s4 l5 z6 s7 l8 z9 s10 l11 l12 l13 l14 l15 z16 z17 l21 z22 z23 z24 b25=some (r1,r2,r3,r4,r5,r6,r7,r8,r9,r10,r11,r12,r13,r14,r15,r16):=h
   rw[L138x1_4]at h
   try cbv
   refine seq_go ?_
   try cbv
   cases b25
   ·replace h:=itF h
    try cbv
    replace h:=letF_inv h
    obtain⟨z44,hz,h⟩:=h
    refine⟨z44,hz,?_⟩
    clear hz
    try cbv
    exact loop_next (m4,(z44,z24)) [0,1,15,16,17] [.ext 0,.ext 1,.ext 2] 224 ⟨by omega,h⟩ (Nat.lt_succ_of_le (by omega)) (by cbv)
   replace h:=itT h
   try cbv
   refine seq_go ?_
   try cbv
   refine seq_go ?_
   try cbv
   replace h:=getF_inv h
   obtain⟨x26,⟨hx0,hx⟩,h⟩:=h
   refine⟨x26,hx0,hx,?_⟩
   clear hx0 hx
   replace h:=ds_t50_inv h
   obtain⟨z27,s28,s29,l30,z31,s32,l33,z34,s35,l36,l37,l38,l39,l40,z41,rfl,h⟩:=h
   try cbv
   refine seq_go ?_
   try cbv
   replace h:=bO1_inv h
   obtain⟨z42,hr,h⟩:=h
   refine yl_with hM hI [.ext 1] (sl0:=[(3,.v (.c (.ptr (.ext 0) 0)))]) rfl rfl rfl rfl ((ih _ (by omega)).1 hr) rfl rfl rfl (by simp) ⟨rfl,trivial⟩ ⟨trivial,trivial⟩ (by simp) ?_
   clear hr
   try cbv
   refine⟨false,rfl,?_⟩
   try cbv
   replace h:=letF_inv h
   obtain⟨z43,hz,h⟩:=h
   refine⟨z43,hz,?_⟩
   clear hz
   try cbv
   exact loop_next (m4,(z43,z42)) [0,1,15,16,17,21,22,23] [.ext 0,.ext 1,.ext 2] 448 ⟨by omega,h⟩ (Nat.lt_succ_of_le (by omega)) (by cbv)
  replace h:=itF h
  try cbv
  refine seq_go ?_
  try cbv
  replace h:=lenF_inv M h
  obtain⟨z45,hz,h⟩:=h
  refine⟨z45,hz,?_⟩
  clear hz
  try cbv
  refine loop_inv (T:=Nat×Int×Int) [0,34,35,36] [.ext 0,.ext 1,.ext 2] 384 (fun t=>⟨[(0,.v (.c (.yl (.ext 0)))),sT 34 3 l15,sI 35 z45,sI 36 t.2.1],[(.ext 0,.rnd rf45_0 [sE 3 1]),(.ext 1,.cells [.d (.int .i64 t.2.2)]),(.ext 2,.cells [.d (.int .u8 z2),.d (.str s3),.d (.str s4),.d (.list false 1 l5),.d (.int .u8 z6),.d (.str s7),.d (.list true 3 l8),.d (.int .i64 z9),.d (.str s10),.d (.list false 1 l11),.d (.list true 8 l12),.d (.list true 15 l13),.d (.list true 15 l14),.d (.list true 3 l15),.d (.int .i64 z16)])],384⟩)
    (fun t=>t.1<=m2/\L138x1_5 t.1 z2 s3 s4 l5 z6 s7 l8 z9 s10 l11 l12 l13 l14 l15 z16 z45 t.2.1 t.2.2=some (r1,r2,r3,r4,r5,r6,r7,r8,r9,r10,r11,r12,r13,r14,r15,r16)) (fun t=>t.1) (m2,((0:Int),z18)) ⟨Nat.le_refl _,h⟩ (by cbv) ?_
  clear h
  rintro⟨m5,z46,z47⟩ ⟨hm5,h⟩
  replace hm5:m5<=m2:=hm5
  obtain _ | m5:=m5
  ·replace h:L138x1_5 0 z2 s3 s4 l5 z6 s7 l8 z9 s10 l11 l12 l13 l14 l15 z16 z45 z46 z47=some (r1,r2,r3,r4,r5,r6,r7,r8,r9,r10,r11,r12,r13,r14,r15,r16):=h
   rw[L138x1_5]at h
   cases h
  replace h:L138x1_5 (m5+1) z2 s3 s4 l5 z6 s7 l8 z9 s10 l11 l12 l13 l14 l15 z16 z45 z46 z47=some (r1,r2,r3,r4,r5,r6,r7,r8,r9,r10,r11,r12,r13,r14,r15,r16):=h
  rw[L138x1_5]at h
  try cbv
  refine seq_joinB 37 [0,34,35,36,37] [.ext 0,.ext 1,.ext 2] 416 (fun m b=>m<=m5/\L138x1_6 m z2 s3 s4 l5 z6 s7 l8 z9 s10 l11 l12 l13 l14 l15 z16 z45 z46 z47 b=some (r1,r2,r3,r4,r5,r6,r7,r8,r9,r10,r11,r12,r13,r14,r15,r16)) ?_ ?_
  ·try cbv
   refine splitL (fun e=>?_) (fun e=>?_)
   ·replace h:=ite_t e h
    clear e
    try cbv
    exact join_next (m5,true) [0,34,35,36,37] [.ext 0,.ext 1,.ext 2] 416 ⟨by omega,h⟩ (by cbv)
   replace h:=ite_f (Int.not_lt.2 e) h
   clear e
   try cbv
   exact join_next (m5,false) [0,34,35,36,37] [.ext 0,.ext 1,.ext 2] 416 ⟨by omega,h⟩ (by cbv)
  clear h
  rintro⟨m6,b48⟩ ⟨hm6,h⟩
  try cbv
  replace hm6:m6<=m5:=hm6
  obtain _ | m6:=m6
  ·replace h:L138x1_6 0 z2 s3 s4 l5 z6 s7 l8 z9 s10 l11 l12 l13 l14 l15 z16 z45 z46 z47 b48=some (r1,r2,r3,r4,r5,r6,r7,r8,r9,r10,r11,r12,r13,r14,r15,r16):=h
   rw[L138x1_6]at h
   cases h
  replace h:L138x1_6 (m6+1) z2 s3 s4 l5 z6 s7 l8 z9 s10 l11 l12 l13 l14 l15 z16 z45 z46 z47 b48=some (r1,r2,r3,r4,r5,r6,r7,r8,r9,r10,r11,r12,r13,r14,r15,r16):=h
  rw[L138x1_6]at h
  try cbv
  refine seq_go ?_
  try cbv
  cases b48
  ·replace h:=itF h
   try cbv
   obtain⟨rfl,rfl,rfl,rfl,rfl,rfl,rfl,rfl,rfl,rfl,rfl,rfl,rfl,rfl,rfl,rfl⟩:=inj16 h
   refine fin_go ?_
   try cbv
   exact⟨[],rfl,rfl,⟨rfl,⟨rfl,⟨rfl,trivial⟩⟩⟩,trivial,trivial⟩
  replace h:=itT h
  try cbv
  refine seq_go ?_
  try cbv
  refine seq_go ?_
  try cbv
  replace h:=getF_inv h
  obtain⟨x49,⟨hx0,hx⟩,h⟩:=h
  refine⟨x49,hx0,hx,?_⟩
  clear hx0 hx
  replace h:=ds_t95_inv h
  obtain⟨s50,s51,l52,rfl,h⟩:=h
  try cbv
  refine seq_go ?_
  try cbv
  replace h:=lenF_inv M h
  obtain⟨z53,hz,h⟩:=h
  refine⟨z53,hz,?_⟩
  clear hz
  try cbv
  refine loop_inv (T:=Nat×Int×Int) [0,34,35,36,41,42,43] [.ext 0,.ext 1,.ext 2] 672 (fun t=>⟨[(0,.v (.c (.yl (.ext 0)))),sT 34 3 l15,sI 35 z45,sI 36 z46,sT 41 15 l52,sI 42 z53,sI 43 t.2.1],[(.ext 0,.rnd rf45_0 [sE 3 1]),(.ext 1,.cells [.d (.int .i64 t.2.2)]),(.ext 2,.cells [.d (.int .u8 z2),.d (.str s3),.d (.str s4),.d (.list false 1 l5),.d (.int .u8 z6),.d (.str s7),.d (.list true 3 l8),.d (.int .i64 z9),.d (.str s10),.d (.list false 1 l11),.d (.list true 8 l12),.d (.list true 15 l13),.d (.list true 15 l14),.d (.list true 3 l15),.d (.int .i64 z16)])],672⟩)
    (fun t=>t.1<=m6/\L138x1_7 t.1 z2 s3 s4 l5 z6 s7 l8 z9 s10 l11 l12 l13 l14 l15 z16 z45 z46 l52 z53 t.2.1 t.2.2=some (r1,r2,r3,r4,r5,r6,r7,r8,r9,r10,r11,r12,r13,r14,r15,r16)) (fun t=>t.1) (m6,((0:Int),z47)) ⟨Nat.le_refl _,h⟩ (by cbv) ?_
  clear h
  rintro⟨m7,z54,z55⟩ ⟨hm7,h⟩
  replace hm7:m7<=m6:=hm7
  obtain _ | m7:=m7
  ·replace h:L138x1_7 0 z2 s3 s4 l5 z6 s7 l8 z9 s10 l11 l12 l13 l14 l15 z16 z45 z46 l52 z53 z54 z55=some (r1,r2,r3,r4,r5,r6,r7,r8,r9,r10,r11,r12,r13,r14,r15,r16):=h
   rw[L138x1_7]at h
   cases h
  replace h:L138x1_7 (m7+1) z2 s3 s4 l5 z6 s7 l8 z9 s10 l11 l12 l13 l14 l15 z16 z45 z46 l52 z53 z54 z55=some (r1,r2,r3,r4,r5,r6,r7,r8,r9,r10,r11,r12,r13,r14,r15,r16):=h
  rw[L138x1_7]at h
  try cbv
  refine seq_joinB 44 [0,34,35,36,41,42,43,44] [.ext 0,.ext 1,.ext 2] 704 (fun m b=>m<=m7/\L138x1_8 m z2 s3 s4 l5 z6 s7 l8 z9 s10 l11 l12 l13 l14 l15 z16 z45 z46 l52 z53 z54 z55 b=some (r1,r2,r3,r4,r5,r6,r7,r8,r9,r10,r11,r12,r13,r14,r15,r16)) ?_ ?_
  ·try cbv
   refine splitL (fun e=>?_) (fun e=>?_)
   ·replace h:=ite_t e h
    clear e
    try cbv
    exact join_next (m7,true) [0,34,35,36,41,42,43,44] [.ext 0,.ext 1,.ext 2] 704 ⟨by omega,h⟩ (by cbv)
   replace h:=ite_f (Int.not_lt.2 e) h
   clear e
   try cbv
   exact join_next (m7,false) [0,34,35,36,41,42,43,44] [.ext 0,.ext 1,.ext 2] 704 ⟨by omega,h⟩ (by cbv)
  clear h
  rintro⟨m8,b56⟩ ⟨hm8,h⟩
  try cbv
  replace hm8:m8<=m7:=hm8
  obtain _ | m8:=m8
  ·replace h:L138x1_8 0 z2 s3 s4 l5 z6 s7 l8 z9 s10 l11 l12 l13 l14 l15 z16 z45 z46 l52 z53 z54 z55 b56=some (r1,r2,r3,r4,r5,r6,r7,r8,r9,r10,r11,r12,r13,r14,r15,r16):=h
   rw[L138x1_8]at h
   cases h
  replace h:L138x1_8 (m8+1) z2 s3 s4 l5 z6 s7 l8 z9 s10 l11 l12 l13 l14 l15 z16 z45 z46 l52 z53 z54 z55 b56=some (r1,r2,r3,r4,r5,r6,r7,r8,r9,r10,r11,r12,r13,r14,r15,r16):=h
  rw[L138x1_8]at h
  try cbv
  refine seq_go ?_
  try cbv
  cases b56
  ·replace h:=itF h
   try cbv
   replace h:=letF_inv h
   obtain⟨z75,hz,h⟩:=h
   refine⟨z75,hz,?_⟩
   clear hz
   try cbv
   exact loop_next (m8,(z75,z55)) [0,34,35,36] [.ext 0,.ext 1,.ext 2] 384 ⟨by omega,h⟩ (Nat.lt_succ_of_le (by omega)) (by cbv)
  replace h:=itT h
  try cbv
  refine seq_go ?_
  try cbv
  refine seq_go ?_
  try cbv
  replace h:=getF_inv h
  obtain⟨x57,⟨hx0,hx⟩,h⟩:=h
  refine⟨x57,hx0,hx,?_⟩
  clear hx0 hx
  replace h:=ds_t50_inv h
  obtain⟨z58,s59,s60,l61,z62,s63,l64,z65,s66,l67,l68,l69,l70,l71,z72,rfl,h⟩:=h
  try cbv
  refine seq_go ?_
  try cbv
  replace h:=bO1_inv h
  obtain⟨z73,hr,h⟩:=h
  refine yl_with hM hI [.ext 1] (sl0:=[(3,.v (.c (.ptr (.ext 0) 0)))]) rfl rfl rfl rfl ((ih _ (by omega)).1 hr) rfl rfl rfl (by simp) ⟨rfl,trivial⟩ ⟨trivial,trivial⟩ (by simp) ?_
  clear hr
  try cbv
  refine⟨false,rfl,?_⟩
  try cbv
  replace h:=letF_inv h
  obtain⟨z74,hz,h⟩:=h
  refine⟨z74,hz,?_⟩
  clear hz
  try cbv
  exact loop_next (m8,(z74,z73)) [0,34,35,36,41,42,43] [.ext 0,.ext 1,.ext 2] 672 ⟨by omega,h⟩ (Nat.lt_succ_of_le (by omega)) (by cbv)
 intro z1 s2 s3 l4 z5 s6 l7 z8 s9 l10 l11 l12 l13 l14 z15 r1 h
 rw[F45]at h
 refine Trip.of tab_ok tab_one fol Tryz.func45 rfl (by kernel_rfl) rfl rfl rfl (fun M hM hI=>?_)
 try cbv
 refine seq_go ?_
 try cbv
 refine seq_go ?_
 try cbv
 refine seq_go ?_
 try cbv
 refine seq_go ?_
 try cbv
 replace h:=lenF_inv M h
 obtain⟨z16,hz,h⟩:=h
 refine⟨z16,hz,?_⟩
 clear hz
 try cbv
 refine loop_inv (T:=Nat×Int×Int) [1,2,3,8,9,10] [.loc 0,.loc 64] 256 (fun t=>⟨[sL 1 0,sI 2 0,sL 3 64,sT 8 8 l11,sI 9 z16,sI 10 t.2.1],[(.loc 0,.cells [.d (.int .u8 z1),.d (.str s2),.d (.str s3),.d (.list false 1 l4),.d (.int .u8 z5),.d (.str s6),.d (.list true 3 l7),.d (.int .i64 z8),.d (.str s9),.d (.list false 1 l10),.d (.list true 8 l11),.d (.list true 15 l12),.d (.list true 15 l13),.d (.list true 3 l14),.d (.int .i64 z15)]),(.loc 64,.cells [.d (.int .i64 t.2.2)])],256⟩)
   (fun t=>t.1<=n/\L45_1 t.1 z1 s2 s3 l4 z5 s6 l7 z8 s9 l10 l11 l12 l13 l14 z15 z16 t.2.1 t.2.2=some r1) (fun t=>t.1) (n,((0:Int),(1:Int))) ⟨Nat.le_refl _,h⟩ (by cbv) ?_
 clear h
 rintro⟨m1,z17,z18⟩ ⟨hm1,h⟩
 replace hm1:m1<=n:=hm1
 obtain _ | m1:=m1
 ·replace h:L45_1 0 z1 s2 s3 l4 z5 s6 l7 z8 s9 l10 l11 l12 l13 l14 z15 z16 z17 z18=some r1:=h
  rw[L45_1]at h
  cases h
 replace h:L45_1 (m1+1) z1 s2 s3 l4 z5 s6 l7 z8 s9 l10 l11 l12 l13 l14 z15 z16 z17 z18=some r1:=h
 rw[L45_1]at h
 try cbv
 refine seq_joinB 11 [1,2,3,8,9,10,11] [.loc 0,.loc 64] 288 (fun m b=>m<=m1/\L45_2 m z1 s2 s3 l4 z5 s6 l7 z8 s9 l10 l11 l12 l13 l14 z15 z16 z17 z18 b=some r1) ?_ ?_
 ·try cbv
  refine splitL (fun e=>?_) (fun e=>?_)
  ·replace h:=ite_t e h
   clear e
   try cbv
   exact join_next (m1,true) [1,2,3,8,9,10,11] [.loc 0,.loc 64] 288 ⟨by omega,h⟩ (by cbv)
  replace h:=ite_f (Int.not_lt.2 e) h
  clear e
  try cbv
  exact join_next (m1,false) [1,2,3,8,9,10,11] [.loc 0,.loc 64] 288 ⟨by omega,h⟩ (by cbv)
 clear h
 rintro⟨m2,b19⟩ ⟨hm2,h⟩
 try cbv
 replace hm2:m2<=m1:=hm2
 obtain _ | m2:=m2
 ·replace h:L45_2 0 z1 s2 s3 l4 z5 s6 l7 z8 s9 l10 l11 l12 l13 l14 z15 z16 z17 z18 b19=some r1:=h
  rw[L45_2]at h
  cases h
 replace h:L45_2 (m2+1) z1 s2 s3 l4 z5 s6 l7 z8 s9 l10 l11 l12 l13 l14 z15 z16 z17 z18 b19=some r1:=h
 rw[L45_2]at h
 try cbv
 refine seq_go ?_
 try cbv
 cases b19
 ·replace h:=itF h
  try cbv
  refine seq_go ?_
  try cbv
  refine seq_go ?_
  try cbv
  replace h:=bO15_inv h
  obtain⟨z32,s33,s34,l35,z36,s37,l38,z39,s40,l41,l42,l43,l44,l45,z46,hr,h⟩:=h
  refine call_go rfl rfl ?_
  try cbv
  refine call_with hM hI [] (T89 _ hr) rfl (by simp) trivial trivial (by simp) ?_
  clear hr
  try cbv
  replace h:=bO16_inv h
  obtain⟨z47,z48,s49,s50,l51,z52,s53,l54,z55,s56,l57,l58,l59,l60,l61,z62,hr,h⟩:=h
  refine range_with hM hI [.loc 352,.loc 64,.loc 320] [(3,.v (.c (.ptr (.loc 64) 0)))] rfl ⟨rfl,trivial⟩ ((ih _ (by omega)).2.1 hr) rfl (by simp) ⟨rfl,⟨rfl,⟨rfl,trivial⟩⟩⟩ ⟨trivial,⟨trivial,⟨trivial,trivial⟩⟩⟩ (by simp) ?_
  clear hr
  try cbv
  refine seq_go ?_
  try cbv
  obtain rfl:=Option.some.inj h
  refine fin_go ?_
  try cbv
  exact⟨[],by trivial⟩
 replace h:=itT h
 try cbv
 refine seq_go ?_
 try cbv
 refine seq_go ?_
 try cbv
 replace h:=getF_inv h
 obtain⟨x20,⟨hx0,hx⟩,h⟩:=h
 refine⟨x20,hx0,hx,?_⟩
 clear hx0 hx
 replace h:=ds_t39_inv h
 obtain⟨z21,z22,s23,s24,s25,l26,l27,z28,rfl,h⟩:=h
 try cbv
 replace h:=bO1_inv h
 obtain⟨z29,hr,h⟩:=h
 first | refine .inr (.inl ⟨[],?_⟩) | refine .inl ⟨[],?_⟩
 try cbv
 refine call_pure hM hI (T44 _ hr) rfl ?_
 clear hr
 try cbv
 replace h:=letF_inv h
 obtain⟨z30,hz,h⟩:=h
 refine⟨z30,hz,?_⟩
 clear hz
 try cbv
 refine drawn ?_ ?_
 ·show _=true
  kernel_rfl
 try cbv
 replace h:=letF_inv h
 obtain⟨z31,hz,h⟩:=h
 refine⟨z31,hz,?_⟩
 clear hz
 try cbv
 exact loop_next (m2,(z31,z30)) [1,2,3,8,9,10] [.loc 0,.loc 64] 256 ⟨by omega,h⟩ (Nat.lt_succ_of_le (by omega)) (by cbv)
theorem T45 (n:Nat):∀⦃z1 s2 s3 l4 z5 s6 l7 z8 s9 l10 l11 l12 l13 l14 z15 r1⦄,F45 n z1 s2 s3 l4 z5 s6 l7 z8 s9 l10 l11 l12 l13 l14 z15=some r1->
  Trip Tryz.prog inv 45 [.d (.agg [.int .u8 z1,.str s2,.str s3,.list false 1 l4,.int .u8 z5,.str s6,.list true 3 l7,.int .i64 z8,.str s9,.list false 1 l10,.list true 8 l11,.list true 15 l12,.list true 15 l13,.list true 3 l14,.int .i64 z15])] [] (.v (.d (.int .i64 r1))) [] []:=(G45r0 n).2.2
mutual
def L14_1:Nat->LD->Int->Int->Int->Option (Int)
 | 0,_,_,_,_=>none
 | n+1,l1,z2,z3,z4=>
  (if z4<z2 then L14_2 n l1 z2 z3 z4 true else L14_2 n l1 z2 z3 z4 false)
def L14_2:Nat->LD->Int->Int->Int->Bool->Option (Int)
 | 0,_,_,_,_,_=>none
 | n+1,l1,z2,z3,z4,b5=>
  (if b5=true then getF l1 z4 fun x6=>ds_t45 x6 fun z7 s8 l9 z10 s11 l12 l13 z14 z15 s16 s17 s18 l19 l20 z21 z22=>letF (IntKind.wrap .i64 (z3+1)) fun z23=>(if z7=(3:Int)then L14_3 n l1 z2 z4 l13 z14 z15 s16 s17 s18 l19 l20 z21 z23 true else L14_3 n l1 z2 z4 l13 z14 z15 s16 s17 s18 l19 l20 z21 z23 false)else some z3)
def L14_3:Nat->LD->Int->Int->LD->Int->Int->BA->BA->BA->LD->LD->Int->Int->Bool->Option (Int)
 | 0,_,_,_,_,_,_,_,_,_,_,_,_,_,_=>none
 | n+1,l1,z2,z4,l13,z14,z15,s16,s17,s18,l19,l20,z21,z23,b24=>
  (if b24=true then bO1 (F44 n z14 z15 s16 s17 s18 l19 l20 z21) fun z25=>letF (IntKind.wrap .i64 (z23+z25)) fun z26=>L14_4 n l1 z2 z4 l13 z26 else L14_4 n l1 z2 z4 l13 z23)
def L14_4:Nat->LD->Int->Int->LD->Int->Option (Int)
 | 0,_,_,_,_,_=>none
 | n+1,l1,z2,z4,l13,z27=>
  lenF l13 fun z28=>L14_5 n l1 z2 z4 l13 z28 z27 (0:Int)
def L14_5:Nat->LD->Int->Int->LD->Int->Int->Int->Option (Int)
 | 0,_,_,_,_,_,_,_=>none
 | n+1,l1,z2,z4,l13,z28,z29,z30=>
  (if z30<z28 then L14_6 n l1 z2 z4 l13 z28 z29 z30 true else L14_6 n l1 z2 z4 l13 z28 z29 z30 false)
def L14_6:Nat->LD->Int->Int->LD->Int->Int->Int->Bool->Option (Int)
 | 0,_,_,_,_,_,_,_,_=>none
 | n+1,l1,z2,z4,l13,z28,z29,z30,b31=>
  (if b31=true then getF l13 z30 fun x32=>ds_t50 x32 fun z33 s34 s35 l36 z37 s38 l39 z40 s41 l42 l43 l44 l45 l46 z47=>bO1 (F45 n z33 s34 s35 l36 z37 s38 l39 z40 s41 l42 l43 l44 l45 l46 z47) fun z48=>letF (IntKind.wrap .i64 (z29+z48)) fun z49=>letF (IntKind.wrap .i64 (z30+1)) fun z50=>L14_5 n l1 z2 z4 l13 z28 z49 z50 else letF (IntKind.wrap .i64 (z4+1)) fun z51=>L14_1 n l1 z2 z29 z51)
end
def F14 (n:Nat) (l1:LD):Option (Int):=
 lenF l1 fun z2=>L14_1 n l1 z2 (0:Int) (0:Int)
theorem T14 (n:Nat):∀⦃l1 r1⦄,F14 n l1=some r1->
    Trip Tryz.prog inv 14 [.d (.agg [.list true 16 l1])] [] (.v (.d (.int .i64 r1))) [] []:=by
 intro l1 r1 h
 unfold F14 at h
 refine Trip.of tab_ok tab_one fol Tryz.func14 rfl (by kernel_rfl) rfl rfl rfl (fun M hM hI=>?_)
 try cbv
 refine seq_go ?_
 try cbv
 refine seq_go ?_
 try cbv
 refine seq_go ?_
 try cbv
 refine seq_go ?_
 try cbv
 replace h:=lenF_inv M h
 obtain⟨z2,hz,h⟩:=h
 refine⟨z2,hz,?_⟩
 clear hz
 try cbv
 refine loop_inv (T:=Nat×Int×Int) [2,3,9,10,11] [] 224 (fun t=>⟨[sI 2 0,sI 3 t.2.1,sT 9 16 l1,sI 10 z2,sI 11 t.2.2],[],224⟩)
   (fun t=>t.1<=n/\L14_1 t.1 l1 z2 t.2.1 t.2.2=some r1) (fun t=>t.1) (n,((0:Int),(0:Int))) ⟨Nat.le_refl _,h⟩ (by cbv) ?_
 clear h
 rintro⟨m1,z3,z4⟩ ⟨hm1,h⟩
 replace hm1:m1<=n:=hm1
 obtain _ | m1:=m1
 ·replace h:L14_1 0 l1 z2 z3 z4=some r1:=h
  rw[L14_1]at h
  cases h
 replace h:L14_1 (m1+1) l1 z2 z3 z4=some r1:=h
 rw[L14_1]at h
 try cbv
 refine seq_joinB 12 [2,3,9,10,11,12] [] 256 (fun m b=>m<=m1/\L14_2 m l1 z2 z3 z4 b=some r1) ?_ ?_
 ·try cbv
  refine splitL (fun e=>?_) (fun e=>?_)
  ·replace h:=ite_t e h
   clear e
   try cbv
   exact join_next (m1,true) [2,3,9,10,11,12] [] 256 ⟨by omega,h⟩ (by cbv)
  replace h:=ite_f (Int.not_lt.2 e) h
  clear e
  try cbv
  exact join_next (m1,false) [2,3,9,10,11,12] [] 256 ⟨by omega,h⟩ (by cbv)
 clear h
 rintro⟨m2,b5⟩ ⟨hm2,h⟩
 try cbv
 replace hm2:m2<=m1:=hm2
 obtain _ | m2:=m2
 ·replace h:L14_2 0 l1 z2 z3 z4 b5=some r1:=h
  rw[L14_2]at h
  cases h
 replace h:L14_2 (m2+1) l1 z2 z3 z4 b5=some r1:=h
 rw[L14_2]at h
 try cbv
 refine seq_go ?_
 try cbv
 cases b5
 ·replace h:=itF h
  try cbv
  refine seq_go ?_
  try cbv
  obtain rfl:=Option.some.inj h
  refine fin_go ?_
  try cbv
  exact⟨[],by trivial⟩
 replace h:=itT h
 try cbv
 refine seq_go ?_
 try cbv
 refine seq_go ?_
 try cbv
 replace h:=getF_inv h
 obtain⟨x6,⟨hx0,hx⟩,h⟩:=h
 refine⟨x6,hx0,hx,?_⟩
 clear hx0 hx
 replace h:=ds_t45_inv h
 obtain⟨z7,s8,l9,z10,s11,l12,l13,z14,z15,s16,s17,s18,l19,l20,z21,z22,rfl,h⟩:=h
 try cbv
 refine seq_go ?_
 try cbv
 replace h:=letF_inv h
 obtain⟨z23,hz,h⟩:=h
 refine⟨z23,hz,?_⟩
 clear hz
 try cbv
 refine seq_join (T:=Nat×Int) (fun t=>⟨[sI 2 0,sI 3 t.2,sL 5 320,sT 9 16 l1,sI 10 z2,sI 11 z4],[(.loc 320,.cells [.d (.int .u8 z7),.d (.str s8),.d (.list true 4 l9),.d (.int .u8 z10),.d (.str s11),.d (.list true 3 l12),.d (.list true 15 l13),.d (.int .u8 z14),.d (.int .i64 z15),.d (.str s16),.d (.str s17),.d (.str s18),.d (.list false 1 l19),.d (.list true 8 l20),.d (.int .i64 z21),.d (.int .i64 z22)])],768⟩) (fun t=>t.1<=m2/\L14_4 t.1 l1 z2 z4 l13 t.2=some r1) ?_ ?_
 ·try cbv
  refine seq_joinB 19 [2,3,5,9,10,11,19] [.loc 320] 576 (fun m b=>m<=m2/\L14_3 m l1 z2 z4 l13 z14 z15 s16 s17 s18 l19 l20 z21 z23 b=some r1) ?_ ?_
  ·try cbv
   refine splitI (fun e=>?_) (fun e=>?_)
   ·replace h:=ite_t e h
    clear e
    try cbv
    exact join_next (m2,true) [2,3,5,9,10,11,19] [.loc 320] 576 ⟨by omega,h⟩ (by cbv)
   replace h:=ite_f e h
   clear e
   try cbv
   exact join_next (m2,false) [2,3,5,9,10,11,19] [.loc 320] 576 ⟨by omega,h⟩ (by cbv)
  clear h
  rintro⟨m3,b24⟩ ⟨hm3,h⟩
  try cbv
  replace hm3:m3<=m2:=hm3
  obtain _ | m3:=m3
  ·replace h:L14_3 0 l1 z2 z4 l13 z14 z15 s16 s17 s18 l19 l20 z21 z23 b24=some r1:=h
   rw[L14_3]at h
   cases h
  replace h:L14_3 (m3+1) l1 z2 z4 l13 z14 z15 s16 s17 s18 l19 l20 z21 z23 b24=some r1:=h
  rw[L14_3]at h
  try cbv
  cases b24
  ·replace h:=itF h
   try cbv
   exact join_next (m3,z23) [2,3,5,9,10,11] [.loc 320] 768 ⟨by omega,h⟩ (by cbv)
  replace h:=itT h
  try cbv
  replace h:=bO1_inv h
  obtain⟨z25,hr,h⟩:=h
  refine call_go rfl rfl ?_
  try cbv
  refine call_pure hM hI (T44 _ hr) rfl ?_
  clear hr
  try cbv
  replace h:=letF_inv h
  obtain⟨z26,hz,h⟩:=h
  refine⟨z26,hz,?_⟩
  clear hz
  try cbv
  exact join_next (m3,z26) [2,3,5,9,10,11] [.loc 320] 768 ⟨by omega,h⟩ (by cbv)
 clear h
 rintro⟨m4,z27⟩ ⟨hm4,h⟩
 replace hm4:m4<=m2:=hm4
 obtain _ | m4:=m4
 ·replace h:L14_4 0 l1 z2 z4 l13 z27=some r1:=h
  rw[L14_4]at h
  cases h
 replace h:L14_4 (m4+1) l1 z2 z4 l13 z27=some r1:=h
 rw[L14_4]at h
 try cbv
 refine seq_go ?_
 try cbv
 replace h:=lenF_inv M h
 obtain⟨z28,hz,h⟩:=h
 refine⟨z28,hz,?_⟩
 clear hz
 try cbv
 refine loop_inv (T:=Nat×Int×Int) [2,3,9,10,11,26,27,28] [] 896 (fun t=>⟨[sI 2 0,sI 3 t.2.1,sT 9 16 l1,sI 10 z2,sI 11 z4,sT 26 15 l13,sI 27 z28,sI 28 t.2.2],[],896⟩)
   (fun t=>t.1<=m4/\L14_5 t.1 l1 z2 z4 l13 z28 t.2.1 t.2.2=some r1) (fun t=>t.1) (m4,(z27,(0:Int))) ⟨Nat.le_refl _,h⟩ (by cbv) ?_
 clear h
 rintro⟨m5,z29,z30⟩ ⟨hm5,h⟩
 replace hm5:m5<=m4:=hm5
 obtain _ | m5:=m5
 ·replace h:L14_5 0 l1 z2 z4 l13 z28 z29 z30=some r1:=h
  rw[L14_5]at h
  cases h
 replace h:L14_5 (m5+1) l1 z2 z4 l13 z28 z29 z30=some r1:=h
 rw[L14_5]at h
 try cbv
 refine seq_joinB 29 [2,3,9,10,11,26,27,28,29] [] 928 (fun m b=>m<=m5/\L14_6 m l1 z2 z4 l13 z28 z29 z30 b=some r1) ?_ ?_
 ·try cbv
  refine splitL (fun e=>?_) (fun e=>?_)
  ·replace h:=ite_t e h
   clear e
   try cbv
   exact join_next (m5,true) [2,3,9,10,11,26,27,28,29] [] 928 ⟨by omega,h⟩ (by cbv)
  replace h:=ite_f (Int.not_lt.2 e) h
  clear e
  try cbv
  exact join_next (m5,false) [2,3,9,10,11,26,27,28,29] [] 928 ⟨by omega,h⟩ (by cbv)
 clear h
 rintro⟨m6,b31⟩ ⟨hm6,h⟩
 try cbv
 replace hm6:m6<=m5:=hm6
 obtain _ | m6:=m6
 ·replace h:L14_6 0 l1 z2 z4 l13 z28 z29 z30 b31=some r1:=h
  rw[L14_6]at h
  cases h
 replace h:L14_6 (m6+1) l1 z2 z4 l13 z28 z29 z30 b31=some r1:=h
 rw[L14_6]at h
 try cbv
 refine seq_go ?_
 try cbv
 cases b31
 ·replace h:=itF h
  try cbv
  replace h:=letF_inv h
  obtain⟨z51,hz,h⟩:=h
  refine⟨z51,hz,?_⟩
  clear hz
  try cbv
  exact loop_next (m6,(z29,z51)) [2,3,9,10,11] [] 224 ⟨by omega,h⟩ (Nat.lt_succ_of_le (by omega)) (by cbv)
 replace h:=itT h
 try cbv
 refine seq_go ?_
 try cbv
 refine seq_go ?_
 try cbv
 replace h:=getF_inv h
 obtain⟨x32,⟨hx0,hx⟩,h⟩:=h
 refine⟨x32,hx0,hx,?_⟩
 clear hx0 hx
 replace h:=ds_t50_inv h
 obtain⟨z33,s34,s35,l36,z37,s38,l39,z40,s41,l42,l43,l44,l45,l46,z47,rfl,h⟩:=h
 try cbv
 replace h:=bO1_inv h
 obtain⟨z48,hr,h⟩:=h
 refine call_go rfl rfl ?_
 try cbv
 refine call_pure hM hI (T45 _ hr) rfl ?_
 clear hr
 try cbv
 replace h:=letF_inv h
 obtain⟨z49,hz,h⟩:=h
 refine⟨z49,hz,?_⟩
 clear hz
 try cbv
 replace h:=letF_inv h
 obtain⟨z50,hz,h⟩:=h
 refine⟨z50,hz,?_⟩
 clear hz
 try cbv
 exact loop_next (m6,(z49,z50)) [2,3,9,10,11,26,27,28] [] 896 ⟨by omega,h⟩ (Nat.lt_succ_of_le (by omega)) (by cbv)
def F20 (n:Nat) (z1:Int) (z2:Int) (s3:BA) (s4:BA) (s5:BA) (l6:LD) (l7:LD) (z8:Int):Option (Bool):=
 bO1 (F53 n z1 z2 s3 s4 s5 l6 l7 z8) fun b9=>letB (!b9) fun b10=>(if b10=true then bO1 (F54 n z1 z2 s3 s4 s5 l6 l7 z8 (40:Int)) fun b11=>some b11 else some false)
theorem T20 (n:Nat):∀⦃z1 z2 s3 s4 s5 l6 l7 z8 r1⦄,F20 n z1 z2 s3 s4 s5 l6 l7 z8=some r1->
    Trip Tryz.prog inv 20 [.d (.agg [.int .u8 z1,.int .i64 z2,.str s3,.str s4,.str s5,.list false 1 l6,.list true 8 l7,.int .i64 z8])] [] (.v (.d (.bool r1))) [] []:=by
 intro z1 z2 s3 s4 s5 l6 l7 z8 r1 h
 unfold F20 at h
 refine Trip.of tab_ok tab_one fol Tryz.func20 rfl (by kernel_rfl) rfl rfl rfl (fun M hM hI=>?_)
 try cbv
 refine seq_go ?_
 try cbv
 refine seq_go ?_
 try cbv
 replace h:=bO1_inv h
 obtain⟨b9,hr,h⟩:=h
 refine call_go rfl rfl ?_
 try cbv
 refine call_pure hM hI (T53 _ hr) rfl ?_
 clear hr
 try cbv
 replace h:=letB_inv h
 obtain⟨b10,hz,h⟩:=h
 refine⟨b10,not_eq' hz,?_⟩
 clear hz
 try cbv
 cases b10
 ·replace h:=itF h
  try cbv
  obtain rfl:=Option.some.inj h
  refine fin_go ?_
  try cbv
  exact⟨[],by trivial⟩
 replace h:=itT h
 try cbv
 replace h:=bO1_inv h
 obtain⟨b11,hr,h⟩:=h
 refine call_go rfl rfl ?_
 try cbv
 refine call_pure hM hI (T54 _ hr) rfl ?_
 clear hr
 try cbv
 obtain rfl:=Option.some.inj h
 refine fin_go ?_
 try cbv
 exact⟨[],by trivial⟩
def F21 (n:Nat) (z1:Int) (s2:BA) (l3:LD):Option (Bool):=
 bO1 (F55 n z1 s2 l3 (40:Int)) fun b4=>some b4
theorem T21 (n:Nat):∀⦃z1 s2 l3 r1⦄,F21 n z1 s2 l3=some r1->
    Trip Tryz.prog inv 21 [.d (.agg [.int .u8 z1,.str s2,.list true 3 l3])] [] (.v (.d (.bool r1))) [] []:=by
 intro z1 s2 l3 r1 h
 unfold F21 at h
 refine Trip.of tab_ok tab_one fol Tryz.func21 rfl (by kernel_rfl) rfl rfl rfl (fun M hM hI=>?_)
 try cbv
 refine seq_go ?_
 try cbv
 refine seq_go ?_
 try cbv
 replace h:=bO1_inv h
 obtain⟨b4,hr,h⟩:=h
 refine call_go rfl rfl ?_
 try cbv
 refine call_pure hM hI (T55 _ hr) rfl ?_
 clear hr
 try cbv
 obtain rfl:=Option.some.inj h
 refine fin_go ?_
 try cbv
 exact⟨[],by trivial⟩
def F22 (n:Nat):Option LD:=
 letL [.agg [.int .u8 3,.str k_main,.list true 4 [],.int .u8 1,.str ByteArray.empty,.list true 3 [],.list true 15 [],.int .u8 1,.int .i64 0,.str ByteArray.empty,.str ByteArray.empty,.str ByteArray.empty,.list false 1 [],.list true 8 [],.int .i64 0,.int .i64 0]] fun l1=>some l1
theorem T22 (n:Nat):∀⦃r1⦄,F22 n=some r1->
    Trip Tryz.prog inv 22 [] [] (.v (.agg [.ow (.loc 0)])) [] [.tree .row true 16 r1 none]:=by
 intro r1 h
 unfold F22 at h
 refine Trip.of tab_ok tab_one fol Tryz.func22 rfl (by kernel_rfl) rfl rfl rfl (fun M hM hI=>?_)
 try cbv
 refine seq_go ?_
 try cbv
 refine seq_go ?_
 try cbv
 refine⟨true,?_⟩
 try cbv
 refine⟨[],?_⟩
 try cbv
 replace h:=letL_inv h
 obtain⟨l1,hz,h⟩:=h
 refine⟨l1,hz,?_⟩
 clear hz
 try cbv
 obtain rfl:=Option.some.inj h
 refine fin_go ?_
 try cbv
 exact⟨[.loc 128],rfl,rfl,trivial,⟨rfl,trivial⟩,trivial⟩
mutual
def L103_1:Nat->LD->Int->LD->Int->Option LD
 | 0,_,_,_,_=>none
 | n+1,l1,z2,l3,z4=>
  (if z4<z2 then L103_2 n l1 z2 l3 z4 true else L103_2 n l1 z2 l3 z4 false)
def L103_2:Nat->LD->Int->LD->Int->Bool->Option LD
 | 0,_,_,_,_,_=>none
 | n+1,l1,z2,l3,z4,b5=>
  (if b5=true then getF l1 z4 fun x6=>ds_t33 x6 fun z7 s8 l9=>bO3 (F102 n z7 s8 l9) fun z10 s11 l12=>appF 48 l3 ([.agg [.int .u8 z10,.str s11,.list true 3 l12]]) fun l13=>letF (IntKind.wrap .i64 (z4+1)) fun z14=>L103_1 n l1 z2 l13 z14 else some l3)
def F103:Nat->LD->Option LD
 | 0,_=>none
 | n+1,l1=>
  lenF l1 fun z2=>L103_1 n l1 z2 ([]:LD) (0:Int)
def F102:Nat->Int->BA->LD->Option (Int×BA×LD)
 | 0,_,_,_=>none
 | n+1,z1,s2,l3=>
  bO1 (F103 n l3) fun l4=>some (z1,s2,l4)
end
theorem G103 (n:Nat):(∀⦃l1 r1⦄,F103 n l1=some r1->
    Trip Tryz.prog inv 103 [.d (.list true 3 l1),.c (.fn 102 [.ext 0])] [.cells [.fn 102 [.ext 0]]] (.v (.d (.list true 3 r1))) [.cells [.fn 102 [.ext 0]]] [])/\
    (∀⦃z1 s2 l3 r1 r2 r3⦄,F102 n z1 s2 l3=some (r1,r2,r3)->
    Trip Tryz.prog inv 102 [.d (.agg [.int .u8 z1,.str s2,.list true 3 l3]),.c (.ptr (.ext 0) 0)] [.cells [.fn 102 [.ext 0]]] (.v (.d (.agg [.int .u8 r1,.str r2,.list true 3 r3]))) [.cells [.fn 102 [.ext 0]]] []):=by
 induction n using Nat.strongRecOn with | _ n ih=>
 obtain _ | n:=n
 ·refine⟨?_,?_⟩
  ·intro l1 r1 h
   cases (show (none:Option _)=some _ from h)
  intro z1 s2 l3 r1 r2 r3 h
  cases (show (none:Option _)=some _ from h)
 refine⟨?_,?_⟩
 rotate_left
 ·intro z1 s2 l3 r1 r2 r3 h
  rw[F102]at h
  refine Trip.of tab_ok tab_one fol Tryz.func102 rfl (by kernel_rfl) rfl rfl rfl (fun M hM hI=>?_)
  try cbv
  refine seq_go ?_
  try cbv
  refine seq_go ?_
  try cbv
  replace h:=bO1_inv h
  obtain⟨l4,hr,h⟩:=h
  refine call_go rfl rfl ?_
  try cbv
  refine call_with hM hI [.ext 0] ((ih _ (by omega)).1 hr) rfl (by simp) ⟨rfl,trivial⟩ ⟨trivial,trivial⟩ (by simp) ?_
  clear hr
  try cbv
  refine seq_go ?_
  try cbv
  obtain⟨rfl,rfl,rfl⟩:=inj3 h
  refine fin_go ?_
  try cbv
  exact⟨[],rfl,rfl,⟨rfl,trivial⟩,trivial,trivial⟩
 intro l1 r1 h
 rw[F103]at h
 refine Trip.of tab_ok tab_one fol Tryz.func103 rfl (by kernel_rfl) rfl rfl rfl (fun M hM hI=>?_)
 try cbv
 refine seq_go ?_
 try cbv
 refine seq_go ?_
 try cbv
 refine seq_go ?_
 try cbv
 refine seq_go ?_
 try cbv
 replace h:=lenF_inv M h
 obtain⟨z2,hz,h⟩:=h
 refine⟨z2,hz,?_⟩
 clear hz
 try cbv
 refine loop_invT (T:=Nat×LD×Int) [.slot 5 true 3 33] [1,4,5,8,9,10] [.ext 0,.loc 160] 192 (fun t=>⟨[(1,.v (.c (.fn 102 [.ext 0]))),(4,.v (.c (.nils true 3))),(5,.v (.c (.lst (.loc 160) true 3 t.2.1))),sT 8 3 l1,sI 9 z2,sI 10 t.2.2],[(.ext 0,.cells [.fn 102 [.ext 0]]),(.loc 160,.tok t.2.1.length 3 33)],192⟩)
   (fun t=>t.1<=n/\L103_1 t.1 l1 z2 t.2.1 t.2.2=some r1) (fun t=>t.1) (n,(([]:LD),(0:Int))) ⟨Nat.le_refl _,h⟩ (by cbv) ?_
 clear h
 rintro⟨m1,l3,z4⟩ ⟨hm1,h⟩
 replace hm1:m1<=n:=hm1
 obtain _ | m1:=m1
 ·replace h:L103_1 0 l1 z2 l3 z4=some r1:=h
  rw[L103_1]at h
  cases h
 replace h:L103_1 (m1+1) l1 z2 l3 z4=some r1:=h
 rw[L103_1]at h
 try cbv
 refine seq_joinB 11 [1,4,5,8,9,10,11] [.ext 0,.loc 160] 224 (fun m b=>m<=m1/\L103_2 m l1 z2 l3 z4 b=some r1) ?_ ?_
 ·try cbv
  refine splitL (fun e=>?_) (fun e=>?_)
  ·replace h:=ite_t e h
   clear e
   try cbv
   exact join_next (m1,true) [1,4,5,8,9,10,11] [.ext 0,.loc 160] 224 ⟨by omega,h⟩ (by cbv)
  replace h:=ite_f (Int.not_lt.2 e) h
  clear e
  try cbv
  exact join_next (m1,false) [1,4,5,8,9,10,11] [.ext 0,.loc 160] 224 ⟨by omega,h⟩ (by cbv)
 clear h
 rintro⟨m2,b5⟩ ⟨hm2,h⟩
 try cbv
 replace hm2:m2<=m1:=hm2
 obtain _ | m2:=m2
 ·replace h:L103_2 0 l1 z2 l3 z4 b5=some r1:=h
  rw[L103_2]at h
  cases h
 replace h:L103_2 (m2+1) l1 z2 l3 z4 b5=some r1:=h
 rw[L103_2]at h
 try cbv
 refine seq_go ?_
 try cbv
 cases b5
 ·replace h:=itF h
  try cbv
  refine seq_go ?_
  try cbv
  obtain rfl:=Option.some.inj h
  refine fin_go ?_
  try cbv
  exact⟨[],rfl,rfl,⟨rfl,trivial⟩,trivial,trivial⟩
 replace h:=itT h
 try cbv
 refine seq_go ?_
 try cbv
 refine seq_go ?_
 try cbv
 replace h:=getF_inv h
 obtain⟨x6,⟨hx0,hx⟩,h⟩:=h
 refine⟨x6,hx0,hx,?_⟩
 clear hx0 hx
 replace h:=ds_t33_inv h
 obtain⟨z7,s8,l9,rfl,h⟩:=h
 try cbv
 replace h:=bO3_inv h
 obtain⟨z10,s11,l12,hr,h⟩:=h
 refine call_go rfl rfl ?_
 try cbv
 refine call_with hM hI [.ext 0] ((ih _ (by omega)).2 hr) rfl (by simp) ⟨rfl,trivial⟩ ⟨trivial,trivial⟩ (by simp) ?_
 clear hr
 try cbv
 refine⟨false,?_⟩
 try cbv
 refine⟨true,?_⟩
 try cbv
 replace h:=appF_inv h
 obtain⟨l13,hb,hz,h⟩:=h
 refine⟨false,?_⟩
 try cbv
 first | refine⟨rfl,(M.lock_iff _).2 hb,l13,hz,?_⟩ | refine⟨(M.lock_iff _).2 hb,l13,hz,?_⟩
 clear hb hz
 try cbv
 replace h:=letF_inv h
 obtain⟨z14,hz,h⟩:=h
 refine⟨z14,hz,?_⟩
 clear hz
 try cbv
 exact loop_next (m2,(l13,z14)) [1,4,5,8,9,10] [.ext 0,.loc 160] 192 ⟨by omega,h⟩ (Nat.lt_succ_of_le (by omega)) (by cbv)
theorem T102 (n:Nat):∀⦃z1 s2 l3 r1 r2 r3⦄,F102 n z1 s2 l3=some (r1,r2,r3)->
  Trip Tryz.prog inv 102 [.d (.agg [.int .u8 z1,.str s2,.list true 3 l3]),.c (.ptr (.ext 0) 0)] [.cells [.fn 102 [.ext 0]]] (.v (.d (.agg [.int .u8 r1,.str r2,.list true 3 r3]))) [.cells [.fn 102 [.ext 0]]] []:=(G103 n).2
def L105_1:Nat->LD->Bool->Option LD
 | 0,_,_=>none
 | n+1,l1,b2=>
  (if b2=true then some ([]:LD)else appF 16 [] l1 fun l3=>some l3)
def F105 (n:Nat) (l1:LD):Option LD:=
 (nilF l1 (L105_1 n l1 true) (L105_1 n l1 false))
theorem T105 (n:Nat):∀⦃l1 r1⦄,F105 n l1=some r1->
    Trip Tryz.prog inv 105 [.d (.list false 1 l1)] [] (.v (.d (.list false 1 r1))) [] []:=by
 intro l1 r1 h
 unfold F105 at h
 refine Trip.of tab_ok tab_one fol Tryz.func105 rfl (by kernel_rfl) rfl rfl rfl (fun M hM hI=>?_)
 try cbv
 refine seq_go ?_
 try cbv
 refine seq_go ?_
 try cbv
 refine seq_joinB 4 [0,2,4] [] 96 (fun m b=>m<=n/\L105_1 m l1 b=some r1) ?_ ?_
 ·try cbv
  replace h:=nilF_inv h
  obtain⟨h,hA⟩:=h
  refine nil_both ?_ (fun e=>?_)
  ·clear hA
   try cbv
   exact join_next (n,false) [0,2,4] [] 96 ⟨by omega,h⟩ (by cbv)
  replace h:=hA e
  clear hA
  try cbv
  exact join_next (n,true) [0,2,4] [] 96 ⟨by omega,h⟩ (by cbv)
 clear h
 rintro⟨m1,b2⟩ ⟨hm1,h⟩
 try cbv
 replace hm1:m1<=n:=hm1
 obtain _ | m1:=m1
 ·replace h:L105_1 0 l1 b2=some r1:=h
  rw[L105_1]at h
  cases h
 replace h:L105_1 (m1+1) l1 b2=some r1:=h
 rw[L105_1]at h
 try cbv
 cases b2
 ·replace h:=itF h
  try cbv
  refine seq_go ?_
  try cbv
  refine⟨false,?_⟩
  try cbv
  refine⟨true,?_⟩
  try cbv
  replace h:=appF_inv h
  obtain⟨l3,hb,hz,h⟩:=h
  refine⟨false,?_⟩
  try cbv
  refine⟨(M.lock_iff _).2 hb,l3,hz,false,?_⟩
  clear hb hz
  try cbv
  obtain rfl:=Option.some.inj h
  refine fin_go ?_
  try cbv
  exact⟨[],by trivial⟩
 replace h:=itT h
 try cbv
 refine seq_go ?_
 try cbv
 obtain rfl:=Option.some.inj h
 refine fin_go ?_
 try cbv
 exact⟨[],by trivial⟩
def F104 (n:Nat) (s1:BA) (l2:LD):Option (BA×LD):=
 bO1 (F105 n l2) fun l3=>some (s1,l3)
theorem T104 (n:Nat):∀⦃s1 l2 r1 r2⦄,F104 n s1 l2=some (r1,r2)->
    Trip Tryz.prog inv 104 [.d (.agg [.str s1,.list false 1 l2])] [] (.v (.d (.agg [.str r1,.list false 1 r2]))) [] []:=by
 intro s1 l2 r1 r2 h
 unfold F104 at h
 refine Trip.of tab_ok tab_one fol Tryz.func104 rfl (by kernel_rfl) rfl rfl rfl (fun M hM hI=>?_)
 try cbv
 refine seq_go ?_
 try cbv
 refine seq_go ?_
 try cbv
 replace h:=bO1_inv h
 obtain⟨l3,hr,h⟩:=h
 refine call_go rfl rfl ?_
 try cbv
 refine call_pure hM hI (T105 _ hr) rfl ?_
 clear hr
 try cbv
 refine seq_go ?_
 try cbv
 obtain⟨rfl,rfl⟩:=inj2 h
 refine fin_go ?_
 try cbv
 exact⟨[],by trivial⟩
def F58 (n:Nat) (z1:Int):Option (Unit):=
 some ()
theorem T58 (n:Nat):∀⦃z1⦄,F58 n z1=some ()->
    Trip Tryz.prog inv 58 [.d (.int .i64 z1)] [] (.v (.d (.int .i64 0))) [] []:=by
 intro z1 h
 unfold F58 at h
 refine Trip.of tab_ok tab_one fol Tryz.func58 rfl (by kernel_rfl) rfl rfl rfl (fun M hM hI=>?_)
 try cbv
 refine seq_go ?_
 try cbv
 refine seq_go ?_
 try cbv
 skip
 refine fin_go ?_
 try cbv
 exact⟨[],by trivial⟩
mutual
def F106:Nat->Int->Int->BA->BA->BA->LD->LD->Int->Option (Int×Int×BA×BA×BA×LD×LD)
 | 0,_,_,_,_,_,_,_,_=>none
 | n+1,z1,z2,s3,s4,s5,l6,l7,z8=>
  bO2 (F104 n s5 l6) fun s9 l10=>bO1 (F107 n l7) fun l11=>bO0 (F58 n z8) (some (z1,z2,s3,s4,s9,l10,l11))
def L107_1:Nat->LD->Int->LD->Int->Option LD
 | 0,_,_,_,_=>none
 | n+1,l1,z2,l3,z4=>
  (if z4<z2 then L107_2 n l1 z2 l3 z4 true else L107_2 n l1 z2 l3 z4 false)
def L107_2:Nat->LD->Int->LD->Int->Bool->Option LD
 | 0,_,_,_,_,_=>none
 | n+1,l1,z2,l3,z4,b5=>
  (if b5=true then getF l1 z4 fun x6=>ds_t39 x6 fun z7 z8 s9 s10 s11 l12 l13 z14=>bO7 (F106 n z7 z8 s9 s10 s11 l12 l13 z14) fun z15 z16 s17 s18 s19 l20 l21=>appF 120 l3 ([.agg [.int .u8 z15,.int .i64 z16,.str s17,.str s18,.str s19,.list false 1 l20,.list true 8 l21,.int .i64 0]]) fun l22=>letF (IntKind.wrap .i64 (z4+1)) fun z23=>L107_1 n l1 z2 l22 z23 else some l3)
def F107:Nat->LD->Option LD
 | 0,_=>none
 | n+1,l1=>
  lenF l1 fun z2=>L107_1 n l1 z2 ([]:LD) (0:Int)
end
theorem G106 (n:Nat):(∀⦃z1 z2 s3 s4 s5 l6 l7 z8 r1 r2 r3 r4 r5 r6 r7⦄,F106 n z1 z2 s3 s4 s5 l6 l7 z8=some (r1,r2,r3,r4,r5,r6,r7)->
    Trip Tryz.prog inv 106 [.d (.agg [.int .u8 z1,.int .i64 z2,.str s3,.str s4,.str s5,.list false 1 l6,.list true 8 l7,.int .i64 z8]),.c (.ptr (.ext 0) 0),.c (.ptr (.ext 1) 0),.c (.ptr (.ext 2) 0)] [.cells [.fn 104 []],.cells [.fn 106 [.ext 0,.ext 1,.ext 2]],.cells [.fn 58 []]] (.v (.d (.agg [.int .u8 r1,.int .i64 r2,.str r3,.str r4,.str r5,.list false 1 r6,.list true 8 r7,.int .i64 0]))) [.cells [.fn 104 []],.cells [.fn 106 [.ext 0,.ext 1,.ext 2]],.cells [.fn 58 []]] [])/\
    (∀⦃l1 r1⦄,F107 n l1=some r1->
    Trip Tryz.prog inv 107 [.d (.list true 8 l1),.c (.fn 106 [.ext 0,.ext 1,.ext 2])] [.cells [.fn 104 []],.cells [.fn 106 [.ext 0,.ext 1,.ext 2]],.cells [.fn 58 []]] (.v (.d (.list true 8 r1))) [.cells [.fn 104 []],.cells [.fn 106 [.ext 0,.ext 1,.ext 2]],.cells [.fn 58 []]] []):=by
 induction n using Nat.strongRecOn with | _ n ih=>
 obtain _ | n:=n
 ·refine⟨?_,?_⟩
  ·intro z1 z2 s3 s4 s5 l6 l7 z8 r1 r2 r3 r4 r5 r6 r7 h
   cases (show (none:Option _)=some _ from h)
  intro l1 r1 h
  cases (show (none:Option _)=some _ from h)
 refine⟨?_,?_⟩
 ·intro z1 z2 s3 s4 s5 l6 l7 z8 r1 r2 r3 r4 r5 r6 r7 h
  rw[F106]at h
  refine Trip.of tab_ok tab_one fol Tryz.func106 rfl (by kernel_rfl) rfl rfl rfl (fun M hM hI=>?_)
  try cbv
  refine seq_go ?_
  try cbv
  refine seq_go ?_
  try cbv
  replace h:=bO2_inv h
  obtain⟨s9,l10,hr,h⟩:=h
  first | refine .inr (.inl ⟨[],?_⟩) | refine .inl ⟨[],?_⟩
  try cbv
  refine call_pure hM hI (T104 _ hr) rfl ?_
  clear hr
  try cbv
  replace h:=bO1_inv h
  obtain⟨l11,hr,h⟩:=h
  first | refine .inr (.inr ⟨[.ext 0,.ext 1,.ext 2],?_⟩) | refine .inr ⟨[.ext 0,.ext 1,.ext 2],?_⟩
  try cbv
  refine call_with hM hI [.ext 0,.ext 1,.ext 2] ((ih _ (by omega)).2 hr) rfl (by simp) ⟨rfl,⟨rfl,⟨rfl,trivial⟩⟩⟩ ⟨trivial,⟨trivial,⟨trivial,trivial⟩⟩⟩ (by simp) ?_
  try cbv
  first | refine⟨(rfl:(_:Option AObj)=_),?_⟩ | skip
  first | refine⟨(rfl:(_:Option AObj)=_),?_⟩ | skip
  first | refine⟨(rfl:(_:Option AObj)=_),?_⟩ | skip
  try cbv
  clear hr
  try cbv
  replace h:=bO0_inv h
  obtain⟨hr,h⟩:=h
  first | refine .inr (.inl ⟨[],?_⟩) | refine .inl ⟨[],?_⟩
  try cbv
  refine call_pure hM hI (T58 _ hr) rfl ?_
  clear hr
  try cbv
  refine drawn ?_ ?_
  ·show _=true
   kernel_rfl
  try cbv
  refine seq_go ?_
  try cbv
  obtain⟨rfl,rfl,rfl,rfl,rfl,rfl,rfl⟩:=inj7 h
  refine fin_go ?_
  try cbv
  exact⟨[],rfl,rfl,⟨rfl,⟨rfl,⟨rfl,trivial⟩⟩⟩,trivial,trivial⟩
 intro l1 r1 h
 rw[F107]at h
 refine Trip.of tab_ok tab_one fol Tryz.func107 rfl (by kernel_rfl) rfl rfl rfl (fun M hM hI=>?_)
 try cbv
 refine seq_go ?_
 try cbv
 refine seq_go ?_
 try cbv
 refine seq_go ?_
 try cbv
 refine seq_go ?_
 try cbv
 replace h:=lenF_inv M h
 obtain⟨z2,hz,h⟩:=h
 refine⟨z2,hz,?_⟩
 clear hz
 try cbv
 refine loop_invT (T:=Nat×LD×Int) [.slot 5 true 8 39] [1,4,5,8,9,10] [.ext 0,.ext 1,.ext 2,.loc 160] 192 (fun t=>⟨[(1,.v (.c (.fn 106 [.ext 0,.ext 1,.ext 2]))),(4,.v (.c (.nils true 8))),(5,.v (.c (.lst (.loc 160) true 8 t.2.1))),sT 8 8 l1,sI 9 z2,sI 10 t.2.2],[(.ext 0,.cells [.fn 104 []]),(.ext 1,.cells [.fn 106 [.ext 0,.ext 1,.ext 2]]),(.ext 2,.cells [.fn 58 []]),(.loc 160,.tok t.2.1.length 8 39)],192⟩)
   (fun t=>t.1<=n/\L107_1 t.1 l1 z2 t.2.1 t.2.2=some r1) (fun t=>t.1) (n,(([]:LD),(0:Int))) ⟨Nat.le_refl _,h⟩ (by cbv) ?_
 clear h
 rintro⟨m1,l3,z4⟩ ⟨hm1,h⟩
 replace hm1:m1<=n:=hm1
 obtain _ | m1:=m1
 ·replace h:L107_1 0 l1 z2 l3 z4=some r1:=h
  rw[L107_1]at h
  cases h
 replace h:L107_1 (m1+1) l1 z2 l3 z4=some r1:=h
 rw[L107_1]at h
 try cbv
 refine seq_joinB 11 [1,4,5,8,9,10,11] [.ext 0,.ext 1,.ext 2,.loc 160] 224 (fun m b=>m<=m1/\L107_2 m l1 z2 l3 z4 b=some r1) ?_ ?_
 ·try cbv
  refine splitL (fun e=>?_) (fun e=>?_)
  ·replace h:=ite_t e h
   clear e
   try cbv
   exact join_next (m1,true) [1,4,5,8,9,10,11] [.ext 0,.ext 1,.ext 2,.loc 160] 224 ⟨by omega,h⟩ (by cbv)
  replace h:=ite_f (Int.not_lt.2 e) h
  clear e
  try cbv
  exact join_next (m1,false) [1,4,5,8,9,10,11] [.ext 0,.ext 1,.ext 2,.loc 160] 224 ⟨by omega,h⟩ (by cbv)
 clear h
 rintro⟨m2,b5⟩ ⟨hm2,h⟩
 try cbv
 replace hm2:m2<=m1:=hm2
 obtain _ | m2:=m2
 ·replace h:L107_2 0 l1 z2 l3 z4 b5=some r1:=h
  rw[L107_2]at h
  cases h
 replace h:L107_2 (m2+1) l1 z2 l3 z4 b5=some r1:=h
 rw[L107_2]at h
 try cbv
 refine seq_go ?_
 try cbv
 cases b5
 ·replace h:=itF h
  try cbv
  refine seq_go ?_
  try cbv
  obtain rfl:=Option.some.inj h
  refine fin_go ?_
  try cbv
  exact⟨[],rfl,rfl,⟨rfl,⟨rfl,⟨rfl,trivial⟩⟩⟩,trivial,trivial⟩
 replace h:=itT h
 try cbv
 refine seq_go ?_
 try cbv
 refine seq_go ?_
 try cbv
 replace h:=getF_inv h
 obtain⟨x6,⟨hx0,hx⟩,h⟩:=h
 refine⟨x6,hx0,hx,?_⟩
 clear hx0 hx
 replace h:=ds_t39_inv h
 obtain⟨z7,z8,s9,s10,s11,l12,l13,z14,rfl,h⟩:=h
 try cbv
 replace h:=bO7_inv h
 obtain⟨z15,z16,s17,s18,s19,l20,l21,hr,h⟩:=h
 refine call_go rfl rfl ?_
 try cbv
 refine call_with hM hI [.ext 0,.ext 1,.ext 2] ((ih _ (by omega)).1 hr) rfl (by simp) ⟨rfl,⟨rfl,⟨rfl,trivial⟩⟩⟩ ⟨trivial,⟨trivial,⟨trivial,trivial⟩⟩⟩ (by simp) ?_
 clear hr
 try cbv
 refine⟨false,?_⟩
 try cbv
 refine⟨true,?_⟩
 try cbv
 replace h:=appF_inv h
 obtain⟨l22,hb,hz,h⟩:=h
 refine⟨false,?_⟩
 try cbv
 first | refine⟨rfl,(M.lock_iff _).2 hb,l22,hz,?_⟩ | refine⟨(M.lock_iff _).2 hb,l22,hz,?_⟩
 clear hb hz
 try cbv
 replace h:=letF_inv h
 obtain⟨z23,hz,h⟩:=h
 refine⟨z23,hz,?_⟩
 clear hz
 try cbv
 exact loop_next (m2,(l22,z23)) [1,4,5,8,9,10] [.ext 0,.ext 1,.ext 2,.loc 160] 192 ⟨by omega,h⟩ (Nat.lt_succ_of_le (by omega)) (by cbv)
theorem T106 (n:Nat):∀⦃z1 z2 s3 s4 s5 l6 l7 z8 r1 r2 r3 r4 r5 r6 r7⦄,F106 n z1 z2 s3 s4 s5 l6 l7 z8=some (r1,r2,r3,r4,r5,r6,r7)->
  Trip Tryz.prog inv 106 [.d (.agg [.int .u8 z1,.int .i64 z2,.str s3,.str s4,.str s5,.list false 1 l6,.list true 8 l7,.int .i64 z8]),.c (.ptr (.ext 0) 0),.c (.ptr (.ext 1) 0),.c (.ptr (.ext 2) 0)] [.cells [.fn 104 []],.cells [.fn 106 [.ext 0,.ext 1,.ext 2]],.cells [.fn 58 []]] (.v (.d (.agg [.int .u8 r1,.int .i64 r2,.str r3,.str r4,.str r5,.list false 1 r6,.list true 8 r7,.int .i64 0]))) [.cells [.fn 104 []],.cells [.fn 106 [.ext 0,.ext 1,.ext 2]],.cells [.fn 58 []]] []:=(G106 n).1
theorem T107 (n:Nat):∀⦃l1 r1⦄,F107 n l1=some r1->
  Trip Tryz.prog inv 107 [.d (.list true 8 l1),.c (.fn 106 [.ext 0,.ext 1,.ext 2])] [.cells [.fn 104 []],.cells [.fn 106 [.ext 0,.ext 1,.ext 2]],.cells [.fn 58 []]] (.v (.d (.list true 8 r1))) [.cells [.fn 104 []],.cells [.fn 106 [.ext 0,.ext 1,.ext 2]],.cells [.fn 58 []]] []:=(G106 n).2
mutual
def F108:Nat->BA->BA->LD->Option (BA×BA×LD)
 | 0,_,_,_=>none
 | n+1,s1,s2,l3=>
  bO1 (F109 n l3) fun l4=>some (s1,s2,l4)
def L111_1:Nat->LD->Int->LD->Int->Option LD
 | 0,_,_,_,_=>none
 | n+1,l1,z2,l3,z4=>
  (if z4<z2 then L111_2 n l1 z2 l3 z4 true else L111_2 n l1 z2 l3 z4 false)
def L111_2:Nat->LD->Int->LD->Int->Bool->Option LD
 | 0,_,_,_,_,_=>none
 | n+1,l1,z2,l3,z4,b5=>
  (if b5=true then getF l1 z4 fun x6=>ds_t95 x6 fun s7 s8 l9=>bO3 (F108 n s7 s8 l9) fun s10 s11 l12=>appF 56 l3 ([.agg [.str s10,.str s11,.list true 15 l12]]) fun l13=>letF (IntKind.wrap .i64 (z4+1)) fun z14=>L111_1 n l1 z2 l13 z14 else some l3)
def F111:Nat->LD->Option LD
 | 0,_=>none
 | n+1,l1=>
  lenF l1 fun z2=>L111_1 n l1 z2 ([]:LD) (0:Int)
def F110:Nat->Int->BA->BA->LD->Int->BA->LD->Int->BA->LD->LD->LD->LD->LD->Int->Option (Int×BA×BA×LD×Int×BA×LD×Int×BA×LD×LD×LD×LD×LD)
 | 0,_,_,_,_,_,_,_,_,_,_,_,_,_,_,_=>none
 | n+1,z1,s2,s3,l4,z5,s6,l7,z8,s9,l10,l11,l12,l13,l14,z15=>
  bO1 (F105 n l4) fun l16=>bO3 (F102 n z5 s6 l7) fun z17 s18 l19=>bO2 (F104 n s9 l10) fun s20 l21=>bO1 (F107 n l11) fun l22=>bO1 (F109 n l12) fun l23=>bO1 (F109 n l13) fun l24=>bO1 (F111 n l14) fun l25=>bO0 (F58 n z15) (some (z1,s2,s3,l16,z17,s18,l19,z8,s20,l21,l22,l23,l24,l25))
def L109_1:Nat->LD->Int->LD->Int->Option LD
 | 0,_,_,_,_=>none
 | n+1,l1,z2,l3,z4=>
  (if z4<z2 then L109_2 n l1 z2 l3 z4 true else L109_2 n l1 z2 l3 z4 false)
def L109_2:Nat->LD->Int->LD->Int->Bool->Option LD
 | 0,_,_,_,_,_=>none
 | n+1,l1,z2,l3,z4,b5=>
  (if b5=true then getF l1 z4 fun x6=>ds_t50 x6 fun z7 s8 s9 l10 z11 s12 l13 z14 s15 l16 l17 l18 l19 l20 z21=>bO14 (F110 n z7 s8 s9 l10 z11 s12 l13 z14 s15 l16 l17 l18 l19 l20 z21) fun z22 s23 s24 l25 z26 s27 l28 z29 s30 l31 l32 l33 l34 l35=>appF 264 l3 ([.agg [.int .u8 z22,.str s23,.str s24,.list false 1 l25,.int .u8 z26,.str s27,.list true 3 l28,.int .i64 z29,.str s30,.list false 1 l31,.list true 8 l32,.list true 15 l33,.list true 15 l34,.list true 3 l35,.int .i64 0]]) fun l36=>letF (IntKind.wrap .i64 (z4+1)) fun z37=>L109_1 n l1 z2 l36 z37 else some l3)
def F109:Nat->LD->Option LD
 | 0,_=>none
 | n+1,l1=>
  lenF l1 fun z2=>L109_1 n l1 z2 ([]:LD) (0:Int)
end
theorem G108 (n:Nat):(∀⦃s1 s2 l3 r1 r2 r3⦄,F108 n s1 s2 l3=some (r1,r2,r3)->
    Trip Tryz.prog inv 108 [.d (.agg [.str s1,.str s2,.list true 15 l3]),.c (.ptr (.ext 0) 0)] [.cells [.fn 110 [.ext 1,.ext 2,.ext 3,.ext 0,.ext 5,.ext 4]],.cells [.fn 102 [.ext 1]],.cells [.fn 104 []],.cells [.fn 106 [.ext 2,.ext 3,.ext 4]],.cells [.fn 58 []],.cells [.fn 108 [.ext 0]]] (.v (.d (.agg [.str r1,.str r2,.list true 15 r3]))) [.cells [.fn 110 [.ext 1,.ext 2,.ext 3,.ext 0,.ext 5,.ext 4]],.cells [.fn 102 [.ext 1]],.cells [.fn 104 []],.cells [.fn 106 [.ext 2,.ext 3,.ext 4]],.cells [.fn 58 []],.cells [.fn 108 [.ext 0]]] [])/\
    (∀⦃l1 r1⦄,F111 n l1=some r1->
    Trip Tryz.prog inv 111 [.d (.list true 3 l1),.c (.fn 108 [.ext 0])] [.cells [.fn 110 [.ext 1,.ext 2,.ext 3,.ext 0,.ext 5,.ext 4]],.cells [.fn 102 [.ext 1]],.cells [.fn 104 []],.cells [.fn 106 [.ext 2,.ext 3,.ext 4]],.cells [.fn 58 []],.cells [.fn 108 [.ext 0]]] (.v (.d (.list true 3 r1))) [.cells [.fn 110 [.ext 1,.ext 2,.ext 3,.ext 0,.ext 5,.ext 4]],.cells [.fn 102 [.ext 1]],.cells [.fn 104 []],.cells [.fn 106 [.ext 2,.ext 3,.ext 4]],.cells [.fn 58 []],.cells [.fn 108 [.ext 0]]] [])/\
    (∀⦃z1 s2 s3 l4 z5 s6 l7 z8 s9 l10 l11 l12 l13 l14 z15 r1 r2 r3 r4 r5 r6 r7 r8 r9 r10 r11 r12 r13 r14⦄,F110 n z1 s2 s3 l4 z5 s6 l7 z8 s9 l10 l11 l12 l13 l14 z15=some (r1,r2,r3,r4,r5,r6,r7,r8,r9,r10,r11,r12,r13,r14)->
    Trip Tryz.prog inv 110 [.d (.agg [.int .u8 z1,.str s2,.str s3,.list false 1 l4,.int .u8 z5,.str s6,.list true 3 l7,.int .i64 z8,.str s9,.list false 1 l10,.list true 8 l11,.list true 15 l12,.list true 15 l13,.list true 3 l14,.int .i64 z15]),.c (.ptr (.ext 0) 0),.c (.ptr (.ext 1) 0),.c (.ptr (.ext 2) 0),.c (.ptr (.ext 4) 0),.c (.ptr (.ext 5) 0),.c (.ptr (.ext 3) 0)] [.cells [.fn 102 [.ext 0]],.cells [.fn 104 []],.cells [.fn 106 [.ext 1,.ext 2,.ext 3]],.cells [.fn 58 []],.cells [.fn 110 [.ext 0,.ext 1,.ext 2,.ext 4,.ext 5,.ext 3]],.cells [.fn 108 [.ext 4]]] (.v (.d (.agg [.int .u8 r1,.str r2,.str r3,.list false 1 r4,.int .u8 r5,.str r6,.list true 3 r7,.int .i64 r8,.str r9,.list false 1 r10,.list true 8 r11,.list true 15 r12,.list true 15 r13,.list true 3 r14,.int .i64 0]))) [.cells [.fn 102 [.ext 0]],.cells [.fn 104 []],.cells [.fn 106 [.ext 1,.ext 2,.ext 3]],.cells [.fn 58 []],.cells [.fn 110 [.ext 0,.ext 1,.ext 2,.ext 4,.ext 5,.ext 3]],.cells [.fn 108 [.ext 4]]] [])/\
    (∀⦃l1 r1⦄,F109 n l1=some r1->
    Trip Tryz.prog inv 109 [.d (.list true 15 l1),.c (.fn 110 [.ext 0,.ext 1,.ext 2,.ext 4,.ext 5,.ext 3])] [.cells [.fn 102 [.ext 0]],.cells [.fn 104 []],.cells [.fn 106 [.ext 1,.ext 2,.ext 3]],.cells [.fn 58 []],.cells [.fn 110 [.ext 0,.ext 1,.ext 2,.ext 4,.ext 5,.ext 3]],.cells [.fn 108 [.ext 4]]] (.v (.d (.list true 15 r1))) [.cells [.fn 102 [.ext 0]],.cells [.fn 104 []],.cells [.fn 106 [.ext 1,.ext 2,.ext 3]],.cells [.fn 58 []],.cells [.fn 110 [.ext 0,.ext 1,.ext 2,.ext 4,.ext 5,.ext 3]],.cells [.fn 108 [.ext 4]]] []):=by
 induction n using Nat.strongRecOn with | _ n ih=>
 obtain _ | n:=n
 ·refine⟨?_,?_,?_,?_⟩
  ·intro s1 s2 l3 r1 r2 r3 h
   cases (show (none:Option _)=some _ from h)
  ·intro l1 r1 h
   cases (show (none:Option _)=some _ from h)
  ·intro z1 s2 s3 l4 z5 s6 l7 z8 s9 l10 l11 l12 l13 l14 z15 r1 r2 r3 r4 r5 r6 r7 r8 r9 r10 r11 r12 r13 r14 h
   cases (show (none:Option _)=some _ from h)
  intro l1 r1 h
  cases (show (none:Option _)=some _ from h)
 refine⟨?_,?_,?_,?_⟩
 ·intro s1 s2 l3 r1 r2 r3 h
  rw[F108]at h
  refine Trip.of tab_ok tab_one fol Tryz.func108 rfl (by kernel_rfl) rfl rfl rfl (fun M hM hI=>?_)
  try cbv
  refine seq_go ?_
  try cbv
  refine seq_go ?_
  try cbv
  replace h:=bO1_inv h
  obtain⟨l4,hr,h⟩:=h
  refine call_go rfl rfl ?_
  try cbv
  refine call_with hM hI [.ext 1,.ext 2,.ext 3,.ext 4,.ext 0,.ext 5] ((ih _ (by omega)).2.2.2 hr) rfl (by simp) ⟨rfl,⟨rfl,⟨rfl,⟨rfl,⟨rfl,⟨rfl,trivial⟩⟩⟩⟩⟩⟩ ⟨trivial,⟨trivial,⟨trivial,⟨trivial,⟨trivial,⟨trivial,trivial⟩⟩⟩⟩⟩⟩ (by simp) ?_
  clear hr
  try cbv
  refine seq_go ?_
  try cbv
  obtain⟨rfl,rfl,rfl⟩:=inj3 h
  refine fin_go ?_
  try cbv
  exact⟨[],rfl,rfl,⟨rfl,⟨rfl,⟨rfl,⟨rfl,⟨rfl,⟨rfl,trivial⟩⟩⟩⟩⟩⟩,trivial,trivial⟩
 ·intro l1 r1 h
  rw[F111]at h
  refine Trip.of tab_ok tab_one fol Tryz.func111 rfl (by kernel_rfl) rfl rfl rfl (fun M hM hI=>?_)
  try cbv
  refine seq_go ?_
  try cbv
  refine seq_go ?_
  try cbv
  refine seq_go ?_
  try cbv
  refine seq_go ?_
  try cbv
  replace h:=lenF_inv M h
  obtain⟨z2,hz,h⟩:=h
  refine⟨z2,hz,?_⟩
  clear hz
  try cbv
  refine loop_invT (T:=Nat×LD×Int) [.slot 5 true 3 95] [1,4,5,8,9,10] [.ext 0,.ext 1,.ext 2,.ext 3,.ext 4,.ext 5,.loc 160] 192 (fun t=>⟨[(1,.v (.c (.fn 108 [.ext 0]))),(4,.v (.c (.nils true 3))),(5,.v (.c (.lst (.loc 160) true 3 t.2.1))),sT 8 3 l1,sI 9 z2,sI 10 t.2.2],[(.ext 0,.cells [.fn 110 [.ext 1,.ext 2,.ext 3,.ext 0,.ext 5,.ext 4]]),(.ext 1,.cells [.fn 102 [.ext 1]]),(.ext 2,.cells [.fn 104 []]),(.ext 3,.cells [.fn 106 [.ext 2,.ext 3,.ext 4]]),(.ext 4,.cells [.fn 58 []]),(.ext 5,.cells [.fn 108 [.ext 0]]),(.loc 160,.tok t.2.1.length 3 95)],192⟩)
    (fun t=>t.1<=n/\L111_1 t.1 l1 z2 t.2.1 t.2.2=some r1) (fun t=>t.1) (n,(([]:LD),(0:Int))) ⟨Nat.le_refl _,h⟩ (by cbv) ?_
  clear h
  rintro⟨m1,l3,z4⟩ ⟨hm1,h⟩
  replace hm1:m1<=n:=hm1
  obtain _ | m1:=m1
  ·replace h:L111_1 0 l1 z2 l3 z4=some r1:=h
   rw[L111_1]at h
   cases h
  replace h:L111_1 (m1+1) l1 z2 l3 z4=some r1:=h
  rw[L111_1]at h
  try cbv
  refine seq_joinB 11 [1,4,5,8,9,10,11] [.ext 0,.ext 1,.ext 2,.ext 3,.ext 4,.ext 5,.loc 160] 224 (fun m b=>m<=m1/\L111_2 m l1 z2 l3 z4 b=some r1) ?_ ?_
  ·try cbv
   refine splitL (fun e=>?_) (fun e=>?_)
   ·replace h:=ite_t e h
    clear e
    try cbv
    exact join_next (m1,true) [1,4,5,8,9,10,11] [.ext 0,.ext 1,.ext 2,.ext 3,.ext 4,.ext 5,.loc 160] 224 ⟨by omega,h⟩ (by cbv)
   replace h:=ite_f (Int.not_lt.2 e) h
   clear e
   try cbv
   exact join_next (m1,false) [1,4,5,8,9,10,11] [.ext 0,.ext 1,.ext 2,.ext 3,.ext 4,.ext 5,.loc 160] 224 ⟨by omega,h⟩ (by cbv)
  clear h
  rintro⟨m2,b5⟩ ⟨hm2,h⟩
  try cbv
  replace hm2:m2<=m1:=hm2
  obtain _ | m2:=m2
  ·replace h:L111_2 0 l1 z2 l3 z4 b5=some r1:=h
   rw[L111_2]at h
   cases h
  replace h:L111_2 (m2+1) l1 z2 l3 z4 b5=some r1:=h
  rw[L111_2]at h
  try cbv
  refine seq_go ?_
  try cbv
  cases b5
  ·replace h:=itF h
   try cbv
   refine seq_go ?_
   try cbv
   obtain rfl:=Option.some.inj h
   refine fin_go ?_
   try cbv
   exact⟨[],rfl,rfl,⟨rfl,⟨rfl,⟨rfl,⟨rfl,⟨rfl,⟨rfl,trivial⟩⟩⟩⟩⟩⟩,trivial,trivial⟩
  replace h:=itT h
  try cbv
  refine seq_go ?_
  try cbv
  refine seq_go ?_
  try cbv
  replace h:=getF_inv h
  obtain⟨x6,⟨hx0,hx⟩,h⟩:=h
  refine⟨x6,hx0,hx,?_⟩
  clear hx0 hx
  replace h:=ds_t95_inv h
  obtain⟨s7,s8,l9,rfl,h⟩:=h
  try cbv
  replace h:=bO3_inv h
  obtain⟨s10,s11,l12,hr,h⟩:=h
  refine call_go rfl rfl ?_
  try cbv
  refine call_with hM hI [.ext 0,.ext 1,.ext 2,.ext 3,.ext 4,.ext 5] ((ih _ (by omega)).1 hr) rfl (by simp) ⟨rfl,⟨rfl,⟨rfl,⟨rfl,⟨rfl,⟨rfl,trivial⟩⟩⟩⟩⟩⟩ ⟨trivial,⟨trivial,⟨trivial,⟨trivial,⟨trivial,⟨trivial,trivial⟩⟩⟩⟩⟩⟩ (by simp) ?_
  clear hr
  try cbv
  refine⟨false,?_⟩
  try cbv
  refine⟨true,?_⟩
  try cbv
  replace h:=appF_inv h
  obtain⟨l13,hb,hz,h⟩:=h
  refine⟨false,?_⟩
  try cbv
  first | refine⟨rfl,(M.lock_iff _).2 hb,l13,hz,?_⟩ | refine⟨(M.lock_iff _).2 hb,l13,hz,?_⟩
  clear hb hz
  try cbv
  replace h:=letF_inv h
  obtain⟨z14,hz,h⟩:=h
  refine⟨z14,hz,?_⟩
  clear hz
  try cbv
  exact loop_next (m2,(l13,z14)) [1,4,5,8,9,10] [.ext 0,.ext 1,.ext 2,.ext 3,.ext 4,.ext 5,.loc 160] 192 ⟨by omega,h⟩ (Nat.lt_succ_of_le (by omega)) (by cbv)
 ·intro z1 s2 s3 l4 z5 s6 l7 z8 s9 l10 l11 l12 l13 l14 z15 r1 r2 r3 r4 r5 r6 r7 r8 r9 r10 r11 r12 r13 r14 h
  rw[F110]at h
  refine Trip.of tab_ok tab_one fol Tryz.func110 rfl (by kernel_rfl) rfl rfl rfl (fun M hM hI=>?_)
  try cbv
  refine seq_go ?_
  try cbv
  refine seq_go ?_
  try cbv
  replace h:=bO1_inv h
  obtain⟨l16,hr,h⟩:=h
  first | refine .inr (.inl ⟨[],?_⟩) | refine .inl ⟨[],?_⟩
  try cbv
  refine call_pure hM hI (T105 _ hr) rfl ?_
  clear hr
  try cbv
  replace h:=bO3_inv h
  obtain⟨z17,s18,l19,hr,h⟩:=h
  first | refine .inr (.inr ⟨[.ext 0],?_⟩) | refine .inr ⟨[.ext 0],?_⟩
  try cbv
  refine call_with hM hI [.ext 0] (T102 _ hr) rfl (by simp) ⟨rfl,trivial⟩ ⟨trivial,trivial⟩ (by simp) ?_
  try cbv
  first | refine⟨(rfl:(_:Option AObj)=_),?_⟩ | skip
  try cbv
  clear hr
  try cbv
  replace h:=bO2_inv h
  obtain⟨s20,l21,hr,h⟩:=h
  first | refine .inr (.inl ⟨[],?_⟩) | refine .inl ⟨[],?_⟩
  try cbv
  refine call_pure hM hI (T104 _ hr) rfl ?_
  clear hr
  try cbv
  replace h:=bO1_inv h
  obtain⟨l22,hr,h⟩:=h
  first | refine .inr (.inr ⟨[.ext 1,.ext 2,.ext 3],?_⟩) | refine .inr ⟨[.ext 1,.ext 2,.ext 3],?_⟩
  try cbv
  refine call_with hM hI [.ext 1,.ext 2,.ext 3] (T107 _ hr) rfl (by simp) ⟨rfl,⟨rfl,⟨rfl,trivial⟩⟩⟩ ⟨trivial,⟨trivial,⟨trivial,trivial⟩⟩⟩ (by simp) ?_
  try cbv
  first | refine⟨(rfl:(_:Option AObj)=_),?_⟩ | skip
  first | refine⟨(rfl:(_:Option AObj)=_),?_⟩ | skip
  first | refine⟨(rfl:(_:Option AObj)=_),?_⟩ | skip
  try cbv
  clear hr
  try cbv
  refine drawn ?_ ?_
  ·show _=true
   kernel_rfl
  try cbv
  refine seq_go ?_
  try cbv
  replace h:=bO1_inv h
  obtain⟨l23,hr,h⟩:=h
  first | refine .inr (.inr ⟨[.ext 0,.ext 1,.ext 2,.ext 3,.ext 4,.ext 5],?_⟩) | refine .inr ⟨[.ext 0,.ext 1,.ext 2,.ext 3,.ext 4,.ext 5],?_⟩
  try cbv
  refine call_with hM hI [.ext 0,.ext 1,.ext 2,.ext 3,.ext 4,.ext 5] ((ih _ (by omega)).2.2.2 hr) rfl (by simp) ⟨rfl,⟨rfl,⟨rfl,⟨rfl,⟨rfl,⟨rfl,trivial⟩⟩⟩⟩⟩⟩ ⟨trivial,⟨trivial,⟨trivial,⟨trivial,⟨trivial,⟨trivial,trivial⟩⟩⟩⟩⟩⟩ (by simp) ?_
  try cbv
  first | refine⟨(rfl:(_:Option AObj)=_),?_⟩ | skip
  first | refine⟨(rfl:(_:Option AObj)=_),?_⟩ | skip
  first | refine⟨(rfl:(_:Option AObj)=_),?_⟩ | skip
  first | refine⟨(rfl:(_:Option AObj)=_),?_⟩ | skip
  first | refine⟨(rfl:(_:Option AObj)=_),?_⟩ | skip
  first | refine⟨(rfl:(_:Option AObj)=_),?_⟩ | skip
  try cbv
  clear hr
  try cbv
  replace h:=bO1_inv h
  obtain⟨l24,hr,h⟩:=h
  first | refine .inr (.inr ⟨[.ext 0,.ext 1,.ext 2,.ext 3,.ext 4,.ext 5],?_⟩) | refine .inr ⟨[.ext 0,.ext 1,.ext 2,.ext 3,.ext 4,.ext 5],?_⟩
  try cbv
  refine call_with hM hI [.ext 0,.ext 1,.ext 2,.ext 3,.ext 4,.ext 5] ((ih _ (by omega)).2.2.2 hr) rfl (by simp) ⟨rfl,⟨rfl,⟨rfl,⟨rfl,⟨rfl,⟨rfl,trivial⟩⟩⟩⟩⟩⟩ ⟨trivial,⟨trivial,⟨trivial,⟨trivial,⟨trivial,⟨trivial,trivial⟩⟩⟩⟩⟩⟩ (by simp) ?_
  try cbv
  first | refine⟨(rfl:(_:Option AObj)=_),?_⟩ | skip
  first | refine⟨(rfl:(_:Option AObj)=_),?_⟩ | skip
  first | refine⟨(rfl:(_:Option AObj)=_),?_⟩ | skip
  first | refine⟨(rfl:(_:Option AObj)=_),?_⟩ | skip
  first | refine⟨(rfl:(_:Option AObj)=_),?_⟩ | skip
  first | refine⟨(rfl:(_:Option AObj)=_),?_⟩ | skip
  try cbv
  clear hr
  try cbv
  replace h:=bO1_inv h
  obtain⟨l25,hr,h⟩:=h
  first | refine .inr (.inr ⟨[.ext 4,.ext 0,.ext 1,.ext 2,.ext 3,.ext 5],?_⟩) | refine .inr ⟨[.ext 4,.ext 0,.ext 1,.ext 2,.ext 3,.ext 5],?_⟩
  try cbv
  refine call_with hM hI [.ext 4,.ext 0,.ext 1,.ext 2,.ext 3,.ext 5] ((ih _ (by omega)).2.1 hr) rfl (by simp) ⟨rfl,⟨rfl,⟨rfl,⟨rfl,⟨rfl,⟨rfl,trivial⟩⟩⟩⟩⟩⟩ ⟨trivial,⟨trivial,⟨trivial,⟨trivial,⟨trivial,⟨trivial,trivial⟩⟩⟩⟩⟩⟩ (by simp) ?_
  try cbv
  first | refine⟨(rfl:(_:Option AObj)=_),?_⟩ | skip
  first | refine⟨(rfl:(_:Option AObj)=_),?_⟩ | skip
  first | refine⟨(rfl:(_:Option AObj)=_),?_⟩ | skip
  first | refine⟨(rfl:(_:Option AObj)=_),?_⟩ | skip
  first | refine⟨(rfl:(_:Option AObj)=_),?_⟩ | skip
  first | refine⟨(rfl:(_:Option AObj)=_),?_⟩ | skip
  try cbv
  clear hr
  try cbv
  replace h:=bO0_inv h
  obtain⟨hr,h⟩:=h
  first | refine .inr (.inl ⟨[],?_⟩) | refine .inl ⟨[],?_⟩
  try cbv
  refine call_pure hM hI (T58 _ hr) rfl ?_
  clear hr
  try cbv
  refine drawn ?_ ?_
  ·show _=true
   kernel_rfl
  try cbv
  refine seq_go ?_
  try cbv
  obtain⟨rfl,rfl,rfl,rfl,rfl,rfl,rfl,rfl,rfl,rfl,rfl,rfl,rfl,rfl⟩:=inj14 h
  refine fin_go ?_
  try cbv
  exact⟨[],rfl,rfl,⟨rfl,⟨rfl,⟨rfl,⟨rfl,⟨rfl,⟨rfl,trivial⟩⟩⟩⟩⟩⟩,trivial,trivial⟩
 intro l1 r1 h
 rw[F109]at h
 refine Trip.of tab_ok tab_one fol Tryz.func109 rfl (by kernel_rfl) rfl rfl rfl (fun M hM hI=>?_)
 try cbv
 refine seq_go ?_
 try cbv
 refine seq_go ?_
 try cbv
 refine seq_go ?_
 try cbv
 refine seq_go ?_
 try cbv
 replace h:=lenF_inv M h
 obtain⟨z2,hz,h⟩:=h
 refine⟨z2,hz,?_⟩
 clear hz
 try cbv
 refine loop_invT (T:=Nat×LD×Int) [.slot 5 true 15 50] [1,4,5,8,9,10] [.ext 0,.ext 1,.ext 2,.ext 3,.ext 4,.ext 5,.loc 160] 192 (fun t=>⟨[(1,.v (.c (.fn 110 [.ext 0,.ext 1,.ext 2,.ext 4,.ext 5,.ext 3]))),(4,.v (.c (.nils true 15))),(5,.v (.c (.lst (.loc 160) true 15 t.2.1))),sT 8 15 l1,sI 9 z2,sI 10 t.2.2],[(.ext 0,.cells [.fn 102 [.ext 0]]),(.ext 1,.cells [.fn 104 []]),(.ext 2,.cells [.fn 106 [.ext 1,.ext 2,.ext 3]]),(.ext 3,.cells [.fn 58 []]),(.ext 4,.cells [.fn 110 [.ext 0,.ext 1,.ext 2,.ext 4,.ext 5,.ext 3]]),(.ext 5,.cells [.fn 108 [.ext 4]]),(.loc 160,.tok t.2.1.length 15 50)],192⟩)
   (fun t=>t.1<=n/\L109_1 t.1 l1 z2 t.2.1 t.2.2=some r1) (fun t=>t.1) (n,(([]:LD),(0:Int))) ⟨Nat.le_refl _,h⟩ (by cbv) ?_
 clear h
 rintro⟨m1,l3,z4⟩ ⟨hm1,h⟩
 replace hm1:m1<=n:=hm1
 obtain _ | m1:=m1
 ·replace h:L109_1 0 l1 z2 l3 z4=some r1:=h
  rw[L109_1]at h
  cases h
 replace h:L109_1 (m1+1) l1 z2 l3 z4=some r1:=h
 rw[L109_1]at h
 try cbv
 refine seq_joinB 11 [1,4,5,8,9,10,11] [.ext 0,.ext 1,.ext 2,.ext 3,.ext 4,.ext 5,.loc 160] 224 (fun m b=>m<=m1/\L109_2 m l1 z2 l3 z4 b=some r1) ?_ ?_
 ·try cbv
  refine splitL (fun e=>?_) (fun e=>?_)
  ·replace h:=ite_t e h
   clear e
   try cbv
   exact join_next (m1,true) [1,4,5,8,9,10,11] [.ext 0,.ext 1,.ext 2,.ext 3,.ext 4,.ext 5,.loc 160] 224 ⟨by omega,h⟩ (by cbv)
  replace h:=ite_f (Int.not_lt.2 e) h
  clear e
  try cbv
  exact join_next (m1,false) [1,4,5,8,9,10,11] [.ext 0,.ext 1,.ext 2,.ext 3,.ext 4,.ext 5,.loc 160] 224 ⟨by omega,h⟩ (by cbv)
 clear h
 rintro⟨m2,b5⟩ ⟨hm2,h⟩
 try cbv
 replace hm2:m2<=m1:=hm2
 obtain _ | m2:=m2
 ·replace h:L109_2 0 l1 z2 l3 z4 b5=some r1:=h
  rw[L109_2]at h
  cases h
 replace h:L109_2 (m2+1) l1 z2 l3 z4 b5=some r1:=h
 rw[L109_2]at h
 try cbv
 refine seq_go ?_
 try cbv
 cases b5
 ·replace h:=itF h
  try cbv
  refine seq_go ?_
  try cbv
  obtain rfl:=Option.some.inj h
  refine fin_go ?_
  try cbv
  exact⟨[],rfl,rfl,⟨rfl,⟨rfl,⟨rfl,⟨rfl,⟨rfl,⟨rfl,trivial⟩⟩⟩⟩⟩⟩,trivial,trivial⟩
 replace h:=itT h
 try cbv
 refine seq_go ?_
 try cbv
 refine seq_go ?_
 try cbv
 replace h:=getF_inv h
 obtain⟨x6,⟨hx0,hx⟩,h⟩:=h
 refine⟨x6,hx0,hx,?_⟩
 clear hx0 hx
 replace h:=ds_t50_inv h
 obtain⟨z7,s8,s9,l10,z11,s12,l13,z14,s15,l16,l17,l18,l19,l20,z21,rfl,h⟩:=h
 try cbv
 replace h:=bO14_inv h
 obtain⟨z22,s23,s24,l25,z26,s27,l28,z29,s30,l31,l32,l33,l34,l35,hr,h⟩:=h
 refine call_go rfl rfl ?_
 try cbv
 refine call_with hM hI [.ext 0,.ext 1,.ext 2,.ext 3,.ext 4,.ext 5] ((ih _ (by omega)).2.2.1 hr) rfl (by simp) ⟨rfl,⟨rfl,⟨rfl,⟨rfl,⟨rfl,⟨rfl,trivial⟩⟩⟩⟩⟩⟩ ⟨trivial,⟨trivial,⟨trivial,⟨trivial,⟨trivial,⟨trivial,trivial⟩⟩⟩⟩⟩⟩ (by simp) ?_
 clear hr
 try cbv
 refine⟨false,?_⟩
 try cbv
 refine⟨true,?_⟩
 try cbv
 replace h:=appF_inv h
 obtain⟨l36,hb,hz,h⟩:=h
 refine⟨false,?_⟩
 try cbv
 first | refine⟨rfl,(M.lock_iff _).2 hb,l36,hz,?_⟩ | refine⟨(M.lock_iff _).2 hb,l36,hz,?_⟩
 clear hb hz
 try cbv
 replace h:=letF_inv h
 obtain⟨z37,hz,h⟩:=h
 refine⟨z37,hz,?_⟩
 clear hz
 try cbv
 exact loop_next (m2,(l36,z37)) [1,4,5,8,9,10] [.ext 0,.ext 1,.ext 2,.ext 3,.ext 4,.ext 5,.loc 160] 192 ⟨by omega,h⟩ (Nat.lt_succ_of_le (by omega)) (by cbv)
theorem T109 (n:Nat):∀⦃l1 r1⦄,F109 n l1=some r1->
  Trip Tryz.prog inv 109 [.d (.list true 15 l1),.c (.fn 110 [.ext 0,.ext 1,.ext 2,.ext 4,.ext 5,.ext 3])] [.cells [.fn 102 [.ext 0]],.cells [.fn 104 []],.cells [.fn 106 [.ext 1,.ext 2,.ext 3]],.cells [.fn 58 []],.cells [.fn 110 [.ext 0,.ext 1,.ext 2,.ext 4,.ext 5,.ext 3]],.cells [.fn 108 [.ext 4]]] (.v (.d (.list true 15 r1))) [.cells [.fn 102 [.ext 0]],.cells [.fn 104 []],.cells [.fn 106 [.ext 1,.ext 2,.ext 3]],.cells [.fn 58 []],.cells [.fn 110 [.ext 0,.ext 1,.ext 2,.ext 4,.ext 5,.ext 3]],.cells [.fn 108 [.ext 4]]] []:=(G108 n).2.2.2
def F112 (n:Nat) (s1:BA) (z2:Int) (s3:BA) (l4:LD):Option (BA×Int×BA×LD):=
 bO3 (F102 n z2 s3 l4) fun z5 s6 l7=>some (s1,z5,s6,l7)
theorem T112 (n:Nat):∀⦃s1 z2 s3 l4 r1 r2 r3 r4⦄,F112 n s1 z2 s3 l4=some (r1,r2,r3,r4)->
    Trip Tryz.prog inv 112 [.d (.agg [.str s1,.int .u8 z2,.str s3,.list true 3 l4]),.c (.ptr (.ext 0) 0)] [.cells [.fn 102 [.ext 0]]] (.v (.d (.agg [.str r1,.int .u8 r2,.str r3,.list true 3 r4]))) [.cells [.fn 102 [.ext 0]]] []:=by
 intro s1 z2 s3 l4 r1 r2 r3 r4 h
 unfold F112 at h
 refine Trip.of tab_ok tab_one fol Tryz.func112 rfl (by kernel_rfl) rfl rfl rfl (fun M hM hI=>?_)
 try cbv
 refine seq_go ?_
 try cbv
 refine seq_go ?_
 try cbv
 replace h:=bO3_inv h
 obtain⟨z5,s6,l7,hr,h⟩:=h
 refine call_go rfl rfl ?_
 try cbv
 refine call_with hM hI [.ext 0] (T102 _ hr) rfl (by simp) ⟨rfl,trivial⟩ ⟨trivial,trivial⟩ (by simp) ?_
 clear hr
 try cbv
 refine seq_go ?_
 try cbv
 obtain⟨rfl,rfl,rfl,rfl⟩:=inj4 h
 refine fin_go ?_
 try cbv
 exact⟨[],rfl,rfl,⟨rfl,trivial⟩,trivial,trivial⟩
mutual
def L115_1:Nat->LD->Int->LD->Int->Option LD
 | 0,_,_,_,_=>none
 | n+1,l1,z2,l3,z4=>
  (if z4<z2 then L115_2 n l1 z2 l3 z4 true else L115_2 n l1 z2 l3 z4 false)
def L115_2:Nat->LD->Int->LD->Int->Bool->Option LD
 | 0,_,_,_,_,_=>none
 | n+1,l1,z2,l3,z4,b5=>
  (if b5=true then getF l1 z4 fun x6=>ds_t74 x6 fun s7 z8 s9 l10=>bO4 (F112 n s7 z8 s9 l10) fun s11 z12 s13 l14=>appF 64 l3 ([.agg [.str s11,.int .u8 z12,.str s13,.list true 3 l14]]) fun l15=>letF (IntKind.wrap .i64 (z4+1)) fun z16=>L115_1 n l1 z2 l15 z16 else some l3)
end
def F115 (n:Nat) (l1:LD):Option LD:=
 lenF l1 fun z2=>L115_1 n l1 z2 ([]:LD) (0:Int)
theorem T115 (n:Nat):∀⦃l1 r1⦄,F115 n l1=some r1->
    Trip Tryz.prog inv 115 [.d (.list true 4 l1),.c (.fn 112 [.ext 0])] [.cells [.fn 102 [.ext 0]]] (.v (.d (.list true 4 r1))) [.cells [.fn 102 [.ext 0]]] []:=by
 intro l1 r1 h
 unfold F115 at h
 refine Trip.of tab_ok tab_one fol Tryz.func115 rfl (by kernel_rfl) rfl rfl rfl (fun M hM hI=>?_)
 try cbv
 refine seq_go ?_
 try cbv
 refine seq_go ?_
 try cbv
 refine seq_go ?_
 try cbv
 refine seq_go ?_
 try cbv
 replace h:=lenF_inv M h
 obtain⟨z2,hz,h⟩:=h
 refine⟨z2,hz,?_⟩
 clear hz
 try cbv
 refine loop_invT (T:=Nat×LD×Int) [.slot 5 true 4 74] [1,4,5,8,9,10] [.ext 0,.loc 160] 192 (fun t=>⟨[(1,.v (.c (.fn 112 [.ext 0]))),(4,.v (.c (.nils true 4))),(5,.v (.c (.lst (.loc 160) true 4 t.2.1))),sT 8 4 l1,sI 9 z2,sI 10 t.2.2],[(.ext 0,.cells [.fn 102 [.ext 0]]),(.loc 160,.tok t.2.1.length 4 74)],192⟩)
   (fun t=>t.1<=n/\L115_1 t.1 l1 z2 t.2.1 t.2.2=some r1) (fun t=>t.1) (n,(([]:LD),(0:Int))) ⟨Nat.le_refl _,h⟩ (by cbv) ?_
 clear h
 rintro⟨m1,l3,z4⟩ ⟨hm1,h⟩
 replace hm1:m1<=n:=hm1
 obtain _ | m1:=m1
 ·replace h:L115_1 0 l1 z2 l3 z4=some r1:=h
  rw[L115_1]at h
  cases h
 replace h:L115_1 (m1+1) l1 z2 l3 z4=some r1:=h
 rw[L115_1]at h
 try cbv
 refine seq_joinB 11 [1,4,5,8,9,10,11] [.ext 0,.loc 160] 224 (fun m b=>m<=m1/\L115_2 m l1 z2 l3 z4 b=some r1) ?_ ?_
 ·try cbv
  refine splitL (fun e=>?_) (fun e=>?_)
  ·replace h:=ite_t e h
   clear e
   try cbv
   exact join_next (m1,true) [1,4,5,8,9,10,11] [.ext 0,.loc 160] 224 ⟨by omega,h⟩ (by cbv)
  replace h:=ite_f (Int.not_lt.2 e) h
  clear e
  try cbv
  exact join_next (m1,false) [1,4,5,8,9,10,11] [.ext 0,.loc 160] 224 ⟨by omega,h⟩ (by cbv)
 clear h
 rintro⟨m2,b5⟩ ⟨hm2,h⟩
 try cbv
 replace hm2:m2<=m1:=hm2
 obtain _ | m2:=m2
 ·replace h:L115_2 0 l1 z2 l3 z4 b5=some r1:=h
  rw[L115_2]at h
  cases h
 replace h:L115_2 (m2+1) l1 z2 l3 z4 b5=some r1:=h
 rw[L115_2]at h
 try cbv
 refine seq_go ?_
 try cbv
 cases b5
 ·replace h:=itF h
  try cbv
  refine seq_go ?_
  try cbv
  obtain rfl:=Option.some.inj h
  refine fin_go ?_
  try cbv
  exact⟨[],rfl,rfl,⟨rfl,trivial⟩,trivial,trivial⟩
 replace h:=itT h
 try cbv
 refine seq_go ?_
 try cbv
 refine seq_go ?_
 try cbv
 replace h:=getF_inv h
 obtain⟨x6,⟨hx0,hx⟩,h⟩:=h
 refine⟨x6,hx0,hx,?_⟩
 clear hx0 hx
 replace h:=ds_t74_inv h
 obtain⟨s7,z8,s9,l10,rfl,h⟩:=h
 try cbv
 replace h:=bO4_inv h
 obtain⟨s11,z12,s13,l14,hr,h⟩:=h
 refine call_go rfl rfl ?_
 try cbv
 refine call_with hM hI [.ext 0] (T112 _ hr) rfl (by simp) ⟨rfl,trivial⟩ ⟨trivial,trivial⟩ (by simp) ?_
 clear hr
 try cbv
 refine⟨false,?_⟩
 try cbv
 refine⟨true,?_⟩
 try cbv
 replace h:=appF_inv h
 obtain⟨l15,hb,hz,h⟩:=h
 refine⟨false,?_⟩
 try cbv
 first | refine⟨rfl,(M.lock_iff _).2 hb,l15,hz,?_⟩ | refine⟨(M.lock_iff _).2 hb,l15,hz,?_⟩
 clear hb hz
 try cbv
 replace h:=letF_inv h
 obtain⟨z16,hz,h⟩:=h
 refine⟨z16,hz,?_⟩
 clear hz
 try cbv
 exact loop_next (m2,(l15,z16)) [1,4,5,8,9,10] [.ext 0,.loc 160] 192 ⟨by omega,h⟩ (Nat.lt_succ_of_le (by omega)) (by cbv)
def F114 (n:Nat) (z1:Int) (s2:BA) (l3:LD) (z4:Int) (s5:BA) (l6:LD) (l7:LD) (z8:Int) (z9:Int) (s10:BA) (s11:BA) (s12:BA) (l13:LD) (l14:LD) (z15:Int) (z16:Int):Option (Int×BA×LD×Int×BA×LD×LD×Int×Int×BA×BA×BA×LD×LD):=
 bO1 (F115 n l3) fun l17=>bO3 (F102 n z4 s5 l6) fun z18 s19 l20=>bO1 (F109 n l7) fun l21=>bO7 (F106 n z8 z9 s10 s11 s12 l13 l14 z15) fun z22 z23 s24 s25 s26 l27 l28=>bO0 (F58 n z16) (some (z1,s2,l17,z18,s19,l20,l21,z22,z23,s24,s25,s26,l27,l28))
theorem T114 (n:Nat):∀⦃z1 s2 l3 z4 s5 l6 l7 z8 z9 s10 s11 s12 l13 l14 z15 z16 r1 r2 r3 r4 r5 r6 r7 r8 r9 r10 r11 r12 r13 r14⦄,F114 n z1 s2 l3 z4 s5 l6 l7 z8 z9 s10 s11 s12 l13 l14 z15 z16=some (r1,r2,r3,r4,r5,r6,r7,r8,r9,r10,r11,r12,r13,r14)->
    Trip Tryz.prog inv 114 [.d (.agg [.int .u8 z1,.str s2,.list true 4 l3,.int .u8 z4,.str s5,.list true 3 l6,.list true 15 l7,.int .u8 z8,.int .i64 z9,.str s10,.str s11,.str s12,.list false 1 l13,.list true 8 l14,.int .i64 z15,.int .i64 z16]),.c (.ptr (.ext 0) 0),.c (.ptr (.ext 1) 0),.c (.ptr (.ext 2) 0),.c (.ptr (.ext 4) 0),.c (.ptr (.ext 5) 0)] [.cells [.fn 112 [.ext 1]],.cells [.fn 102 [.ext 1]],.cells [.fn 110 [.ext 1,.ext 3,.ext 4,.ext 2,.ext 6,.ext 5]],.cells [.fn 104 []],.cells [.fn 106 [.ext 3,.ext 4,.ext 5]],.cells [.fn 58 []],.cells [.fn 108 [.ext 2]]] (.v (.d (.agg [.int .u8 r1,.str r2,.list true 4 r3,.int .u8 r4,.str r5,.list true 3 r6,.list true 15 r7,.int .u8 r8,.int .i64 r9,.str r10,.str r11,.str r12,.list false 1 r13,.list true 8 r14,.int .i64 0,.int .i64 0]))) [.cells [.fn 112 [.ext 1]],.cells [.fn 102 [.ext 1]],.cells [.fn 110 [.ext 1,.ext 3,.ext 4,.ext 2,.ext 6,.ext 5]],.cells [.fn 104 []],.cells [.fn 106 [.ext 3,.ext 4,.ext 5]],.cells [.fn 58 []],.cells [.fn 108 [.ext 2]]] []:=by
 intro z1 s2 l3 z4 s5 l6 l7 z8 z9 s10 s11 s12 l13 l14 z15 z16 r1 r2 r3 r4 r5 r6 r7 r8 r9 r10 r11 r12 r13 r14 h
 unfold F114 at h
 refine Trip.of tab_ok tab_one fol Tryz.func114 rfl (by kernel_rfl) rfl rfl rfl (fun M hM hI=>?_)
 try cbv
 refine seq_go ?_
 try cbv
 refine seq_go ?_
 try cbv
 replace h:=bO1_inv h
 obtain⟨l17,hr,h⟩:=h
 first | refine .inr (.inr ⟨[.ext 1],?_⟩) | refine .inr ⟨[.ext 1],?_⟩
 try cbv
 refine call_with hM hI [.ext 1] (T115 _ hr) rfl (by simp) ⟨rfl,trivial⟩ ⟨trivial,trivial⟩ (by simp) ?_
 try cbv
 first | refine⟨(rfl:(_:Option AObj)=_),?_⟩ | skip
 try cbv
 clear hr
 try cbv
 replace h:=bO3_inv h
 obtain⟨z18,s19,l20,hr,h⟩:=h
 first | refine .inr (.inr ⟨[.ext 1],?_⟩) | refine .inr ⟨[.ext 1],?_⟩
 try cbv
 refine call_with hM hI [.ext 1] (T102 _ hr) rfl (by simp) ⟨rfl,trivial⟩ ⟨trivial,trivial⟩ (by simp) ?_
 try cbv
 first | refine⟨(rfl:(_:Option AObj)=_),?_⟩ | skip
 try cbv
 clear hr
 try cbv
 replace h:=bO1_inv h
 obtain⟨l21,hr,h⟩:=h
 first | refine .inr (.inr ⟨[.ext 1,.ext 3,.ext 4,.ext 5,.ext 2,.ext 6],?_⟩) | refine .inr ⟨[.ext 1,.ext 3,.ext 4,.ext 5,.ext 2,.ext 6],?_⟩
 try cbv
 refine call_with hM hI [.ext 1,.ext 3,.ext 4,.ext 5,.ext 2,.ext 6] (T109 _ hr) rfl (by simp) ⟨rfl,⟨rfl,⟨rfl,⟨rfl,⟨rfl,⟨rfl,trivial⟩⟩⟩⟩⟩⟩ ⟨trivial,⟨trivial,⟨trivial,⟨trivial,⟨trivial,⟨trivial,trivial⟩⟩⟩⟩⟩⟩ (by simp) ?_
 try cbv
 first | refine⟨(rfl:(_:Option AObj)=_),?_⟩ | skip
 first | refine⟨(rfl:(_:Option AObj)=_),?_⟩ | skip
 first | refine⟨(rfl:(_:Option AObj)=_),?_⟩ | skip
 first | refine⟨(rfl:(_:Option AObj)=_),?_⟩ | skip
 first | refine⟨(rfl:(_:Option AObj)=_),?_⟩ | skip
 first | refine⟨(rfl:(_:Option AObj)=_),?_⟩ | skip
 try cbv
 clear hr
 try cbv
 replace h:=bO7_inv h
 obtain⟨z22,z23,s24,s25,s26,l27,l28,hr,h⟩:=h
 first | refine .inr (.inr ⟨[.ext 3,.ext 4,.ext 5],?_⟩) | refine .inr ⟨[.ext 3,.ext 4,.ext 5],?_⟩
 try cbv
 refine call_with hM hI [.ext 3,.ext 4,.ext 5] (T106 _ hr) rfl (by simp) ⟨rfl,⟨rfl,⟨rfl,trivial⟩⟩⟩ ⟨trivial,⟨trivial,⟨trivial,trivial⟩⟩⟩ (by simp) ?_
 try cbv
 first | refine⟨(rfl:(_:Option AObj)=_),?_⟩ | skip
 first | refine⟨(rfl:(_:Option AObj)=_),?_⟩ | skip
 first | refine⟨(rfl:(_:Option AObj)=_),?_⟩ | skip
 try cbv
 clear hr
 try cbv
 replace h:=bO0_inv h
 obtain⟨hr,h⟩:=h
 first | refine .inr (.inl ⟨[],?_⟩) | refine .inl ⟨[],?_⟩
 try cbv
 refine call_pure hM hI (T58 _ hr) rfl ?_
 clear hr
 try cbv
 refine drawn ?_ ?_
 ·show _=true
  kernel_rfl
 try cbv
 refine seq_go ?_
 try cbv
 obtain⟨rfl,rfl,rfl,rfl,rfl,rfl,rfl,rfl,rfl,rfl,rfl,rfl,rfl,rfl⟩:=inj14 h
 refine fin_go ?_
 try cbv
 exact⟨[],rfl,rfl,⟨rfl,⟨rfl,⟨rfl,⟨rfl,⟨rfl,⟨rfl,⟨rfl,trivial⟩⟩⟩⟩⟩⟩⟩,trivial,trivial⟩
end Go.Proofs.YtjmofeakajdbiaaGreatDoor
end
