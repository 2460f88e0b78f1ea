/- TreeCopies of chapter 3 holds. No condition. (Part 6.) -/
import Derived.Carry
import Derived.ChangeSame
import Derived.ChangeOld
import Derived.ChangeCalls
import Derived.WideShapes
import Derived.Test.YtiiojajgajnhpaaRows
import Derived.JoinedOf
import Derived.JoinedAt
import Derived.RowKit
import Derived.RowKit2
import Derived.ReadAgain
import Derived.ChangeAlike
import Derived.Test.YtiiojajgajnhpaaCpyE
set_option linter.unusedVariables false
set_option linter.unusedSimpArgs false
set_option maxRecDepth 100000
set_option maxHeartbeats 40000000
set_option linter.unusedVariables false
noncomputable section
namespace Go.Proofs.Ytiiojajgajnhpaa
open Go Go.AM
mutual
def L27_1:Nat→Int→(List D)→Option (List D)
 | 0,_,_=>none
 | n+1,z2,l3=>
  lenF l3 fun z4=>(if z2<z4 then L27_2 n z2 l3 true else L27_2 n z2 l3 false)
def L27_2:Nat→Int→(List D)→Bool→Option (List D)
 | 0,_,_,_=>none
 | n+1,z2,l3,b5=>
  (if b5=true then needF (0≤z2∧z2.toNat<l3.length) (getN l3 (z2.toNat) fun x6=>ds_t126 x6 fun z7 s8 l9 z10 s11 l12 l13 z14 z15 s16 s17 s18 l19 l20 z21 z22=>L27_3 n z2 l3 z7 z10 s11 l12 l13 z14 z15 s16 s17 s18 l19 l20 z21 z22 (0:Int) l9)else some l3)
def L27_3:Nat→Int→(List D)→Int→Int→ByteArray→(List D)→(List D)→Int→Int→ByteArray→ByteArray→ByteArray→(List D)→(List D)→Int→Int→Int→(List D)→Option (List D)
 | 0,_,_,_,_,_,_,_,_,_,_,_,_,_,_,_,_,_,_=>none
 | n+1,z2,l3,z7,z10,s11,l12,l13,z14,z15,s16,s17,s18,l19,l20,z21,z22,z23,l24=>
  lenF l24 fun z25=>(if z23<z25 then L27_4 n z2 l3 z7 z10 s11 l12 l13 z14 z15 s16 s17 s18 l19 l20 z21 z22 z23 l24 true else L27_4 n z2 l3 z7 z10 s11 l12 l13 z14 z15 s16 s17 s18 l19 l20 z21 z22 z23 l24 false)
def L27_4:Nat→Int→(List D)→Int→Int→ByteArray→(List D)→(List D)→Int→Int→ByteArray→ByteArray→ByteArray→(List D)→(List D)→Int→Int→Int→(List D)→Bool→Option (List D)
 | 0,_,_,_,_,_,_,_,_,_,_,_,_,_,_,_,_,_,_,_=>none
 | n+1,z2,l3,z7,z10,s11,l12,l13,z14,z15,s16,s17,s18,l19,l20,z21,z22,z23,l24,b26=>
  (if b26=true then needF (0≤z23∧z23.toNat<l24.length) (getN l24 (z23.toNat) fun x27=>ds_t136 x27 fun s28 z29 s30 l31=>letF (IntKind.wrap .i64 (z23+1)) fun z32=>setF l24 (z23.toNat) (.agg [.str k_spoilt,.int .u8 z29,.str s30,.list true 3 l31]) fun l33=>L27_3 n z2 l3 z7 z10 s11 l12 l13 z14 z15 s16 s17 s18 l19 l20 z21 z22 z32 l33)else L27_5 n z2 l3 z7 z10 s11 l12 z14 z15 s16 s17 s18 l19 l20 z21 z22 l24 (0:Int) l13)
def L27_5:Nat→Int→(List D)→Int→Int→ByteArray→(List D)→Int→Int→ByteArray→ByteArray→ByteArray→(List D)→(List D)→Int→Int→(List D)→Int→(List D)→Option (List D)
 | 0,_,_,_,_,_,_,_,_,_,_,_,_,_,_,_,_,_,_=>none
 | n+1,z2,l3,z7,z10,s11,l12,z14,z15,s16,s17,s18,l19,l20,z21,z22,l24,z34,l35=>
  lenF l35 fun z36=>(if z34<z36 then L27_6 n z2 l3 z7 z10 s11 l12 z14 z15 s16 s17 s18 l19 l20 z21 z22 l24 z34 l35 true else L27_6 n z2 l3 z7 z10 s11 l12 z14 z15 s16 s17 s18 l19 l20 z21 z22 l24 z34 l35 false)
def L27_6:Nat→Int→(List D)→Int→Int→ByteArray→(List D)→Int→Int→ByteArray→ByteArray→ByteArray→(List D)→(List D)→Int→Int→(List D)→Int→(List D)→Bool→Option (List D)
 | 0,_,_,_,_,_,_,_,_,_,_,_,_,_,_,_,_,_,_,_=>none
 | n+1,z2,l3,z7,z10,s11,l12,z14,z15,s16,s17,s18,l19,l20,z21,z22,l24,z34,l35,b37=>
  (if b37=true then needF (0≤z34∧z34.toNat<l35.length) (getN l35 (z34.toNat) fun x38=>ds_t152 x38 fun z39 s40 s41 l42 z43 s44 l45 z46 s47 l48 l49 l50 l51 l52 z53=>L27_7 n z2 l3 z7 z10 s11 l12 z14 z15 s16 s17 s18 l19 l20 z21 z22 l24 z34 l35 s40 s41 z43 s44 l45 z46 s47 l48 l49 l50 l51 l52 z53 (0:Int) l42)else L27_17 n z2 l3 z7 z10 s11 l12 z14 z15 s16 s17 s18 l19 z21 z22 l24 l35 (0:Int) l20)
def L27_7:Nat→Int→(List D)→Int→Int→ByteArray→(List D)→Int→Int→ByteArray→ByteArray→ByteArray→(List D)→(List D)→Int→Int→(List D)→Int→(List D)→ByteArray→ByteArray→Int→ByteArray→(List D)→Int→ByteArray→(List D)→(List D)→(List D)→(List D)→(List D)→Int→Int→(List D)→Option (List D)
 | 0,_,_,_,_,_,_,_,_,_,_,_,_,_,_,_,_,_,_,_,_,_,_,_,_,_,_,_,_,_,_,_,_,_=>none
 | n+1,z2,l3,z7,z10,s11,l12,z14,z15,s16,s17,s18,l19,l20,z21,z22,l24,z34,l35,s40,s41,z43,s44,l45,z46,s47,l48,l49,l50,l51,l52,z53,z54,l55=>
  lenF l55 fun z56=>(if z54<z56 then L27_8 n z2 l3 z7 z10 s11 l12 z14 z15 s16 s17 s18 l19 l20 z21 z22 l24 z34 l35 s40 s41 z43 s44 l45 z46 s47 l48 l49 l50 l51 l52 z53 z54 l55 true else L27_8 n z2 l3 z7 z10 s11 l12 z14 z15 s16 s17 s18 l19 l20 z21 z22 l24 z34 l35 s40 s41 z43 s44 l45 z46 s47 l48 l49 l50 l51 l52 z53 z54 l55 false)
def L27_8:Nat→Int→(List D)→Int→Int→ByteArray→(List D)→Int→Int→ByteArray→ByteArray→ByteArray→(List D)→(List D)→Int→Int→(List D)→Int→(List D)→ByteArray→ByteArray→Int→ByteArray→(List D)→Int→ByteArray→(List D)→(List D)→(List D)→(List D)→(List D)→Int→Int→(List D)→Bool→Option (List D)
 | 0,_,_,_,_,_,_,_,_,_,_,_,_,_,_,_,_,_,_,_,_,_,_,_,_,_,_,_,_,_,_,_,_,_,_=>none
 | n+1,z2,l3,z7,z10,s11,l12,z14,z15,s16,s17,s18,l19,l20,z21,z22,l24,z34,l35,s40,s41,z43,s44,l45,z46,s47,l48,l49,l50,l51,l52,z53,z54,l55,b57=>
  (if b57=true then needF (0≤z54∧z54.toNat<l55.length) (getN l55 (z54.toNat) fun x58=>ds_str x58 fun s59=>letF (IntKind.wrap .i64 (z54+1)) fun z60=>setF l55 (z54.toNat) (.str k_spoilt) fun l61=>L27_7 n z2 l3 z7 z10 s11 l12 z14 z15 s16 s17 s18 l19 l20 z21 z22 l24 z34 l35 s40 s41 z43 s44 l45 z46 s47 l48 l49 l50 l51 l52 z53 z60 l61)else L27_9 n z2 l3 z7 z10 s11 l12 z14 z15 s16 s17 s18 l19 l20 z21 z22 l24 z34 l35 s40 s41 z43 s44 l45 z46 s47 l49 l50 l51 l52 z53 l55 (0:Int) l48)
def L27_9:Nat→Int→(List D)→Int→Int→ByteArray→(List D)→Int→Int→ByteArray→ByteArray→ByteArray→(List D)→(List D)→Int→Int→(List D)→Int→(List D)→ByteArray→ByteArray→Int→ByteArray→(List D)→Int→ByteArray→(List D)→(List D)→(List D)→(List D)→Int→(List D)→Int→(List D)→Option (List D)
 | 0,_,_,_,_,_,_,_,_,_,_,_,_,_,_,_,_,_,_,_,_,_,_,_,_,_,_,_,_,_,_,_,_,_=>none
 | n+1,z2,l3,z7,z10,s11,l12,z14,z15,s16,s17,s18,l19,l20,z21,z22,l24,z34,l35,s40,s41,z43,s44,l45,z46,s47,l49,l50,l51,l52,z53,l55,z62,l63=>
  lenF l63 fun z64=>(if z62<z64 then L27_10 n z2 l3 z7 z10 s11 l12 z14 z15 s16 s17 s18 l19 l20 z21 z22 l24 z34 l35 s40 s41 z43 s44 l45 z46 s47 l49 l50 l51 l52 z53 l55 z62 l63 true else L27_10 n z2 l3 z7 z10 s11 l12 z14 z15 s16 s17 s18 l19 l20 z21 z22 l24 z34 l35 s40 s41 z43 s44 l45 z46 s47 l49 l50 l51 l52 z53 l55 z62 l63 false)
def L27_10:Nat→Int→(List D)→Int→Int→ByteArray→(List D)→Int→Int→ByteArray→ByteArray→ByteArray→(List D)→(List D)→Int→Int→(List D)→Int→(List D)→ByteArray→ByteArray→Int→ByteArray→(List D)→Int→ByteArray→(List D)→(List D)→(List D)→(List D)→Int→(List D)→Int→(List D)→Bool→Option (List D)
 | 0,_,_,_,_,_,_,_,_,_,_,_,_,_,_,_,_,_,_,_,_,_,_,_,_,_,_,_,_,_,_,_,_,_,_=>none
 | n+1,z2,l3,z7,z10,s11,l12,z14,z15,s16,s17,s18,l19,l20,z21,z22,l24,z34,l35,s40,s41,z43,s44,l45,z46,s47,l49,l50,l51,l52,z53,l55,z62,l63,b65=>
  (if b65=true then needF (0≤z62∧z62.toNat<l63.length) (getN l63 (z62.toNat) fun x66=>ds_str x66 fun s67=>letF (IntKind.wrap .i64 (z62+1)) fun z68=>setF l63 (z62.toNat) (.str k_spoilt) fun l69=>L27_9 n z2 l3 z7 z10 s11 l12 z14 z15 s16 s17 s18 l19 l20 z21 z22 l24 z34 l35 s40 s41 z43 s44 l45 z46 s47 l49 l50 l51 l52 z53 l55 z68 l69)else L27_11 n z2 l3 z7 z10 s11 l12 z14 z15 s16 s17 s18 l19 l20 z21 z22 l24 z34 l35 s40 s41 z43 s44 l45 z46 s47 l50 l51 l52 z53 l55 l63 (0:Int) l49)
def L27_11:Nat→Int→(List D)→Int→Int→ByteArray→(List D)→Int→Int→ByteArray→ByteArray→ByteArray→(List D)→(List D)→Int→Int→(List D)→Int→(List D)→ByteArray→ByteArray→Int→ByteArray→(List D)→Int→ByteArray→(List D)→(List D)→(List D)→Int→(List D)→(List D)→Int→(List D)→Option (List D)
 | 0,_,_,_,_,_,_,_,_,_,_,_,_,_,_,_,_,_,_,_,_,_,_,_,_,_,_,_,_,_,_,_,_,_=>none
 | n+1,z2,l3,z7,z10,s11,l12,z14,z15,s16,s17,s18,l19,l20,z21,z22,l24,z34,l35,s40,s41,z43,s44,l45,z46,s47,l50,l51,l52,z53,l55,l63,z70,l71=>
  lenF l71 fun z72=>(if z70<z72 then L27_12 n z2 l3 z7 z10 s11 l12 z14 z15 s16 s17 s18 l19 l20 z21 z22 l24 z34 l35 s40 s41 z43 s44 l45 z46 s47 l50 l51 l52 z53 l55 l63 z70 l71 true else L27_12 n z2 l3 z7 z10 s11 l12 z14 z15 s16 s17 s18 l19 l20 z21 z22 l24 z34 l35 s40 s41 z43 s44 l45 z46 s47 l50 l51 l52 z53 l55 l63 z70 l71 false)
def L27_12:Nat→Int→(List D)→Int→Int→ByteArray→(List D)→Int→Int→ByteArray→ByteArray→ByteArray→(List D)→(List D)→Int→Int→(List D)→Int→(List D)→ByteArray→ByteArray→Int→ByteArray→(List D)→Int→ByteArray→(List D)→(List D)→(List D)→Int→(List D)→(List D)→Int→(List D)→Bool→Option (List D)
 | 0,_,_,_,_,_,_,_,_,_,_,_,_,_,_,_,_,_,_,_,_,_,_,_,_,_,_,_,_,_,_,_,_,_,_=>none
 | n+1,z2,l3,z7,z10,s11,l12,z14,z15,s16,s17,s18,l19,l20,z21,z22,l24,z34,l35,s40,s41,z43,s44,l45,z46,s47,l50,l51,l52,z53,l55,l63,z70,l71,b73=>
  (if b73=true then needF (0≤z70∧z70.toNat<l71.length) (getN l71 (z70.toNat) fun x74=>ds_t33 x74 fun z75 z76 s77 s78 s79 l80 l81 z82=>letF (IntKind.wrap .i64 (z70+1)) fun z83=>setF l71 (z70.toNat) (.agg [.int .u8 99,.int .i64 z76,.str s77,.str s78,.str s79,.list false 1 l80,.list true 8 l81,.int .i64 z82]) fun l84=>L27_11 n z2 l3 z7 z10 s11 l12 z14 z15 s16 s17 s18 l19 l20 z21 z22 l24 z34 l35 s40 s41 z43 s44 l45 z46 s47 l50 l51 l52 z53 l55 l63 z83 l84)else L27_13 n z2 l3 z7 z10 s11 l12 z14 z15 s16 s17 s18 l19 l20 z21 z22 l24 z34 l35 s40 s41 z43 s44 l45 z46 s47 l51 l52 z53 l55 l63 l71 (0:Int) l50)
def L27_13:Nat→Int→(List D)→Int→Int→ByteArray→(List D)→Int→Int→ByteArray→ByteArray→ByteArray→(List D)→(List D)→Int→Int→(List D)→Int→(List D)→ByteArray→ByteArray→Int→ByteArray→(List D)→Int→ByteArray→(List D)→(List D)→Int→(List D)→(List D)→(List D)→Int→(List D)→Option (List D)
 | 0,_,_,_,_,_,_,_,_,_,_,_,_,_,_,_,_,_,_,_,_,_,_,_,_,_,_,_,_,_,_,_,_,_=>none
 | n+1,z2,l3,z7,z10,s11,l12,z14,z15,s16,s17,s18,l19,l20,z21,z22,l24,z34,l35,s40,s41,z43,s44,l45,z46,s47,l51,l52,z53,l55,l63,l71,z85,l86=>
  lenF l86 fun z87=>(if z85<z87 then L27_14 n z2 l3 z7 z10 s11 l12 z14 z15 s16 s17 s18 l19 l20 z21 z22 l24 z34 l35 s40 s41 z43 s44 l45 z46 s47 l51 l52 z53 l55 l63 l71 z85 l86 true else L27_14 n z2 l3 z7 z10 s11 l12 z14 z15 s16 s17 s18 l19 l20 z21 z22 l24 z34 l35 s40 s41 z43 s44 l45 z46 s47 l51 l52 z53 l55 l63 l71 z85 l86 false)
def L27_14:Nat→Int→(List D)→Int→Int→ByteArray→(List D)→Int→Int→ByteArray→ByteArray→ByteArray→(List D)→(List D)→Int→Int→(List D)→Int→(List D)→ByteArray→ByteArray→Int→ByteArray→(List D)→Int→ByteArray→(List D)→(List D)→Int→(List D)→(List D)→(List D)→Int→(List D)→Bool→Option (List D)
 | 0,_,_,_,_,_,_,_,_,_,_,_,_,_,_,_,_,_,_,_,_,_,_,_,_,_,_,_,_,_,_,_,_,_,_=>none
 | n+1,z2,l3,z7,z10,s11,l12,z14,z15,s16,s17,s18,l19,l20,z21,z22,l24,z34,l35,s40,s41,z43,s44,l45,z46,s47,l51,l52,z53,l55,l63,l71,z85,l86,b88=>
  (if b88=true then needF (0≤z85∧z85.toNat<l86.length) (getN l86 (z85.toNat) fun x89=>ds_t152 x89 fun z90 s91 s92 l93 z94 s95 l96 z97 s98 l99 l100 l101 l102 l103 z104=>letF (IntKind.wrap .i64 (z85+1)) fun z105=>setF l86 (z85.toNat) (.agg [.int .u8 99,.str s91,.str s92,.list false 1 l93,.int .u8 z94,.str s95,.list true 3 l96,.int .i64 z97,.str s98,.list false 1 l99,.list true 8 l100,.list true 15 l101,.list true 15 l102,.list true 3 l103,.int .i64 z104]) fun l106=>L27_13 n z2 l3 z7 z10 s11 l12 z14 z15 s16 s17 s18 l19 l20 z21 z22 l24 z34 l35 s40 s41 z43 s44 l45 z46 s47 l51 l52 z53 l55 l63 l71 z105 l106)else L27_15 n z2 l3 z7 z10 s11 l12 z14 z15 s16 s17 s18 l19 l20 z21 z22 l24 z34 l35 s40 s41 z43 s44 l45 z46 s47 l51 z53 l55 l63 l71 l86 (0:Int) l52)
def L27_15:Nat→Int→(List D)→Int→Int→ByteArray→(List D)→Int→Int→ByteArray→ByteArray→ByteArray→(List D)→(List D)→Int→Int→(List D)→Int→(List D)→ByteArray→ByteArray→Int→ByteArray→(List D)→Int→ByteArray→(List D)→Int→(List D)→(List D)→(List D)→(List D)→Int→(List D)→Option (List D)
 | 0,_,_,_,_,_,_,_,_,_,_,_,_,_,_,_,_,_,_,_,_,_,_,_,_,_,_,_,_,_,_,_,_,_=>none
 | n+1,z2,l3,z7,z10,s11,l12,z14,z15,s16,s17,s18,l19,l20,z21,z22,l24,z34,l35,s40,s41,z43,s44,l45,z46,s47,l51,z53,l55,l63,l71,l86,z107,l108=>
  lenF l108 fun z109=>(if z107<z109 then L27_16 n z2 l3 z7 z10 s11 l12 z14 z15 s16 s17 s18 l19 l20 z21 z22 l24 z34 l35 s40 s41 z43 s44 l45 z46 s47 l51 z53 l55 l63 l71 l86 z107 l108 true else L27_16 n z2 l3 z7 z10 s11 l12 z14 z15 s16 s17 s18 l19 l20 z21 z22 l24 z34 l35 s40 s41 z43 s44 l45 z46 s47 l51 z53 l55 l63 l71 l86 z107 l108 false)
def L27_16:Nat→Int→(List D)→Int→Int→ByteArray→(List D)→Int→Int→ByteArray→ByteArray→ByteArray→(List D)→(List D)→Int→Int→(List D)→Int→(List D)→ByteArray→ByteArray→Int→ByteArray→(List D)→Int→ByteArray→(List D)→Int→(List D)→(List D)→(List D)→(List D)→Int→(List D)→Bool→Option (List D)
 | 0,_,_,_,_,_,_,_,_,_,_,_,_,_,_,_,_,_,_,_,_,_,_,_,_,_,_,_,_,_,_,_,_,_,_=>none
 | n+1,z2,l3,z7,z10,s11,l12,z14,z15,s16,s17,s18,l19,l20,z21,z22,l24,z34,l35,s40,s41,z43,s44,l45,z46,s47,l51,z53,l55,l63,l71,l86,z107,l108,b110=>
  (if b110=true then needF (0≤z107∧z107.toNat<l108.length) (getN l108 (z107.toNat) fun x111=>ds_t154 x111 fun s112 s113 l114=>letF (IntKind.wrap .i64 (z107+1)) fun z115=>setF l108 (z107.toNat) (.agg [.str s112,.str k_spoilt,.list true 15 l114]) fun l116=>L27_15 n z2 l3 z7 z10 s11 l12 z14 z15 s16 s17 s18 l19 l20 z21 z22 l24 z34 l35 s40 s41 z43 s44 l45 z46 s47 l51 z53 l55 l63 l71 l86 z115 l116)else needF (0≤z34∧z34.toNat<l35.length) (letF (IntKind.wrap .i64 (z34+1)) fun z117=>setF l35 (z34.toNat) (.agg [.int .u8 99,.str s40,.str s41,.list false 1 l55,.int .u8 z43,.str s44,.list true 3 l45,.int .i64 z46,.str s47,.list false 1 l63,.list true 8 l71,.list true 15 l86,.list true 15 l51,.list true 3 l108,.int .i64 z53]) fun l118=>L27_5 n z2 l3 z7 z10 s11 l12 z14 z15 s16 s17 s18 l19 l20 z21 z22 l24 z117 l118))
def L27_17:Nat→Int→(List D)→Int→Int→ByteArray→(List D)→Int→Int→ByteArray→ByteArray→ByteArray→(List D)→Int→Int→(List D)→(List D)→Int→(List D)→Option (List D)
 | 0,_,_,_,_,_,_,_,_,_,_,_,_,_,_,_,_,_,_=>none
 | n+1,z2,l3,z7,z10,s11,l12,z14,z15,s16,s17,s18,l19,z21,z22,l24,l35,z119,l120=>
  lenF l120 fun z121=>(if z119<z121 then L27_18 n z2 l3 z7 z10 s11 l12 z14 z15 s16 s17 s18 l19 z21 z22 l24 l35 z119 l120 true else L27_18 n z2 l3 z7 z10 s11 l12 z14 z15 s16 s17 s18 l19 z21 z22 l24 l35 z119 l120 false)
def L27_18:Nat→Int→(List D)→Int→Int→ByteArray→(List D)→Int→Int→ByteArray→ByteArray→ByteArray→(List D)→Int→Int→(List D)→(List D)→Int→(List D)→Bool→Option (List D)
 | 0,_,_,_,_,_,_,_,_,_,_,_,_,_,_,_,_,_,_,_=>none
 | n+1,z2,l3,z7,z10,s11,l12,z14,z15,s16,s17,s18,l19,z21,z22,l24,l35,z119,l120,b122=>
  (if b122=true then needF (0≤z119∧z119.toNat<l120.length) (getN l120 (z119.toNat) fun x123=>ds_t33 x123 fun z124 z125 s126 s127 s128 l129 l130 z131=>letF (IntKind.wrap .i64 (z119+1)) fun z132=>setF l120 (z119.toNat) (.agg [.int .u8 99,.int .i64 z125,.str s126,.str s127,.str s128,.list false 1 l129,.list true 8 l130,.int .i64 z131]) fun l133=>L27_17 n z2 l3 z7 z10 s11 l12 z14 z15 s16 s17 s18 l19 z21 z22 l24 l35 z132 l133)else L27_19 n z2 l3 z7 z10 s11 z14 z15 s16 s17 s18 l19 z21 z22 l24 l35 l120 (0:Int) l12)
def L27_19:Nat→Int→(List D)→Int→Int→ByteArray→Int→Int→ByteArray→ByteArray→ByteArray→(List D)→Int→Int→(List D)→(List D)→(List D)→Int→(List D)→Option (List D)
 | 0,_,_,_,_,_,_,_,_,_,_,_,_,_,_,_,_,_,_=>none
 | n+1,z2,l3,z7,z10,s11,z14,z15,s16,s17,s18,l19,z21,z22,l24,l35,l120,z134,l135=>
  lenF l135 fun z136=>(if z134<z136 then L27_20 n z2 l3 z7 z10 s11 z14 z15 s16 s17 s18 l19 z21 z22 l24 l35 l120 z134 l135 true else L27_20 n z2 l3 z7 z10 s11 z14 z15 s16 s17 s18 l19 z21 z22 l24 l35 l120 z134 l135 false)
def L27_20:Nat→Int→(List D)→Int→Int→ByteArray→Int→Int→ByteArray→ByteArray→ByteArray→(List D)→Int→Int→(List D)→(List D)→(List D)→Int→(List D)→Bool→Option (List D)
 | 0,_,_,_,_,_,_,_,_,_,_,_,_,_,_,_,_,_,_,_=>none
 | n+1,z2,l3,z7,z10,s11,z14,z15,s16,s17,s18,l19,z21,z22,l24,l35,l120,z134,l135,b137=>
  (if b137=true then needF (0≤z134∧z134.toNat<l135.length) (getN l135 (z134.toNat) fun x138=>ds_t27 x138 fun z139 s140 l141=>letF (IntKind.wrap .i64 (z134+1)) fun z142=>setF l135 (z134.toNat) (.agg [.int .u8 99,.str s140,.list true 3 l141]) fun l143=>L27_19 n z2 l3 z7 z10 s11 z14 z15 s16 s17 s18 l19 z21 z22 l24 l35 l120 z142 l143)else needF (0≤z2∧z2.toNat<l3.length) (letF (IntKind.wrap .i64 (z2+1)) fun z144=>setF l3 (z2.toNat) (.agg [.int .u8 z7,.str k_spoilt,.list true 4 l24,.int .u8 z10,.str s11,.list true 3 l135,.list true 15 l35,.int .u8 z14,.int .i64 z15,.str s16,.str s17,.str s18,.list false 1 l19,.list true 8 l120,.int .i64 z21,.int .i64 z22]) fun l145=>L27_1 n z144 l145))
end
def F27 (n:Nat) (l1:List D):Option (List D):=
 L27_1 n (0:Int) l1
theorem T27 (n:Nat):∀⦃l1:List D⦄ ⦃r1:List D⦄,F27 n l1=some r1→
    Trip Try.prog inv 27 [.agg [.ow (.ext 0)]] [.tree .row true 16 l1 none] (.t []) [.tree .row true 16 r1 none] []:=by
 intro l1 r1 h
 unfold F27 at h
 refine Trip.of tab_ok tab_one fol Try.func27 rfl (by kernel_rfl) rfl rfl rfl (fun M hM hI=>?_)
 try cbv
 refine seq_go ?_
 try cbv
 refine seq_go ?_
 try cbv
 refine loop_invG (T:=Nat×Int×List D) [] [] [1,2] [.ext 0,.loc 0] 64 (fun t=>⟨[(1,.v (.c (.ptr (.loc 0) 0))),(2,.v (.d (.int .i64 t.2.1)))],[(.ext 0,.tree .row true 16 t.2.2 none),(.loc 0,.cells [.ow (.ext 0)])],64⟩)
   (fun t=>t.1≤n∧L27_1 t.1 t.2.1 t.2.2=some r1) (fun t=>t.1) (n,((0:Int),l1)) ⟨Nat.le_refl _,h⟩ (by cbv) ?_
 clear h
 rintro⟨m1,z2,l3⟩ ⟨hm1,h⟩
 replace hm1:m1≤n:=hm1
 obtain _ | m1:=m1
 ·replace h:L27_1 0 z2 l3=some r1:=h
  rw[L27_1]at h
  cases h
 replace h:L27_1 (m1+1) z2 l3=some r1:=h
 rw[L27_1]at h
 try cbv
 refine seq_go ?_
 try cbv
 refine seq_join (T:=Nat×Bool) (fun t=>⟨[(1,.v (.c (.ptr (.loc 0) 0))),(2,.v (.d (.int .i64 z2))),(18,.v (.d (.bool t.2)))],[(.ext 0,.tree .row true 16 l3 none),(.loc 0,.cells [.ow (.ext 0)])],224⟩) (fun t=>t.1≤m1∧L27_2 t.1 z2 l3 t.2=some r1) ?_ ?_
 ·try cbv
  replace h:=lenF_inv M h
  obtain⟨z4,hz,h⟩:=h
  refine⟨false,?_⟩
  try cbv
  refine⟨z4,hz,?_⟩
  clear hz
  try cbv
  refine splitL (fun e=>?_) (fun e=>?_)
  ·replace h:=ite_t e h
   clear e
   try cbv
   exact join_next (m1,true) [1,2,18] [.ext 0,.loc 0] 224 ⟨by omega,h⟩ (by cbv)
  replace h:=ite_f (Int.not_lt.2 e) h
  clear e
  try cbv
  exact join_next (m1,false) [1,2,18] [.ext 0,.loc 0] 224 ⟨by omega,h⟩ (by cbv)
 clear h
 rintro⟨m2,b5⟩ ⟨hm2,h⟩
 replace hm2:m2≤m1:=hm2
 obtain _ | m2:=m2
 ·replace h:L27_2 0 z2 l3 b5=some r1:=h
  rw[L27_2]at h
  cases h
 replace h:L27_2 (m2+1) z2 l3 b5=some r1:=h
 rw[L27_2]at h
 try cbv
 cases b5
 ·replace h:=ite_f Bool.false_ne_true h
  try cbv
  obtain rfl:=Option.some.inj h
  refine fin_go ?_
  try cbv
  exact⟨[],rfl,rfl,⟨rfl,trivial⟩,trivial,trivial⟩
 replace h:=ite_t rfl h
 try cbv
 refine seq_go ?_
 try cbv
 refine seq_go ?_
 try cbv
 replace h:=needF_inv h
 obtain⟨hn,h⟩:=h
 refine⟨(M.lock_iff _).2 hn,?_⟩
 clear hn
 try cbv
 refine⟨[],?_⟩
 try cbv
 replace h:=getN_inv h
 obtain⟨x6,hx,h⟩:=h
 replace h:=ds_t126_inv h
 obtain⟨z7,s8,l9,z10,s11,l12,l13,z14,z15,s16,s17,s18,l19,l20,z21,z22,rfl,h⟩:=h
 refine⟨_,hx,?_⟩
 clear hx
 try cbv
 refine⟨false,?_⟩
 try cbv
 refine seq_go ?_
 try cbv
 refine seq_go ?_
 try cbv
 refine loop_invG (T:=Nat×Int×List D) [] [] [1,2,3,4] [.ext 0,.loc 0,.loc 384,.loc 354,.loc 357,.loc 358,.loc 364,.loc 365] 480 (fun t=>⟨[(1,.v (.c (.ptr (.loc 0) 0))),(2,.v (.d (.int .i64 z2))),(3,.v (.c (.ptr (.loc 384) 0))),(4,.v (.d (.int .i64 t.2.1)))],[(.ext 0,.tree .row true 16 l3 (some (z2.toNat,[.d (.int .u8 z7),.d (.str s8),.ow (.loc 354),.d (.int .u8 z10),.d (.str s11),.ow (.loc 357),.ow (.loc 358),.d (.int .u8 z14),.d (.int .i64 z15),.d (.str s16),.d (.str s17),.d (.str s18),.ow (.loc 364),.ow (.loc 365),.d (.int .i64 z21),.d (.int .i64 z22)]))),(.loc 0,.cells [.ow (.ext 0)]),(.loc 384,.cells [.d (.int .u8 z7),.d (.str s8),.ow (.loc 354),.d (.int .u8 z10),.d (.str s11),.ow (.loc 357),.ow (.loc 358),.d (.int .u8 z14),.d (.int .i64 z15),.d (.str s16),.d (.str s17),.d (.str s18),.ow (.loc 364),.ow (.loc 365),.d (.int .i64 z21),.d (.int .i64 z22)]),(.loc 354,.tree .row true 4 t.2.2 none),(.loc 357,.tree .row true 3 l12 none),(.loc 358,.tree .row true 15 l13 none),(.loc 364,.tree .row false 1 l19 none),(.loc 365,.tree .row true 8 l20 none)],480⟩)
   (fun t=>t.1≤m2∧L27_3 t.1 z2 l3 z7 z10 s11 l12 l13 z14 z15 s16 s17 s18 l19 l20 z21 z22 t.2.1 t.2.2=some r1) (fun t=>t.1) (m2,((0:Int),l9)) ⟨Nat.le_refl _,h⟩ (by cbv) ?_
 clear h
 rintro⟨m3,z23,l24⟩ ⟨hm3,h⟩
 replace hm3:m3≤m2:=hm3
 obtain _ | m3:=m3
 ·replace h:L27_3 0 z2 l3 z7 z10 s11 l12 l13 z14 z15 s16 s17 s18 l19 l20 z21 z22 z23 l24=some r1:=h
  rw[L27_3]at h
  cases h
 replace h:L27_3 (m3+1) z2 l3 z7 z10 s11 l12 l13 z14 z15 s16 s17 s18 l19 l20 z21 z22 z23 l24=some r1:=h
 rw[L27_3]at h
 try cbv
 refine seq_go ?_
 try cbv
 refine seq_join (T:=Nat×Bool) (fun t=>⟨[(1,.v (.c (.ptr (.loc 0) 0))),(2,.v (.d (.int .i64 z2))),(3,.v (.c (.ptr (.loc 384) 0))),(4,.v (.d (.int .i64 z23))),(30,.v (.d (.bool t.2)))],[(.ext 0,.tree .row true 16 l3 (some (z2.toNat,[.d (.int .u8 z7),.d (.str s8),.ow (.loc 354),.d (.int .u8 z10),.d (.str s11),.ow (.loc 357),.ow (.loc 358),.d (.int .u8 z14),.d (.int .i64 z15),.d (.str s16),.d (.str s17),.d (.str s18),.ow (.loc 364),.ow (.loc 365),.d (.int .i64 z21),.d (.int .i64 z22)]))),(.loc 0,.cells [.ow (.ext 0)]),(.loc 384,.cells [.d (.int .u8 z7),.d (.str s8),.ow (.loc 354),.d (.int .u8 z10),.d (.str s11),.ow (.loc 357),.ow (.loc 358),.d (.int .u8 z14),.d (.int .i64 z15),.d (.str s16),.d (.str s17),.d (.str s18),.ow (.loc 364),.ow (.loc 365),.d (.int .i64 z21),.d (.int .i64 z22)]),(.loc 354,.tree .row true 4 l24 none),(.loc 357,.tree .row true 3 l12 none),(.loc 358,.tree .row true 15 l13 none),(.loc 364,.tree .row false 1 l19 none),(.loc 365,.tree .row true 8 l20 none)],640⟩) (fun t=>t.1≤m3∧L27_4 t.1 z2 l3 z7 z10 s11 l12 l13 z14 z15 s16 s17 s18 l19 l20 z21 z22 z23 l24 t.2=some r1) ?_ ?_
 ·try cbv
  replace h:=lenF_inv M h
  obtain⟨z25,hz,h⟩:=h
  refine⟨false,?_⟩
  try cbv
  refine⟨z25,hz,?_⟩
  clear hz
  try cbv
  refine splitL (fun e=>?_) (fun e=>?_)
  ·replace h:=ite_t e h
   clear e
   try cbv
   exact join_next (m3,true) [1,2,3,4,30] [.ext 0,.loc 0,.loc 384,.loc 354,.loc 357,.loc 358,.loc 364,.loc 365] 640 ⟨by omega,h⟩ (by cbv)
  replace h:=ite_f (Int.not_lt.2 e) h
  clear e
  try cbv
  exact join_next (m3,false) [1,2,3,4,30] [.ext 0,.loc 0,.loc 384,.loc 354,.loc 357,.loc 358,.loc 364,.loc 365] 640 ⟨by omega,h⟩ (by cbv)
 clear h
 rintro⟨m4,b26⟩ ⟨hm4,h⟩
 replace hm4:m4≤m3:=hm4
 obtain _ | m4:=m4
 ·replace h:L27_4 0 z2 l3 z7 z10 s11 l12 l13 z14 z15 s16 s17 s18 l19 l20 z21 z22 z23 l24 b26=some r1:=h
  rw[L27_4]at h
  cases h
 replace h:L27_4 (m4+1) z2 l3 z7 z10 s11 l12 l13 z14 z15 s16 s17 s18 l19 l20 z21 z22 z23 l24 b26=some r1:=h
 rw[L27_4]at h
 try cbv
 cases b26
 rotate_left
 ·replace h:=ite_t rfl h
  try cbv
  refine seq_go ?_
  try cbv
  replace h:=needF_inv h
  obtain⟨hn,h⟩:=h
  refine⟨(M.lock_iff _).2 hn,?_⟩
  clear hn
  try cbv
  refine⟨[],?_⟩
  try cbv
  replace h:=getN_inv h
  obtain⟨x27,hx,h⟩:=h
  replace h:=ds_t136_inv h
  obtain⟨s28,z29,s30,l31,rfl,h⟩:=h
  refine⟨_,hx,?_⟩
  clear hx
  try cbv
  replace h:=letF_inv h
  obtain⟨z32,hz,h⟩:=h
  refine⟨z32,hz,?_⟩
  clear hz
  try cbv
  replace h:=setF_inv h
  obtain⟨l33,hl33,h⟩:=h
  refine loop_nextG (m4,(z32,l33)) [.close (.loc 354)] [] [1,2,3,4] [.ext 0,.loc 0,.loc 384,.loc 354,.loc 357,.loc 358,.loc 364,.loc 365] 480 ⟨by omega,h⟩ (Nat.lt_succ_of_le (by omega)) ?_
  try cbv
  refine⟨l33,hl33,?_⟩
  clear hl33
  try cbv
  first | done | exact rfl | cbv
 replace h:=ite_f Bool.false_ne_true h
 try cbv
 refine seq_go ?_
 try cbv
 refine seq_go ?_
 try cbv
 refine loop_invG (T:=Nat×Int×List D) [] [] [1,2,3,4,5] [.ext 0,.loc 0,.loc 384,.loc 354,.loc 357,.loc 358,.loc 364,.loc 365] 672 (fun t=>⟨[(1,.v (.c (.ptr (.loc 0) 0))),(2,.v (.d (.int .i64 z2))),(3,.v (.c (.ptr (.loc 384) 0))),(4,.v (.d (.int .i64 z23))),(5,.v (.d (.int .i64 t.2.1)))],[(.ext 0,.tree .row true 16 l3 (some (z2.toNat,[.d (.int .u8 z7),.d (.str s8),.ow (.loc 354),.d (.int .u8 z10),.d (.str s11),.ow (.loc 357),.ow (.loc 358),.d (.int .u8 z14),.d (.int .i64 z15),.d (.str s16),.d (.str s17),.d (.str s18),.ow (.loc 364),.ow (.loc 365),.d (.int .i64 z21),.d (.int .i64 z22)]))),(.loc 0,.cells [.ow (.ext 0)]),(.loc 384,.cells [.d (.int .u8 z7),.d (.str s8),.ow (.loc 354),.d (.int .u8 z10),.d (.str s11),.ow (.loc 357),.ow (.loc 358),.d (.int .u8 z14),.d (.int .i64 z15),.d (.str s16),.d (.str s17),.d (.str s18),.ow (.loc 364),.ow (.loc 365),.d (.int .i64 z21),.d (.int .i64 z22)]),(.loc 354,.tree .row true 4 l24 none),(.loc 357,.tree .row true 3 l12 none),(.loc 358,.tree .row true 15 t.2.2 none),(.loc 364,.tree .row false 1 l19 none),(.loc 365,.tree .row true 8 l20 none)],672⟩)
   (fun t=>t.1≤m4∧L27_5 t.1 z2 l3 z7 z10 s11 l12 z14 z15 s16 s17 s18 l19 l20 z21 z22 l24 t.2.1 t.2.2=some r1) (fun t=>t.1) (m4,((0:Int),l13)) ⟨Nat.le_refl _,h⟩ (by cbv) ?_
 clear h
 rintro⟨m5,z34,l35⟩ ⟨hm5,h⟩
 replace hm5:m5≤m4:=hm5
 obtain _ | m5:=m5
 ·replace h:L27_5 0 z2 l3 z7 z10 s11 l12 z14 z15 s16 s17 s18 l19 l20 z21 z22 l24 z34 l35=some r1:=h
  rw[L27_5]at h
  cases h
 replace h:L27_5 (m5+1) z2 l3 z7 z10 s11 l12 z14 z15 s16 s17 s18 l19 l20 z21 z22 l24 z34 l35=some r1:=h
 rw[L27_5]at h
 try cbv
 refine seq_go ?_
 try cbv
 refine seq_join (T:=Nat×Bool) (fun t=>⟨[(1,.v (.c (.ptr (.loc 0) 0))),(2,.v (.d (.int .i64 z2))),(3,.v (.c (.ptr (.loc 384) 0))),(4,.v (.d (.int .i64 z23))),(5,.v (.d (.int .i64 z34))),(42,.v (.d (.bool t.2)))],[(.ext 0,.tree .row true 16 l3 (some (z2.toNat,[.d (.int .u8 z7),.d (.str s8),.ow (.loc 354),.d (.int .u8 z10),.d (.str s11),.ow (.loc 357),.ow (.loc 358),.d (.int .u8 z14),.d (.int .i64 z15),.d (.str s16),.d (.str s17),.d (.str s18),.ow (.loc 364),.ow (.loc 365),.d (.int .i64 z21),.d (.int .i64 z22)]))),(.loc 0,.cells [.ow (.ext 0)]),(.loc 384,.cells [.d (.int .u8 z7),.d (.str s8),.ow (.loc 354),.d (.int .u8 z10),.d (.str s11),.ow (.loc 357),.ow (.loc 358),.d (.int .u8 z14),.d (.int .i64 z15),.d (.str s16),.d (.str s17),.d (.str s18),.ow (.loc 364),.ow (.loc 365),.d (.int .i64 z21),.d (.int .i64 z22)]),(.loc 354,.tree .row true 4 l24 none),(.loc 357,.tree .row true 3 l12 none),(.loc 358,.tree .row true 15 l35 none),(.loc 364,.tree .row false 1 l19 none),(.loc 365,.tree .row true 8 l20 none)],832⟩) (fun t=>t.1≤m5∧L27_6 t.1 z2 l3 z7 z10 s11 l12 z14 z15 s16 s17 s18 l19 l20 z21 z22 l24 z34 l35 t.2=some r1) ?_ ?_
 ·try cbv
  replace h:=lenF_inv M h
  obtain⟨z36,hz,h⟩:=h
  refine⟨false,?_⟩
  try cbv
  refine⟨z36,hz,?_⟩
  clear hz
  try cbv
  refine splitL (fun e=>?_) (fun e=>?_)
  ·replace h:=ite_t e h
   clear e
   try cbv
   exact join_next (m5,true) [1,2,3,4,5,42] [.ext 0,.loc 0,.loc 384,.loc 354,.loc 357,.loc 358,.loc 364,.loc 365] 832 ⟨by omega,h⟩ (by cbv)
  replace h:=ite_f (Int.not_lt.2 e) h
  clear e
  try cbv
  exact join_next (m5,false) [1,2,3,4,5,42] [.ext 0,.loc 0,.loc 384,.loc 354,.loc 357,.loc 358,.loc 364,.loc 365] 832 ⟨by omega,h⟩ (by cbv)
 clear h
 rintro⟨m6,b37⟩ ⟨hm6,h⟩
 replace hm6:m6≤m5:=hm6
 obtain _ | m6:=m6
 ·replace h:L27_6 0 z2 l3 z7 z10 s11 l12 z14 z15 s16 s17 s18 l19 l20 z21 z22 l24 z34 l35 b37=some r1:=h
  rw[L27_6]at h
  cases h
 replace h:L27_6 (m6+1) z2 l3 z7 z10 s11 l12 z14 z15 s16 s17 s18 l19 l20 z21 z22 l24 z34 l35 b37=some r1:=h
 rw[L27_6]at h
 try cbv
 cases b37
 ·replace h:=ite_f Bool.false_ne_true h
  try cbv
  refine seq_go ?_
  try cbv
  refine seq_go ?_
  try cbv
  refine loop_invG (T:=Nat×Int×List D) [] [] [1,2,3,4,5,12] [.ext 0,.loc 0,.loc 384,.loc 354,.loc 357,.loc 358,.loc 364,.loc 365] 864 (fun t=>⟨[(1,.v (.c (.ptr (.loc 0) 0))),(2,.v (.d (.int .i64 z2))),(3,.v (.c (.ptr (.loc 384) 0))),(4,.v (.d (.int .i64 z23))),(5,.v (.d (.int .i64 z34))),(12,.v (.d (.int .i64 t.2.1)))],[(.ext 0,.tree .row true 16 l3 (some (z2.toNat,[.d (.int .u8 z7),.d (.str s8),.ow (.loc 354),.d (.int .u8 z10),.d (.str s11),.ow (.loc 357),.ow (.loc 358),.d (.int .u8 z14),.d (.int .i64 z15),.d (.str s16),.d (.str s17),.d (.str s18),.ow (.loc 364),.ow (.loc 365),.d (.int .i64 z21),.d (.int .i64 z22)]))),(.loc 0,.cells [.ow (.ext 0)]),(.loc 384,.cells [.d (.int .u8 z7),.d (.str s8),.ow (.loc 354),.d (.int .u8 z10),.d (.str s11),.ow (.loc 357),.ow (.loc 358),.d (.int .u8 z14),.d (.int .i64 z15),.d (.str s16),.d (.str s17),.d (.str s18),.ow (.loc 364),.ow (.loc 365),.d (.int .i64 z21),.d (.int .i64 z22)]),(.loc 354,.tree .row true 4 l24 none),(.loc 357,.tree .row true 3 l12 none),(.loc 358,.tree .row true 15 l35 none),(.loc 364,.tree .row false 1 l19 none),(.loc 365,.tree .row true 8 t.2.2 none)],864⟩)
    (fun t=>t.1≤m6∧L27_17 t.1 z2 l3 z7 z10 s11 l12 z14 z15 s16 s17 s18 l19 z21 z22 l24 l35 t.2.1 t.2.2=some r1) (fun t=>t.1) (m6,((0:Int),l20)) ⟨Nat.le_refl _,h⟩ (by cbv) ?_
  clear h
  rintro⟨m17,z119,l120⟩ ⟨hm17,h⟩
  replace hm17:m17≤m6:=hm17
  obtain _ | m17:=m17
  ·replace h:L27_17 0 z2 l3 z7 z10 s11 l12 z14 z15 s16 s17 s18 l19 z21 z22 l24 l35 z119 l120=some r1:=h
   rw[L27_17]at h
   cases h
  replace h:L27_17 (m17+1) z2 l3 z7 z10 s11 l12 z14 z15 s16 s17 s18 l19 z21 z22 l24 l35 z119 l120=some r1:=h
  rw[L27_17]at h
  try cbv
  refine seq_go ?_
  try cbv
  refine seq_join (T:=Nat×Bool) (fun t=>⟨[(1,.v (.c (.ptr (.loc 0) 0))),(2,.v (.d (.int .i64 z2))),(3,.v (.c (.ptr (.loc 384) 0))),(4,.v (.d (.int .i64 z23))),(5,.v (.d (.int .i64 z34))),(12,.v (.d (.int .i64 z119))),(120,.v (.d (.bool t.2)))],[(.ext 0,.tree .row true 16 l3 (some (z2.toNat,[.d (.int .u8 z7),.d (.str s8),.ow (.loc 354),.d (.int .u8 z10),.d (.str s11),.ow (.loc 357),.ow (.loc 358),.d (.int .u8 z14),.d (.int .i64 z15),.d (.str s16),.d (.str s17),.d (.str s18),.ow (.loc 364),.ow (.loc 365),.d (.int .i64 z21),.d (.int .i64 z22)]))),(.loc 0,.cells [.ow (.ext 0)]),(.loc 384,.cells [.d (.int .u8 z7),.d (.str s8),.ow (.loc 354),.d (.int .u8 z10),.d (.str s11),.ow (.loc 357),.ow (.loc 358),.d (.int .u8 z14),.d (.int .i64 z15),.d (.str s16),.d (.str s17),.d (.str s18),.ow (.loc 364),.ow (.loc 365),.d (.int .i64 z21),.d (.int .i64 z22)]),(.loc 354,.tree .row true 4 l24 none),(.loc 357,.tree .row true 3 l12 none),(.loc 358,.tree .row true 15 l35 none),(.loc 364,.tree .row false 1 l19 none),(.loc 365,.tree .row true 8 l120 none)],1056⟩) (fun t=>t.1≤m17∧L27_18 t.1 z2 l3 z7 z10 s11 l12 z14 z15 s16 s17 s18 l19 z21 z22 l24 l35 z119 l120 t.2=some r1) ?_ ?_
  ·try cbv
   replace h:=lenF_inv M h
   obtain⟨z121,hz,h⟩:=h
   refine⟨false,?_⟩
   try cbv
   refine⟨z121,hz,?_⟩
   clear hz
   try cbv
   refine splitL (fun e=>?_) (fun e=>?_)
   ·replace h:=ite_t e h
    clear e
    try cbv
    exact join_next (m17,true) [1,2,3,4,5,12,120] [.ext 0,.loc 0,.loc 384,.loc 354,.loc 357,.loc 358,.loc 364,.loc 365] 1056 ⟨by omega,h⟩ (by cbv)
   replace h:=ite_f (Int.not_lt.2 e) h
   clear e
   try cbv
   exact join_next (m17,false) [1,2,3,4,5,12,120] [.ext 0,.loc 0,.loc 384,.loc 354,.loc 357,.loc 358,.loc 364,.loc 365] 1056 ⟨by omega,h⟩ (by cbv)
  clear h
  rintro⟨m18,b122⟩ ⟨hm18,h⟩
  replace hm18:m18≤m17:=hm18
  obtain _ | m18:=m18
  ·replace h:L27_18 0 z2 l3 z7 z10 s11 l12 z14 z15 s16 s17 s18 l19 z21 z22 l24 l35 z119 l120 b122=some r1:=h
   rw[L27_18]at h
   cases h
  replace h:L27_18 (m18+1) z2 l3 z7 z10 s11 l12 z14 z15 s16 s17 s18 l19 z21 z22 l24 l35 z119 l120 b122=some r1:=h
  rw[L27_18]at h
  try cbv
  cases b122
  rotate_left
  ·replace h:=ite_t rfl h
   try cbv
   refine seq_go ?_
   try cbv
   replace h:=needF_inv h
   obtain⟨hn,h⟩:=h
   refine⟨(M.lock_iff _).2 hn,?_⟩
   clear hn
   try cbv
   refine⟨[],?_⟩
   try cbv
   replace h:=getN_inv h
   obtain⟨x123,hx,h⟩:=h
   replace h:=ds_t33_inv h
   obtain⟨z124,z125,s126,s127,s128,l129,l130,z131,rfl,h⟩:=h
   refine⟨_,hx,?_⟩
   clear hx
   try cbv
   replace h:=letF_inv h
   obtain⟨z132,hz,h⟩:=h
   refine⟨z132,hz,?_⟩
   clear hz
   try cbv
   replace h:=setF_inv h
   obtain⟨l133,hl133,h⟩:=h
   refine loop_nextG (m18,(z132,l133)) [.close (.loc 365)] [] [1,2,3,4,5,12] [.ext 0,.loc 0,.loc 384,.loc 354,.loc 357,.loc 358,.loc 364,.loc 365] 864 ⟨by omega,h⟩ (Nat.lt_succ_of_le (by omega)) ?_
   try cbv
   refine⟨l133,hl133,?_⟩
   clear hl133
   try cbv
   first | done | exact rfl | cbv
  replace h:=ite_f Bool.false_ne_true h
  try cbv
  refine seq_go ?_
  try cbv
  refine seq_go ?_
  try cbv
  refine loop_invG (T:=Nat×Int×List D) [] [] [1,2,3,4,5,12,13] [.ext 0,.loc 0,.loc 384,.loc 354,.loc 357,.loc 358,.loc 364,.loc 365] 1088 (fun t=>⟨[(1,.v (.c (.ptr (.loc 0) 0))),(2,.v (.d (.int .i64 z2))),(3,.v (.c (.ptr (.loc 384) 0))),(4,.v (.d (.int .i64 z23))),(5,.v (.d (.int .i64 z34))),(12,.v (.d (.int .i64 z119))),(13,.v (.d (.int .i64 t.2.1)))],[(.ext 0,.tree .row true 16 l3 (some (z2.toNat,[.d (.int .u8 z7),.d (.str s8),.ow (.loc 354),.d (.int .u8 z10),.d (.str s11),.ow (.loc 357),.ow (.loc 358),.d (.int .u8 z14),.d (.int .i64 z15),.d (.str s16),.d (.str s17),.d (.str s18),.ow (.loc 364),.ow (.loc 365),.d (.int .i64 z21),.d (.int .i64 z22)]))),(.loc 0,.cells [.ow (.ext 0)]),(.loc 384,.cells [.d (.int .u8 z7),.d (.str s8),.ow (.loc 354),.d (.int .u8 z10),.d (.str s11),.ow (.loc 357),.ow (.loc 358),.d (.int .u8 z14),.d (.int .i64 z15),.d (.str s16),.d (.str s17),.d (.str s18),.ow (.loc 364),.ow (.loc 365),.d (.int .i64 z21),.d (.int .i64 z22)]),(.loc 354,.tree .row true 4 l24 none),(.loc 357,.tree .row true 3 t.2.2 none),(.loc 358,.tree .row true 15 l35 none),(.loc 364,.tree .row false 1 l19 none),(.loc 365,.tree .row true 8 l120 none)],1088⟩)
    (fun t=>t.1≤m18∧L27_19 t.1 z2 l3 z7 z10 s11 z14 z15 s16 s17 s18 l19 z21 z22 l24 l35 l120 t.2.1 t.2.2=some r1) (fun t=>t.1) (m18,((0:Int),l12)) ⟨Nat.le_refl _,h⟩ (by cbv) ?_
  clear h
  rintro⟨m19,z134,l135⟩ ⟨hm19,h⟩
  replace hm19:m19≤m18:=hm19
  obtain _ | m19:=m19
  ·replace h:L27_19 0 z2 l3 z7 z10 s11 z14 z15 s16 s17 s18 l19 z21 z22 l24 l35 l120 z134 l135=some r1:=h
   rw[L27_19]at h
   cases h
  replace h:L27_19 (m19+1) z2 l3 z7 z10 s11 z14 z15 s16 s17 s18 l19 z21 z22 l24 l35 l120 z134 l135=some r1:=h
  rw[L27_19]at h
  try cbv
  refine seq_go ?_
  try cbv
  refine seq_join (T:=Nat×Bool) (fun t=>⟨[(1,.v (.c (.ptr (.loc 0) 0))),(2,.v (.d (.int .i64 z2))),(3,.v (.c (.ptr (.loc 384) 0))),(4,.v (.d (.int .i64 z23))),(5,.v (.d (.int .i64 z34))),(12,.v (.d (.int .i64 z119))),(13,.v (.d (.int .i64 z134))),(134,.v (.d (.bool t.2)))],[(.ext 0,.tree .row true 16 l3 (some (z2.toNat,[.d (.int .u8 z7),.d (.str s8),.ow (.loc 354),.d (.int .u8 z10),.d (.str s11),.ow (.loc 357),.ow (.loc 358),.d (.int .u8 z14),.d (.int .i64 z15),.d (.str s16),.d (.str s17),.d (.str s18),.ow (.loc 364),.ow (.loc 365),.d (.int .i64 z21),.d (.int .i64 z22)]))),(.loc 0,.cells [.ow (.ext 0)]),(.loc 384,.cells [.d (.int .u8 z7),.d (.str s8),.ow (.loc 354),.d (.int .u8 z10),.d (.str s11),.ow (.loc 357),.ow (.loc 358),.d (.int .u8 z14),.d (.int .i64 z15),.d (.str s16),.d (.str s17),.d (.str s18),.ow (.loc 364),.ow (.loc 365),.d (.int .i64 z21),.d (.int .i64 z22)]),(.loc 354,.tree .row true 4 l24 none),(.loc 357,.tree .row true 3 l135 none),(.loc 358,.tree .row true 15 l35 none),(.loc 364,.tree .row false 1 l19 none),(.loc 365,.tree .row true 8 l120 none)],1280⟩) (fun t=>t.1≤m19∧L27_20 t.1 z2 l3 z7 z10 s11 z14 z15 s16 s17 s18 l19 z21 z22 l24 l35 l120 z134 l135 t.2=some r1) ?_ ?_
  ·try cbv
   replace h:=lenF_inv M h
   obtain⟨z136,hz,h⟩:=h
   refine⟨false,?_⟩
   try cbv
   refine⟨z136,hz,?_⟩
   clear hz
   try cbv
   refine splitL (fun e=>?_) (fun e=>?_)
   ·replace h:=ite_t e h
    clear e
    try cbv
    exact join_next (m19,true) [1,2,3,4,5,12,13,134] [.ext 0,.loc 0,.loc 384,.loc 354,.loc 357,.loc 358,.loc 364,.loc 365] 1280 ⟨by omega,h⟩ (by cbv)
   replace h:=ite_f (Int.not_lt.2 e) h
   clear e
   try cbv
   exact join_next (m19,false) [1,2,3,4,5,12,13,134] [.ext 0,.loc 0,.loc 384,.loc 354,.loc 357,.loc 358,.loc 364,.loc 365] 1280 ⟨by omega,h⟩ (by cbv)
  clear h
  rintro⟨m20,b137⟩ ⟨hm20,h⟩
  replace hm20:m20≤m19:=hm20
  obtain _ | m20:=m20
  ·replace h:L27_20 0 z2 l3 z7 z10 s11 z14 z15 s16 s17 s18 l19 z21 z22 l24 l35 l120 z134 l135 b137=some r1:=h
   rw[L27_20]at h
   cases h
  replace h:L27_20 (m20+1) z2 l3 z7 z10 s11 z14 z15 s16 s17 s18 l19 z21 z22 l24 l35 l120 z134 l135 b137=some r1:=h
  rw[L27_20]at h
  try cbv
  cases b137
  ·replace h:=ite_f Bool.false_ne_true h
   try cbv
   replace h:=needF_inv h
   obtain⟨hn,h⟩:=h
   refine⟨(M.lock_iff _).2 hn,?_⟩
   clear hn
   try cbv
   refine⟨[],?_⟩
   try cbv
   first | refine⟨(rfl:(_:Nat)=_),?_⟩ | skip
   try cbv
   replace h:=letF_inv h
   obtain⟨z144,hz,h⟩:=h
   refine⟨z144,hz,?_⟩
   clear hz
   try cbv
   replace h:=setF_inv h
   obtain⟨l145,hl145,h⟩:=h
   refine loop_nextG (m20,(z144,l145)) [.close (.ext 0)] [] [1,2] [.ext 0,.loc 0] 64 ⟨by omega,h⟩ (Nat.lt_succ_of_le (by omega)) ?_
   try cbv
   refine⟨l145,hl145,?_⟩
   clear hl145
   try cbv
   first | done | exact rfl | cbv
  replace h:=ite_t rfl h
  try cbv
  refine seq_go ?_
  try cbv
  replace h:=needF_inv h
  obtain⟨hn,h⟩:=h
  refine⟨(M.lock_iff _).2 hn,?_⟩
  clear hn
  try cbv
  refine⟨[],?_⟩
  try cbv
  replace h:=getN_inv h
  obtain⟨x138,hx,h⟩:=h
  replace h:=ds_t27_inv h
  obtain⟨z139,s140,l141,rfl,h⟩:=h
  refine⟨_,hx,?_⟩
  clear hx
  try cbv
  replace h:=letF_inv h
  obtain⟨z142,hz,h⟩:=h
  refine⟨z142,hz,?_⟩
  clear hz
  try cbv
  replace h:=setF_inv h
  obtain⟨l143,hl143,h⟩:=h
  refine loop_nextG (m20,(z142,l143)) [.close (.loc 357)] [] [1,2,3,4,5,12,13] [.ext 0,.loc 0,.loc 384,.loc 354,.loc 357,.loc 358,.loc 364,.loc 365] 1088 ⟨by omega,h⟩ (Nat.lt_succ_of_le (by omega)) ?_
  try cbv
  refine⟨l143,hl143,?_⟩
  clear hl143
  try cbv
  first | done | exact rfl | cbv
 replace h:=ite_t rfl h
 try cbv
 refine seq_go ?_
 try cbv
 refine seq_go ?_
 try cbv
 replace h:=needF_inv h
 obtain⟨hn,h⟩:=h
 refine⟨(M.lock_iff _).2 hn,?_⟩
 clear hn
 try cbv
 refine⟨[],?_⟩
 try cbv
 replace h:=getN_inv h
 obtain⟨x38,hx,h⟩:=h
 replace h:=ds_t152_inv h
 obtain⟨z39,s40,s41,l42,z43,s44,l45,z46,s47,l48,l49,l50,l51,l52,z53,rfl,h⟩:=h
 refine⟨_,hx,?_⟩
 clear hx
 try cbv
 refine⟨false,?_⟩
 try cbv
 refine seq_go ?_
 try cbv
 refine seq_go ?_
 try cbv
 refine loop_invG (T:=Nat×Int×List D) [] [] [1,2,3,4,5,6,7] [.ext 0,.loc 0,.loc 384,.loc 354,.loc 357,.loc 358,.loc 963,.loc 966,.loc 969,.loc 970,.loc 971,.loc 972,.loc 973,.loc 364,.loc 365,.loc 992] 1088 (fun t=>⟨[(1,.v (.c (.ptr (.loc 0) 0))),(2,.v (.d (.int .i64 z2))),(3,.v (.c (.ptr (.loc 384) 0))),(4,.v (.d (.int .i64 z23))),(5,.v (.d (.int .i64 z34))),(6,.v (.c (.ptr (.loc 992) 0))),(7,.v (.d (.int .i64 t.2.1)))],[(.ext 0,.tree .row true 16 l3 (some (z2.toNat,[.d (.int .u8 z7),.d (.str s8),.ow (.loc 354),.d (.int .u8 z10),.d (.str s11),.ow (.loc 357),.ow (.loc 358),.d (.int .u8 z14),.d (.int .i64 z15),.d (.str s16),.d (.str s17),.d (.str s18),.ow (.loc 364),.ow (.loc 365),.d (.int .i64 z21),.d (.int .i64 z22)]))),(.loc 0,.cells [.ow (.ext 0)]),(.loc 384,.cells [.d (.int .u8 z7),.d (.str s8),.ow (.loc 354),.d (.int .u8 z10),.d (.str s11),.ow (.loc 357),.ow (.loc 358),.d (.int .u8 z14),.d (.int .i64 z15),.d (.str s16),.d (.str s17),.d (.str s18),.ow (.loc 364),.ow (.loc 365),.d (.int .i64 z21),.d (.int .i64 z22)]),(.loc 354,.tree .row true 4 l24 none),(.loc 357,.tree .row true 3 l12 none),(.loc 358,.tree .row true 15 l35 (some (z34.toNat,[.d (.int .u8 z39),.d (.str s40),.d (.str s41),.ow (.loc 963),.d (.int .u8 z43),.d (.str s44),.ow (.loc 966),.d (.int .i64 z46),.d (.str s47),.ow (.loc 969),.ow (.loc 970),.ow (.loc 971),.ow (.loc 972),.ow (.loc 973),.d (.int .i64 z53)]))),(.loc 963,.tree .row false 1 t.2.2 none),(.loc 966,.tree .row true 3 l45 none),(.loc 969,.tree .row false 1 l48 none),(.loc 970,.tree .row true 8 l49 none),(.loc 971,.tree .row true 15 l50 none),(.loc 972,.tree .row true 15 l51 none),(.loc 973,.tree .row true 3 l52 none),(.loc 364,.tree .row false 1 l19 none),(.loc 365,.tree .row true 8 l20 none),(.loc 992,.cells [.d (.int .u8 z39),.d (.str s40),.d (.str s41),.ow (.loc 963),.d (.int .u8 z43),.d (.str s44),.ow (.loc 966),.d (.int .i64 z46),.d (.str s47),.ow (.loc 969),.ow (.loc 970),.ow (.loc 971),.ow (.loc 972),.ow (.loc 973),.d (.int .i64 z53)])],1088⟩)
   (fun t=>t.1≤m6∧L27_7 t.1 z2 l3 z7 z10 s11 l12 z14 z15 s16 s17 s18 l19 l20 z21 z22 l24 z34 l35 s40 s41 z43 s44 l45 z46 s47 l48 l49 l50 l51 l52 z53 t.2.1 t.2.2=some r1) (fun t=>t.1) (m6,((0:Int),l42)) ⟨Nat.le_refl _,h⟩ (by cbv) ?_
 clear h
 rintro⟨m7,z54,l55⟩ ⟨hm7,h⟩
 replace hm7:m7≤m6:=hm7
 obtain _ | m7:=m7
 ·replace h:L27_7 0 z2 l3 z7 z10 s11 l12 z14 z15 s16 s17 s18 l19 l20 z21 z22 l24 z34 l35 s40 s41 z43 s44 l45 z46 s47 l48 l49 l50 l51 l52 z53 z54 l55=some r1:=h
  rw[L27_7]at h
  cases h
 replace h:L27_7 (m7+1) z2 l3 z7 z10 s11 l12 z14 z15 s16 s17 s18 l19 l20 z21 z22 l24 z34 l35 s40 s41 z43 s44 l45 z46 s47 l48 l49 l50 l51 l52 z53 z54 l55=some r1:=h
 rw[L27_7]at h
 try cbv
 refine seq_go ?_
 try cbv
 refine seq_join (T:=Nat×Bool) (fun t=>⟨[(1,.v (.c (.ptr (.loc 0) 0))),(2,.v (.d (.int .i64 z2))),(3,.v (.c (.ptr (.loc 384) 0))),(4,.v (.d (.int .i64 z23))),(5,.v (.d (.int .i64 z34))),(6,.v (.c (.ptr (.loc 992) 0))),(7,.v (.d (.int .i64 z54))),(54,.v (.d (.bool t.2)))],[(.ext 0,.tree .row true 16 l3 (some (z2.toNat,[.d (.int .u8 z7),.d (.str s8),.ow (.loc 354),.d (.int .u8 z10),.d (.str s11),.ow (.loc 357),.ow (.loc 358),.d (.int .u8 z14),.d (.int .i64 z15),.d (.str s16),.d (.str s17),.d (.str s18),.ow (.loc 364),.ow (.loc 365),.d (.int .i64 z21),.d (.int .i64 z22)]))),(.loc 0,.cells [.ow (.ext 0)]),(.loc 384,.cells [.d (.int .u8 z7),.d (.str s8),.ow (.loc 354),.d (.int .u8 z10),.d (.str s11),.ow (.loc 357),.ow (.loc 358),.d (.int .u8 z14),.d (.int .i64 z15),.d (.str s16),.d (.str s17),.d (.str s18),.ow (.loc 364),.ow (.loc 365),.d (.int .i64 z21),.d (.int .i64 z22)]),(.loc 354,.tree .row true 4 l24 none),(.loc 357,.tree .row true 3 l12 none),(.loc 358,.tree .row true 15 l35 (some (z34.toNat,[.d (.int .u8 z39),.d (.str s40),.d (.str s41),.ow (.loc 963),.d (.int .u8 z43),.d (.str s44),.ow (.loc 966),.d (.int .i64 z46),.d (.str s47),.ow (.loc 969),.ow (.loc 970),.ow (.loc 971),.ow (.loc 972),.ow (.loc 973),.d (.int .i64 z53)]))),(.loc 963,.tree .row false 1 l55 none),(.loc 966,.tree .row true 3 l45 none),(.loc 969,.tree .row false 1 l48 none),(.loc 970,.tree .row true 8 l49 none),(.loc 971,.tree .row true 15 l50 none),(.loc 972,.tree .row true 15 l51 none),(.loc 973,.tree .row true 3 l52 none),(.loc 364,.tree .row false 1 l19 none),(.loc 365,.tree .row true 8 l20 none),(.loc 992,.cells [.d (.int .u8 z39),.d (.str s40),.d (.str s41),.ow (.loc 963),.d (.int .u8 z43),.d (.str s44),.ow (.loc 966),.d (.int .i64 z46),.d (.str s47),.ow (.loc 969),.ow (.loc 970),.ow (.loc 971),.ow (.loc 972),.ow (.loc 973),.d (.int .i64 z53)])],1248⟩) (fun t=>t.1≤m7∧L27_8 t.1 z2 l3 z7 z10 s11 l12 z14 z15 s16 s17 s18 l19 l20 z21 z22 l24 z34 l35 s40 s41 z43 s44 l45 z46 s47 l48 l49 l50 l51 l52 z53 z54 l55 t.2=some r1) ?_ ?_
 ·try cbv
  replace h:=lenF_inv M h
  obtain⟨z56,hz,h⟩:=h
  refine⟨false,?_⟩
  try cbv
  refine⟨z56,hz,?_⟩
  clear hz
  try cbv
  refine splitL (fun e=>?_) (fun e=>?_)
  ·replace h:=ite_t e h
   clear e
   try cbv
   exact join_next (m7,true) [1,2,3,4,5,6,7,54] [.ext 0,.loc 0,.loc 384,.loc 354,.loc 357,.loc 358,.loc 963,.loc 966,.loc 969,.loc 970,.loc 971,.loc 972,.loc 973,.loc 364,.loc 365,.loc 992] 1248 ⟨by omega,h⟩ (by cbv)
  replace h:=ite_f (Int.not_lt.2 e) h
  clear e
  try cbv
  exact join_next (m7,false) [1,2,3,4,5,6,7,54] [.ext 0,.loc 0,.loc 384,.loc 354,.loc 357,.loc 358,.loc 963,.loc 966,.loc 969,.loc 970,.loc 971,.loc 972,.loc 973,.loc 364,.loc 365,.loc 992] 1248 ⟨by omega,h⟩ (by cbv)
 clear h
 rintro⟨m8,b57⟩ ⟨hm8,h⟩
 replace hm8:m8≤m7:=hm8
 obtain _ | m8:=m8
 ·replace h:L27_8 0 z2 l3 z7 z10 s11 l12 z14 z15 s16 s17 s18 l19 l20 z21 z22 l24 z34 l35 s40 s41 z43 s44 l45 z46 s47 l48 l49 l50 l51 l52 z53 z54 l55 b57=some r1:=h
  rw[L27_8]at h
  cases h
 replace h:L27_8 (m8+1) z2 l3 z7 z10 s11 l12 z14 z15 s16 s17 s18 l19 l20 z21 z22 l24 z34 l35 s40 s41 z43 s44 l45 z46 s47 l48 l49 l50 l51 l52 z53 z54 l55 b57=some r1:=h
 rw[L27_8]at h
 try cbv
 cases b57
 rotate_left
 ·replace h:=ite_t rfl h
  try cbv
  refine seq_go ?_
  try cbv
  replace h:=needF_inv h
  obtain⟨hn,h⟩:=h
  refine⟨(M.lock_iff _).2 hn,?_⟩
  clear hn
  try cbv
  refine⟨[],?_⟩
  try cbv
  replace h:=getN_inv h
  obtain⟨x58,hx,h⟩:=h
  replace h:=ds_str_inv h
  obtain⟨s59,rfl,h⟩:=h
  refine⟨_,hx,?_⟩
  clear hx
  try cbv
  replace h:=letF_inv h
  obtain⟨z60,hz,h⟩:=h
  refine⟨z60,hz,?_⟩
  clear hz
  try cbv
  replace h:=setF_inv h
  obtain⟨l61,hl61,h⟩:=h
  refine loop_nextG (m8,(z60,l61)) [.close (.loc 963)] [] [1,2,3,4,5,6,7] [.ext 0,.loc 0,.loc 384,.loc 354,.loc 357,.loc 358,.loc 963,.loc 966,.loc 969,.loc 970,.loc 971,.loc 972,.loc 973,.loc 364,.loc 365,.loc 992] 1088 ⟨by omega,h⟩ (Nat.lt_succ_of_le (by omega)) ?_
  try cbv
  refine⟨l61,hl61,?_⟩
  clear hl61
  try cbv
  first | done | exact rfl | cbv
 replace h:=ite_f Bool.false_ne_true h
 try cbv
 refine seq_go ?_
 try cbv
 refine seq_go ?_
 try cbv
 refine loop_invG (T:=Nat×Int×List D) [] [] [1,2,3,4,5,6,7,8] [.ext 0,.loc 0,.loc 384,.loc 354,.loc 357,.loc 358,.loc 963,.loc 966,.loc 969,.loc 970,.loc 971,.loc 972,.loc 973,.loc 364,.loc 365,.loc 992] 1280 (fun t=>⟨[(1,.v (.c (.ptr (.loc 0) 0))),(2,.v (.d (.int .i64 z2))),(3,.v (.c (.ptr (.loc 384) 0))),(4,.v (.d (.int .i64 z23))),(5,.v (.d (.int .i64 z34))),(6,.v (.c (.ptr (.loc 992) 0))),(7,.v (.d (.int .i64 z54))),(8,.v (.d (.int .i64 t.2.1)))],[(.ext 0,.tree .row true 16 l3 (some (z2.toNat,[.d (.int .u8 z7),.d (.str s8),.ow (.loc 354),.d (.int .u8 z10),.d (.str s11),.ow (.loc 357),.ow (.loc 358),.d (.int .u8 z14),.d (.int .i64 z15),.d (.str s16),.d (.str s17),.d (.str s18),.ow (.loc 364),.ow (.loc 365),.d (.int .i64 z21),.d (.int .i64 z22)]))),(.loc 0,.cells [.ow (.ext 0)]),(.loc 384,.cells [.d (.int .u8 z7),.d (.str s8),.ow (.loc 354),.d (.int .u8 z10),.d (.str s11),.ow (.loc 357),.ow (.loc 358),.d (.int .u8 z14),.d (.int .i64 z15),.d (.str s16),.d (.str s17),.d (.str s18),.ow (.loc 364),.ow (.loc 365),.d (.int .i64 z21),.d (.int .i64 z22)]),(.loc 354,.tree .row true 4 l24 none),(.loc 357,.tree .row true 3 l12 none),(.loc 358,.tree .row true 15 l35 (some (z34.toNat,[.d (.int .u8 z39),.d (.str s40),.d (.str s41),.ow (.loc 963),.d (.int .u8 z43),.d (.str s44),.ow (.loc 966),.d (.int .i64 z46),.d (.str s47),.ow (.loc 969),.ow (.loc 970),.ow (.loc 971),.ow (.loc 972),.ow (.loc 973),.d (.int .i64 z53)]))),(.loc 963,.tree .row false 1 l55 none),(.loc 966,.tree .row true 3 l45 none),(.loc 969,.tree .row false 1 t.2.2 none),(.loc 970,.tree .row true 8 l49 none),(.loc 971,.tree .row true 15 l50 none),(.loc 972,.tree .row true 15 l51 none),(.loc 973,.tree .row true 3 l52 none),(.loc 364,.tree .row false 1 l19 none),(.loc 365,.tree .row true 8 l20 none),(.loc 992,.cells [.d (.int .u8 z39),.d (.str s40),.d (.str s41),.ow (.loc 963),.d (.int .u8 z43),.d (.str s44),.ow (.loc 966),.d (.int .i64 z46),.d (.str s47),.ow (.loc 969),.ow (.loc 970),.ow (.loc 971),.ow (.loc 972),.ow (.loc 973),.d (.int .i64 z53)])],1280⟩)
   (fun t=>t.1≤m8∧L27_9 t.1 z2 l3 z7 z10 s11 l12 z14 z15 s16 s17 s18 l19 l20 z21 z22 l24 z34 l35 s40 s41 z43 s44 l45 z46 s47 l49 l50 l51 l52 z53 l55 t.2.1 t.2.2=some r1) (fun t=>t.1) (m8,((0:Int),l48)) ⟨Nat.le_refl _,h⟩ (by cbv) ?_
 clear h
 rintro⟨m9,z62,l63⟩ ⟨hm9,h⟩
 replace hm9:m9≤m8:=hm9
 obtain _ | m9:=m9
 ·replace h:L27_9 0 z2 l3 z7 z10 s11 l12 z14 z15 s16 s17 s18 l19 l20 z21 z22 l24 z34 l35 s40 s41 z43 s44 l45 z46 s47 l49 l50 l51 l52 z53 l55 z62 l63=some r1:=h
  rw[L27_9]at h
  cases h
 replace h:L27_9 (m9+1) z2 l3 z7 z10 s11 l12 z14 z15 s16 s17 s18 l19 l20 z21 z22 l24 z34 l35 s40 s41 z43 s44 l45 z46 s47 l49 l50 l51 l52 z53 l55 z62 l63=some r1:=h
 rw[L27_9]at h
 try cbv
 refine seq_go ?_
 try cbv
 refine seq_join (T:=Nat×Bool) (fun t=>⟨[(1,.v (.c (.ptr (.loc 0) 0))),(2,.v (.d (.int .i64 z2))),(3,.v (.c (.ptr (.loc 384) 0))),(4,.v (.d (.int .i64 z23))),(5,.v (.d (.int .i64 z34))),(6,.v (.c (.ptr (.loc 992) 0))),(7,.v (.d (.int .i64 z54))),(8,.v (.d (.int .i64 z62))),(66,.v (.d (.bool t.2)))],[(.ext 0,.tree .row true 16 l3 (some (z2.toNat,[.d (.int .u8 z7),.d (.str s8),.ow (.loc 354),.d (.int .u8 z10),.d (.str s11),.ow (.loc 357),.ow (.loc 358),.d (.int .u8 z14),.d (.int .i64 z15),.d (.str s16),.d (.str s17),.d (.str s18),.ow (.loc 364),.ow (.loc 365),.d (.int .i64 z21),.d (.int .i64 z22)]))),(.loc 0,.cells [.ow (.ext 0)]),(.loc 384,.cells [.d (.int .u8 z7),.d (.str s8),.ow (.loc 354),.d (.int .u8 z10),.d (.str s11),.ow (.loc 357),.ow (.loc 358),.d (.int .u8 z14),.d (.int .i64 z15),.d (.str s16),.d (.str s17),.d (.str s18),.ow (.loc 364),.ow (.loc 365),.d (.int .i64 z21),.d (.int .i64 z22)]),(.loc 354,.tree .row true 4 l24 none),(.loc 357,.tree .row true 3 l12 none),(.loc 358,.tree .row true 15 l35 (some (z34.toNat,[.d (.int .u8 z39),.d (.str s40),.d (.str s41),.ow (.loc 963),.d (.int .u8 z43),.d (.str s44),.ow (.loc 966),.d (.int .i64 z46),.d (.str s47),.ow (.loc 969),.ow (.loc 970),.ow (.loc 971),.ow (.loc 972),.ow (.loc 973),.d (.int .i64 z53)]))),(.loc 963,.tree .row false 1 l55 none),(.loc 966,.tree .row true 3 l45 none),(.loc 969,.tree .row false 1 l63 none),(.loc 970,.tree .row true 8 l49 none),(.loc 971,.tree .row true 15 l50 none),(.loc 972,.tree .row true 15 l51 none),(.loc 973,.tree .row true 3 l52 none),(.loc 364,.tree .row false 1 l19 none),(.loc 365,.tree .row true 8 l20 none),(.loc 992,.cells [.d (.int .u8 z39),.d (.str s40),.d (.str s41),.ow (.loc 963),.d (.int .u8 z43),.d (.str s44),.ow (.loc 966),.d (.int .i64 z46),.d (.str s47),.ow (.loc 969),.ow (.loc 970),.ow (.loc 971),.ow (.loc 972),.ow (.loc 973),.d (.int .i64 z53)])],1472⟩) (fun t=>t.1≤m9∧L27_10 t.1 z2 l3 z7 z10 s11 l12 z14 z15 s16 s17 s18 l19 l20 z21 z22 l24 z34 l35 s40 s41 z43 s44 l45 z46 s47 l49 l50 l51 l52 z53 l55 z62 l63 t.2=some r1) ?_ ?_
 ·try cbv
  replace h:=lenF_inv M h
  obtain⟨z64,hz,h⟩:=h
  refine⟨false,?_⟩
  try cbv
  refine⟨z64,hz,?_⟩
  clear hz
  try cbv
  refine splitL (fun e=>?_) (fun e=>?_)
  ·replace h:=ite_t e h
   clear e
   try cbv
   exact join_next (m9,true) [1,2,3,4,5,6,7,8,66] [.ext 0,.loc 0,.loc 384,.loc 354,.loc 357,.loc 358,.loc 963,.loc 966,.loc 969,.loc 970,.loc 971,.loc 972,.loc 973,.loc 364,.loc 365,.loc 992] 1472 ⟨by omega,h⟩ (by cbv)
  replace h:=ite_f (Int.not_lt.2 e) h
  clear e
  try cbv
  exact join_next (m9,false) [1,2,3,4,5,6,7,8,66] [.ext 0,.loc 0,.loc 384,.loc 354,.loc 357,.loc 358,.loc 963,.loc 966,.loc 969,.loc 970,.loc 971,.loc 972,.loc 973,.loc 364,.loc 365,.loc 992] 1472 ⟨by omega,h⟩ (by cbv)
 clear h
 rintro⟨m10,b65⟩ ⟨hm10,h⟩
 replace hm10:m10≤m9:=hm10
 obtain _ | m10:=m10
 ·replace h:L27_10 0 z2 l3 z7 z10 s11 l12 z14 z15 s16 s17 s18 l19 l20 z21 z22 l24 z34 l35 s40 s41 z43 s44 l45 z46 s47 l49 l50 l51 l52 z53 l55 z62 l63 b65=some r1:=h
  rw[L27_10]at h
  cases h
 replace h:L27_10 (m10+1) z2 l3 z7 z10 s11 l12 z14 z15 s16 s17 s18 l19 l20 z21 z22 l24 z34 l35 s40 s41 z43 s44 l45 z46 s47 l49 l50 l51 l52 z53 l55 z62 l63 b65=some r1:=h
 rw[L27_10]at h
 try cbv
 cases b65
 rotate_left
 ·replace h:=ite_t rfl h
  try cbv
  refine seq_go ?_
  try cbv
  replace h:=needF_inv h
  obtain⟨hn,h⟩:=h
  refine⟨(M.lock_iff _).2 hn,?_⟩
  clear hn
  try cbv
  refine⟨[],?_⟩
  try cbv
  replace h:=getN_inv h
  obtain⟨x66,hx,h⟩:=h
  replace h:=ds_str_inv h
  obtain⟨s67,rfl,h⟩:=h
  refine⟨_,hx,?_⟩
  clear hx
  try cbv
  replace h:=letF_inv h
  obtain⟨z68,hz,h⟩:=h
  refine⟨z68,hz,?_⟩
  clear hz
  try cbv
  replace h:=setF_inv h
  obtain⟨l69,hl69,h⟩:=h
  refine loop_nextG (m10,(z68,l69)) [.close (.loc 969)] [] [1,2,3,4,5,6,7,8] [.ext 0,.loc 0,.loc 384,.loc 354,.loc 357,.loc 358,.loc 963,.loc 966,.loc 969,.loc 970,.loc 971,.loc 972,.loc 973,.loc 364,.loc 365,.loc 992] 1280 ⟨by omega,h⟩ (Nat.lt_succ_of_le (by omega)) ?_
  try cbv
  refine⟨l69,hl69,?_⟩
  clear hl69
  try cbv
  first | done | exact rfl | cbv
 replace h:=ite_f Bool.false_ne_true h
 try cbv
 refine seq_go ?_
 try cbv
 refine seq_go ?_
 try cbv
 refine loop_invG (T:=Nat×Int×List D) [] [] [1,2,3,4,5,6,7,8,9] [.ext 0,.loc 0,.loc 384,.loc 354,.loc 357,.loc 358,.loc 963,.loc 966,.loc 969,.loc 970,.loc 971,.loc 972,.loc 973,.loc 364,.loc 365,.loc 992] 1504 (fun t=>⟨[(1,.v (.c (.ptr (.loc 0) 0))),(2,.v (.d (.int .i64 z2))),(3,.v (.c (.ptr (.loc 384) 0))),(4,.v (.d (.int .i64 z23))),(5,.v (.d (.int .i64 z34))),(6,.v (.c (.ptr (.loc 992) 0))),(7,.v (.d (.int .i64 z54))),(8,.v (.d (.int .i64 z62))),(9,.v (.d (.int .i64 t.2.1)))],[(.ext 0,.tree .row true 16 l3 (some (z2.toNat,[.d (.int .u8 z7),.d (.str s8),.ow (.loc 354),.d (.int .u8 z10),.d (.str s11),.ow (.loc 357),.ow (.loc 358),.d (.int .u8 z14),.d (.int .i64 z15),.d (.str s16),.d (.str s17),.d (.str s18),.ow (.loc 364),.ow (.loc 365),.d (.int .i64 z21),.d (.int .i64 z22)]))),(.loc 0,.cells [.ow (.ext 0)]),(.loc 384,.cells [.d (.int .u8 z7),.d (.str s8),.ow (.loc 354),.d (.int .u8 z10),.d (.str s11),.ow (.loc 357),.ow (.loc 358),.d (.int .u8 z14),.d (.int .i64 z15),.d (.str s16),.d (.str s17),.d (.str s18),.ow (.loc 364),.ow (.loc 365),.d (.int .i64 z21),.d (.int .i64 z22)]),(.loc 354,.tree .row true 4 l24 none),(.loc 357,.tree .row true 3 l12 none),(.loc 358,.tree .row true 15 l35 (some (z34.toNat,[.d (.int .u8 z39),.d (.str s40),.d (.str s41),.ow (.loc 963),.d (.int .u8 z43),.d (.str s44),.ow (.loc 966),.d (.int .i64 z46),.d (.str s47),.ow (.loc 969),.ow (.loc 970),.ow (.loc 971),.ow (.loc 972),.ow (.loc 973),.d (.int .i64 z53)]))),(.loc 963,.tree .row false 1 l55 none),(.loc 966,.tree .row true 3 l45 none),(.loc 969,.tree .row false 1 l63 none),(.loc 970,.tree .row true 8 t.2.2 none),(.loc 971,.tree .row true 15 l50 none),(.loc 972,.tree .row true 15 l51 none),(.loc 973,.tree .row true 3 l52 none),(.loc 364,.tree .row false 1 l19 none),(.loc 365,.tree .row true 8 l20 none),(.loc 992,.cells [.d (.int .u8 z39),.d (.str s40),.d (.str s41),.ow (.loc 963),.d (.int .u8 z43),.d (.str s44),.ow (.loc 966),.d (.int .i64 z46),.d (.str s47),.ow (.loc 969),.ow (.loc 970),.ow (.loc 971),.ow (.loc 972),.ow (.loc 973),.d (.int .i64 z53)])],1504⟩)
   (fun t=>t.1≤m10∧L27_11 t.1 z2 l3 z7 z10 s11 l12 z14 z15 s16 s17 s18 l19 l20 z21 z22 l24 z34 l35 s40 s41 z43 s44 l45 z46 s47 l50 l51 l52 z53 l55 l63 t.2.1 t.2.2=some r1) (fun t=>t.1) (m10,((0:Int),l49)) ⟨Nat.le_refl _,h⟩ (by cbv) ?_
 clear h
 rintro⟨m11,z70,l71⟩ ⟨hm11,h⟩
 replace hm11:m11≤m10:=hm11
 obtain _ | m11:=m11
 ·replace h:L27_11 0 z2 l3 z7 z10 s11 l12 z14 z15 s16 s17 s18 l19 l20 z21 z22 l24 z34 l35 s40 s41 z43 s44 l45 z46 s47 l50 l51 l52 z53 l55 l63 z70 l71=some r1:=h
  rw[L27_11]at h
  cases h
 replace h:L27_11 (m11+1) z2 l3 z7 z10 s11 l12 z14 z15 s16 s17 s18 l19 l20 z21 z22 l24 z34 l35 s40 s41 z43 s44 l45 z46 s47 l50 l51 l52 z53 l55 l63 z70 l71=some r1:=h
 rw[L27_11]at h
 try cbv
 refine seq_go ?_
 try cbv
 refine seq_join (T:=Nat×Bool) (fun t=>⟨[(1,.v (.c (.ptr (.loc 0) 0))),(2,.v (.d (.int .i64 z2))),(3,.v (.c (.ptr (.loc 384) 0))),(4,.v (.d (.int .i64 z23))),(5,.v (.d (.int .i64 z34))),(6,.v (.c (.ptr (.loc 992) 0))),(7,.v (.d (.int .i64 z54))),(8,.v (.d (.int .i64 z62))),(9,.v (.d (.int .i64 z70))),(78,.v (.d (.bool t.2)))],[(.ext 0,.tree .row true 16 l3 (some (z2.toNat,[.d (.int .u8 z7),.d (.str s8),.ow (.loc 354),.d (.int .u8 z10),.d (.str s11),.ow (.loc 357),.ow (.loc 358),.d (.int .u8 z14),.d (.int .i64 z15),.d (.str s16),.d (.str s17),.d (.str s18),.ow (.loc 364),.ow (.loc 365),.d (.int .i64 z21),.d (.int .i64 z22)]))),(.loc 0,.cells [.ow (.ext 0)]),(.loc 384,.cells [.d (.int .u8 z7),.d (.str s8),.ow (.loc 354),.d (.int .u8 z10),.d (.str s11),.ow (.loc 357),.ow (.loc 358),.d (.int .u8 z14),.d (.int .i64 z15),.d (.str s16),.d (.str s17),.d (.str s18),.ow (.loc 364),.ow (.loc 365),.d (.int .i64 z21),.d (.int .i64 z22)]),(.loc 354,.tree .row true 4 l24 none),(.loc 357,.tree .row true 3 l12 none),(.loc 358,.tree .row true 15 l35 (some (z34.toNat,[.d (.int .u8 z39),.d (.str s40),.d (.str s41),.ow (.loc 963),.d (.int .u8 z43),.d (.str s44),.ow (.loc 966),.d (.int .i64 z46),.d (.str s47),.ow (.loc 969),.ow (.loc 970),.ow (.loc 971),.ow (.loc 972),.ow (.loc 973),.d (.int .i64 z53)]))),(.loc 963,.tree .row false 1 l55 none),(.loc 966,.tree .row true 3 l45 none),(.loc 969,.tree .row false 1 l63 none),(.loc 970,.tree .row true 8 l71 none),(.loc 971,.tree .row true 15 l50 none),(.loc 972,.tree .row true 15 l51 none),(.loc 973,.tree .row true 3 l52 none),(.loc 364,.tree .row false 1 l19 none),(.loc 365,.tree .row true 8 l20 none),(.loc 992,.cells [.d (.int .u8 z39),.d (.str s40),.d (.str s41),.ow (.loc 963),.d (.int .u8 z43),.d (.str s44),.ow (.loc 966),.d (.int .i64 z46),.d (.str s47),.ow (.loc 969),.ow (.loc 970),.ow (.loc 971),.ow (.loc 972),.ow (.loc 973),.d (.int .i64 z53)])],1664⟩) (fun t=>t.1≤m11∧L27_12 t.1 z2 l3 z7 z10 s11 l12 z14 z15 s16 s17 s18 l19 l20 z21 z22 l24 z34 l35 s40 s41 z43 s44 l45 z46 s47 l50 l51 l52 z53 l55 l63 z70 l71 t.2=some r1) ?_ ?_
 ·try cbv
  replace h:=lenF_inv M h
  obtain⟨z72,hz,h⟩:=h
  refine⟨false,?_⟩
  try cbv
  refine⟨z72,hz,?_⟩
  clear hz
  try cbv
  refine splitL (fun e=>?_) (fun e=>?_)
  ·replace h:=ite_t e h
   clear e
   try cbv
   exact join_next (m11,true) [1,2,3,4,5,6,7,8,9,78] [.ext 0,.loc 0,.loc 384,.loc 354,.loc 357,.loc 358,.loc 963,.loc 966,.loc 969,.loc 970,.loc 971,.loc 972,.loc 973,.loc 364,.loc 365,.loc 992] 1664 ⟨by omega,h⟩ (by cbv)
  replace h:=ite_f (Int.not_lt.2 e) h
  clear e
  try cbv
  exact join_next (m11,false) [1,2,3,4,5,6,7,8,9,78] [.ext 0,.loc 0,.loc 384,.loc 354,.loc 357,.loc 358,.loc 963,.loc 966,.loc 969,.loc 970,.loc 971,.loc 972,.loc 973,.loc 364,.loc 365,.loc 992] 1664 ⟨by omega,h⟩ (by cbv)
 clear h
 rintro⟨m12,b73⟩ ⟨hm12,h⟩
 replace hm12:m12≤m11:=hm12
 obtain _ | m12:=m12
 ·replace h:L27_12 0 z2 l3 z7 z10 s11 l12 z14 z15 s16 s17 s18 l19 l20 z21 z22 l24 z34 l35 s40 s41 z43 s44 l45 z46 s47 l50 l51 l52 z53 l55 l63 z70 l71 b73=some r1:=h
  rw[L27_12]at h
  cases h
 replace h:L27_12 (m12+1) z2 l3 z7 z10 s11 l12 z14 z15 s16 s17 s18 l19 l20 z21 z22 l24 z34 l35 s40 s41 z43 s44 l45 z46 s47 l50 l51 l52 z53 l55 l63 z70 l71 b73=some r1:=h
 rw[L27_12]at h
 try cbv
 cases b73
 rotate_left
 ·replace h:=ite_t rfl h
  try cbv
  refine seq_go ?_
  try cbv
  replace h:=needF_inv h
  obtain⟨hn,h⟩:=h
  refine⟨(M.lock_iff _).2 hn,?_⟩
  clear hn
  try cbv
  refine⟨[],?_⟩
  try cbv
  replace h:=getN_inv h
  obtain⟨x74,hx,h⟩:=h
  replace h:=ds_t33_inv h
  obtain⟨z75,z76,s77,s78,s79,l80,l81,z82,rfl,h⟩:=h
  refine⟨_,hx,?_⟩
  clear hx
  try cbv
  replace h:=letF_inv h
  obtain⟨z83,hz,h⟩:=h
  refine⟨z83,hz,?_⟩
  clear hz
  try cbv
  replace h:=setF_inv h
  obtain⟨l84,hl84,h⟩:=h
  refine loop_nextG (m12,(z83,l84)) [.close (.loc 970)] [] [1,2,3,4,5,6,7,8,9] [.ext 0,.loc 0,.loc 384,.loc 354,.loc 357,.loc 358,.loc 963,.loc 966,.loc 969,.loc 970,.loc 971,.loc 972,.loc 973,.loc 364,.loc 365,.loc 992] 1504 ⟨by omega,h⟩ (Nat.lt_succ_of_le (by omega)) ?_
  try cbv
  refine⟨l84,hl84,?_⟩
  clear hl84
  try cbv
  first | done | exact rfl | cbv
 replace h:=ite_f Bool.false_ne_true h
 try cbv
 refine seq_go ?_
 try cbv
 refine seq_go ?_
 try cbv
 refine loop_invG (T:=Nat×Int×List D) [] [] [1,2,3,4,5,6,7,8,9,10] [.ext 0,.loc 0,.loc 384,.loc 354,.loc 357,.loc 358,.loc 963,.loc 966,.loc 969,.loc 970,.loc 971,.loc 972,.loc 973,.loc 364,.loc 365,.loc 992] 1696 (fun t=>⟨[(1,.v (.c (.ptr (.loc 0) 0))),(2,.v (.d (.int .i64 z2))),(3,.v (.c (.ptr (.loc 384) 0))),(4,.v (.d (.int .i64 z23))),(5,.v (.d (.int .i64 z34))),(6,.v (.c (.ptr (.loc 992) 0))),(7,.v (.d (.int .i64 z54))),(8,.v (.d (.int .i64 z62))),(9,.v (.d (.int .i64 z70))),(10,.v (.d (.int .i64 t.2.1)))],[(.ext 0,.tree .row true 16 l3 (some (z2.toNat,[.d (.int .u8 z7),.d (.str s8),.ow (.loc 354),.d (.int .u8 z10),.d (.str s11),.ow (.loc 357),.ow (.loc 358),.d (.int .u8 z14),.d (.int .i64 z15),.d (.str s16),.d (.str s17),.d (.str s18),.ow (.loc 364),.ow (.loc 365),.d (.int .i64 z21),.d (.int .i64 z22)]))),(.loc 0,.cells [.ow (.ext 0)]),(.loc 384,.cells [.d (.int .u8 z7),.d (.str s8),.ow (.loc 354),.d (.int .u8 z10),.d (.str s11),.ow (.loc 357),.ow (.loc 358),.d (.int .u8 z14),.d (.int .i64 z15),.d (.str s16),.d (.str s17),.d (.str s18),.ow (.loc 364),.ow (.loc 365),.d (.int .i64 z21),.d (.int .i64 z22)]),(.loc 354,.tree .row true 4 l24 none),(.loc 357,.tree .row true 3 l12 none),(.loc 358,.tree .row true 15 l35 (some (z34.toNat,[.d (.int .u8 z39),.d (.str s40),.d (.str s41),.ow (.loc 963),.d (.int .u8 z43),.d (.str s44),.ow (.loc 966),.d (.int .i64 z46),.d (.str s47),.ow (.loc 969),.ow (.loc 970),.ow (.loc 971),.ow (.loc 972),.ow (.loc 973),.d (.int .i64 z53)]))),(.loc 963,.tree .row false 1 l55 none),(.loc 966,.tree .row true 3 l45 none),(.loc 969,.tree .row false 1 l63 none),(.loc 970,.tree .row true 8 l71 none),(.loc 971,.tree .row true 15 t.2.2 none),(.loc 972,.tree .row true 15 l51 none),(.loc 973,.tree .row true 3 l52 none),(.loc 364,.tree .row false 1 l19 none),(.loc 365,.tree .row true 8 l20 none),(.loc 992,.cells [.d (.int .u8 z39),.d (.str s40),.d (.str s41),.ow (.loc 963),.d (.int .u8 z43),.d (.str s44),.ow (.loc 966),.d (.int .i64 z46),.d (.str s47),.ow (.loc 969),.ow (.loc 970),.ow (.loc 971),.ow (.loc 972),.ow (.loc 973),.d (.int .i64 z53)])],1696⟩)
   (fun t=>t.1≤m12∧L27_13 t.1 z2 l3 z7 z10 s11 l12 z14 z15 s16 s17 s18 l19 l20 z21 z22 l24 z34 l35 s40 s41 z43 s44 l45 z46 s47 l51 l52 z53 l55 l63 l71 t.2.1 t.2.2=some r1) (fun t=>t.1) (m12,((0:Int),l50)) ⟨Nat.le_refl _,h⟩ (by cbv) ?_
 clear h
 rintro⟨m13,z85,l86⟩ ⟨hm13,h⟩
 replace hm13:m13≤m12:=hm13
 obtain _ | m13:=m13
 ·replace h:L27_13 0 z2 l3 z7 z10 s11 l12 z14 z15 s16 s17 s18 l19 l20 z21 z22 l24 z34 l35 s40 s41 z43 s44 l45 z46 s47 l51 l52 z53 l55 l63 l71 z85 l86=some r1:=h
  rw[L27_13]at h
  cases h
 replace h:L27_13 (m13+1) z2 l3 z7 z10 s11 l12 z14 z15 s16 s17 s18 l19 l20 z21 z22 l24 z34 l35 s40 s41 z43 s44 l45 z46 s47 l51 l52 z53 l55 l63 l71 z85 l86=some r1:=h
 rw[L27_13]at h
 try cbv
 refine seq_go ?_
 try cbv
 refine seq_join (T:=Nat×Bool) (fun t=>⟨[(1,.v (.c (.ptr (.loc 0) 0))),(2,.v (.d (.int .i64 z2))),(3,.v (.c (.ptr (.loc 384) 0))),(4,.v (.d (.int .i64 z23))),(5,.v (.d (.int .i64 z34))),(6,.v (.c (.ptr (.loc 992) 0))),(7,.v (.d (.int .i64 z54))),(8,.v (.d (.int .i64 z62))),(9,.v (.d (.int .i64 z70))),(10,.v (.d (.int .i64 z85))),(90,.v (.d (.bool t.2)))],[(.ext 0,.tree .row true 16 l3 (some (z2.toNat,[.d (.int .u8 z7),.d (.str s8),.ow (.loc 354),.d (.int .u8 z10),.d (.str s11),.ow (.loc 357),.ow (.loc 358),.d (.int .u8 z14),.d (.int .i64 z15),.d (.str s16),.d (.str s17),.d (.str s18),.ow (.loc 364),.ow (.loc 365),.d (.int .i64 z21),.d (.int .i64 z22)]))),(.loc 0,.cells [.ow (.ext 0)]),(.loc 384,.cells [.d (.int .u8 z7),.d (.str s8),.ow (.loc 354),.d (.int .u8 z10),.d (.str s11),.ow (.loc 357),.ow (.loc 358),.d (.int .u8 z14),.d (.int .i64 z15),.d (.str s16),.d (.str s17),.d (.str s18),.ow (.loc 364),.ow (.loc 365),.d (.int .i64 z21),.d (.int .i64 z22)]),(.loc 354,.tree .row true 4 l24 none),(.loc 357,.tree .row true 3 l12 none),(.loc 358,.tree .row true 15 l35 (some (z34.toNat,[.d (.int .u8 z39),.d (.str s40),.d (.str s41),.ow (.loc 963),.d (.int .u8 z43),.d (.str s44),.ow (.loc 966),.d (.int .i64 z46),.d (.str s47),.ow (.loc 969),.ow (.loc 970),.ow (.loc 971),.ow (.loc 972),.ow (.loc 973),.d (.int .i64 z53)]))),(.loc 963,.tree .row false 1 l55 none),(.loc 966,.tree .row true 3 l45 none),(.loc 969,.tree .row false 1 l63 none),(.loc 970,.tree .row true 8 l71 none),(.loc 971,.tree .row true 15 l86 none),(.loc 972,.tree .row true 15 l51 none),(.loc 973,.tree .row true 3 l52 none),(.loc 364,.tree .row false 1 l19 none),(.loc 365,.tree .row true 8 l20 none),(.loc 992,.cells [.d (.int .u8 z39),.d (.str s40),.d (.str s41),.ow (.loc 963),.d (.int .u8 z43),.d (.str s44),.ow (.loc 966),.d (.int .i64 z46),.d (.str s47),.ow (.loc 969),.ow (.loc 970),.ow (.loc 971),.ow (.loc 972),.ow (.loc 973),.d (.int .i64 z53)])],1856⟩) (fun t=>t.1≤m13∧L27_14 t.1 z2 l3 z7 z10 s11 l12 z14 z15 s16 s17 s18 l19 l20 z21 z22 l24 z34 l35 s40 s41 z43 s44 l45 z46 s47 l51 l52 z53 l55 l63 l71 z85 l86 t.2=some r1) ?_ ?_
 ·try cbv
  replace h:=lenF_inv M h
  obtain⟨z87,hz,h⟩:=h
  refine⟨false,?_⟩
  try cbv
  refine⟨z87,hz,?_⟩
  clear hz
  try cbv
  refine splitL (fun e=>?_) (fun e=>?_)
  ·replace h:=ite_t e h
   clear e
   try cbv
   exact join_next (m13,true) [1,2,3,4,5,6,7,8,9,10,90] [.ext 0,.loc 0,.loc 384,.loc 354,.loc 357,.loc 358,.loc 963,.loc 966,.loc 969,.loc 970,.loc 971,.loc 972,.loc 973,.loc 364,.loc 365,.loc 992] 1856 ⟨by omega,h⟩ (by cbv)
  replace h:=ite_f (Int.not_lt.2 e) h
  clear e
  try cbv
  exact join_next (m13,false) [1,2,3,4,5,6,7,8,9,10,90] [.ext 0,.loc 0,.loc 384,.loc 354,.loc 357,.loc 358,.loc 963,.loc 966,.loc 969,.loc 970,.loc 971,.loc 972,.loc 973,.loc 364,.loc 365,.loc 992] 1856 ⟨by omega,h⟩ (by cbv)
 clear h
 rintro⟨m14,b88⟩ ⟨hm14,h⟩
 replace hm14:m14≤m13:=hm14
 obtain _ | m14:=m14
 ·replace h:L27_14 0 z2 l3 z7 z10 s11 l12 z14 z15 s16 s17 s18 l19 l20 z21 z22 l24 z34 l35 s40 s41 z43 s44 l45 z46 s47 l51 l52 z53 l55 l63 l71 z85 l86 b88=some r1:=h
  rw[L27_14]at h
  cases h
 replace h:L27_14 (m14+1) z2 l3 z7 z10 s11 l12 z14 z15 s16 s17 s18 l19 l20 z21 z22 l24 z34 l35 s40 s41 z43 s44 l45 z46 s47 l51 l52 z53 l55 l63 l71 z85 l86 b88=some r1:=h
 rw[L27_14]at h
 try cbv
 cases b88
 rotate_left
 ·replace h:=ite_t rfl h
  try cbv
  refine seq_go ?_
  try cbv
  replace h:=needF_inv h
  obtain⟨hn,h⟩:=h
  refine⟨(M.lock_iff _).2 hn,?_⟩
  clear hn
  try cbv
  refine⟨[],?_⟩
  try cbv
  replace h:=getN_inv h
  obtain⟨x89,hx,h⟩:=h
  replace h:=ds_t152_inv h
  obtain⟨z90,s91,s92,l93,z94,s95,l96,z97,s98,l99,l100,l101,l102,l103,z104,rfl,h⟩:=h
  refine⟨_,hx,?_⟩
  clear hx
  try cbv
  replace h:=letF_inv h
  obtain⟨z105,hz,h⟩:=h
  refine⟨z105,hz,?_⟩
  clear hz
  try cbv
  replace h:=setF_inv h
  obtain⟨l106,hl106,h⟩:=h
  refine loop_nextG (m14,(z105,l106)) [.close (.loc 971)] [] [1,2,3,4,5,6,7,8,9,10] [.ext 0,.loc 0,.loc 384,.loc 354,.loc 357,.loc 358,.loc 963,.loc 966,.loc 969,.loc 970,.loc 971,.loc 972,.loc 973,.loc 364,.loc 365,.loc 992] 1696 ⟨by omega,h⟩ (Nat.lt_succ_of_le (by omega)) ?_
  try cbv
  refine⟨l106,hl106,?_⟩
  clear hl106
  try cbv
  first | done | exact rfl | cbv
 replace h:=ite_f Bool.false_ne_true h
 try cbv
 refine seq_go ?_
 try cbv
 refine seq_go ?_
 try cbv
 refine loop_invG (T:=Nat×Int×List D) [] [] [1,2,3,4,5,6,7,8,9,10,11] [.ext 0,.loc 0,.loc 384,.loc 354,.loc 357,.loc 358,.loc 963,.loc 966,.loc 969,.loc 970,.loc 971,.loc 972,.loc 973,.loc 364,.loc 365,.loc 992] 1888 (fun t=>⟨[(1,.v (.c (.ptr (.loc 0) 0))),(2,.v (.d (.int .i64 z2))),(3,.v (.c (.ptr (.loc 384) 0))),(4,.v (.d (.int .i64 z23))),(5,.v (.d (.int .i64 z34))),(6,.v (.c (.ptr (.loc 992) 0))),(7,.v (.d (.int .i64 z54))),(8,.v (.d (.int .i64 z62))),(9,.v (.d (.int .i64 z70))),(10,.v (.d (.int .i64 z85))),(11,.v (.d (.int .i64 t.2.1)))],[(.ext 0,.tree .row true 16 l3 (some (z2.toNat,[.d (.int .u8 z7),.d (.str s8),.ow (.loc 354),.d (.int .u8 z10),.d (.str s11),.ow (.loc 357),.ow (.loc 358),.d (.int .u8 z14),.d (.int .i64 z15),.d (.str s16),.d (.str s17),.d (.str s18),.ow (.loc 364),.ow (.loc 365),.d (.int .i64 z21),.d (.int .i64 z22)]))),(.loc 0,.cells [.ow (.ext 0)]),(.loc 384,.cells [.d (.int .u8 z7),.d (.str s8),.ow (.loc 354),.d (.int .u8 z10),.d (.str s11),.ow (.loc 357),.ow (.loc 358),.d (.int .u8 z14),.d (.int .i64 z15),.d (.str s16),.d (.str s17),.d (.str s18),.ow (.loc 364),.ow (.loc 365),.d (.int .i64 z21),.d (.int .i64 z22)]),(.loc 354,.tree .row true 4 l24 none),(.loc 357,.tree .row true 3 l12 none),(.loc 358,.tree .row true 15 l35 (some (z34.toNat,[.d (.int .u8 z39),.d (.str s40),.d (.str s41),.ow (.loc 963),.d (.int .u8 z43),.d (.str s44),.ow (.loc 966),.d (.int .i64 z46),.d (.str s47),.ow (.loc 969),.ow (.loc 970),.ow (.loc 971),.ow (.loc 972),.ow (.loc 973),.d (.int .i64 z53)]))),(.loc 963,.tree .row false 1 l55 none),(.loc 966,.tree .row true 3 l45 none),(.loc 969,.tree .row false 1 l63 none),(.loc 970,.tree .row true 8 l71 none),(.loc 971,.tree .row true 15 l86 none),(.loc 972,.tree .row true 15 l51 none),(.loc 973,.tree .row true 3 t.2.2 none),(.loc 364,.tree .row false 1 l19 none),(.loc 365,.tree .row true 8 l20 none),(.loc 992,.cells [.d (.int .u8 z39),.d (.str s40),.d (.str s41),.ow (.loc 963),.d (.int .u8 z43),.d (.str s44),.ow (.loc 966),.d (.int .i64 z46),.d (.str s47),.ow (.loc 969),.ow (.loc 970),.ow (.loc 971),.ow (.loc 972),.ow (.loc 973),.d (.int .i64 z53)])],1888⟩)
   (fun t=>t.1≤m14∧L27_15 t.1 z2 l3 z7 z10 s11 l12 z14 z15 s16 s17 s18 l19 l20 z21 z22 l24 z34 l35 s40 s41 z43 s44 l45 z46 s47 l51 z53 l55 l63 l71 l86 t.2.1 t.2.2=some r1) (fun t=>t.1) (m14,((0:Int),l52)) ⟨Nat.le_refl _,h⟩ (by cbv) ?_
 clear h
 rintro⟨m15,z107,l108⟩ ⟨hm15,h⟩
 replace hm15:m15≤m14:=hm15
 obtain _ | m15:=m15
 ·replace h:L27_15 0 z2 l3 z7 z10 s11 l12 z14 z15 s16 s17 s18 l19 l20 z21 z22 l24 z34 l35 s40 s41 z43 s44 l45 z46 s47 l51 z53 l55 l63 l71 l86 z107 l108=some r1:=h
  rw[L27_15]at h
  cases h
 replace h:L27_15 (m15+1) z2 l3 z7 z10 s11 l12 z14 z15 s16 s17 s18 l19 l20 z21 z22 l24 z34 l35 s40 s41 z43 s44 l45 z46 s47 l51 z53 l55 l63 l71 l86 z107 l108=some r1:=h
 rw[L27_15]at h
 try cbv
 refine seq_go ?_
 try cbv
 refine seq_join (T:=Nat×Bool) (fun t=>⟨[(1,.v (.c (.ptr (.loc 0) 0))),(2,.v (.d (.int .i64 z2))),(3,.v (.c (.ptr (.loc 384) 0))),(4,.v (.d (.int .i64 z23))),(5,.v (.d (.int .i64 z34))),(6,.v (.c (.ptr (.loc 992) 0))),(7,.v (.d (.int .i64 z54))),(8,.v (.d (.int .i64 z62))),(9,.v (.d (.int .i64 z70))),(10,.v (.d (.int .i64 z85))),(11,.v (.d (.int .i64 z107))),(102,.v (.d (.bool t.2)))],[(.ext 0,.tree .row true 16 l3 (some (z2.toNat,[.d (.int .u8 z7),.d (.str s8),.ow (.loc 354),.d (.int .u8 z10),.d (.str s11),.ow (.loc 357),.ow (.loc 358),.d (.int .u8 z14),.d (.int .i64 z15),.d (.str s16),.d (.str s17),.d (.str s18),.ow (.loc 364),.ow (.loc 365),.d (.int .i64 z21),.d (.int .i64 z22)]))),(.loc 0,.cells [.ow (.ext 0)]),(.loc 384,.cells [.d (.int .u8 z7),.d (.str s8),.ow (.loc 354),.d (.int .u8 z10),.d (.str s11),.ow (.loc 357),.ow (.loc 358),.d (.int .u8 z14),.d (.int .i64 z15),.d (.str s16),.d (.str s17),.d (.str s18),.ow (.loc 364),.ow (.loc 365),.d (.int .i64 z21),.d (.int .i64 z22)]),(.loc 354,.tree .row true 4 l24 none),(.loc 357,.tree .row true 3 l12 none),(.loc 358,.tree .row true 15 l35 (some (z34.toNat,[.d (.int .u8 z39),.d (.str s40),.d (.str s41),.ow (.loc 963),.d (.int .u8 z43),.d (.str s44),.ow (.loc 966),.d (.int .i64 z46),.d (.str s47),.ow (.loc 969),.ow (.loc 970),.ow (.loc 971),.ow (.loc 972),.ow (.loc 973),.d (.int .i64 z53)]))),(.loc 963,.tree .row false 1 l55 none),(.loc 966,.tree .row true 3 l45 none),(.loc 969,.tree .row false 1 l63 none),(.loc 970,.tree .row true 8 l71 none),(.loc 971,.tree .row true 15 l86 none),(.loc 972,.tree .row true 15 l51 none),(.loc 973,.tree .row true 3 l108 none),(.loc 364,.tree .row false 1 l19 none),(.loc 365,.tree .row true 8 l20 none),(.loc 992,.cells [.d (.int .u8 z39),.d (.str s40),.d (.str s41),.ow (.loc 963),.d (.int .u8 z43),.d (.str s44),.ow (.loc 966),.d (.int .i64 z46),.d (.str s47),.ow (.loc 969),.ow (.loc 970),.ow (.loc 971),.ow (.loc 972),.ow (.loc 973),.d (.int .i64 z53)])],2048⟩) (fun t=>t.1≤m15∧L27_16 t.1 z2 l3 z7 z10 s11 l12 z14 z15 s16 s17 s18 l19 l20 z21 z22 l24 z34 l35 s40 s41 z43 s44 l45 z46 s47 l51 z53 l55 l63 l71 l86 z107 l108 t.2=some r1) ?_ ?_
 ·try cbv
  replace h:=lenF_inv M h
  obtain⟨z109,hz,h⟩:=h
  refine⟨false,?_⟩
  try cbv
  refine⟨z109,hz,?_⟩
  clear hz
  try cbv
  refine splitL (fun e=>?_) (fun e=>?_)
  ·replace h:=ite_t e h
   clear e
   try cbv
   exact join_next (m15,true) [1,2,3,4,5,6,7,8,9,10,11,102] [.ext 0,.loc 0,.loc 384,.loc 354,.loc 357,.loc 358,.loc 963,.loc 966,.loc 969,.loc 970,.loc 971,.loc 972,.loc 973,.loc 364,.loc 365,.loc 992] 2048 ⟨by omega,h⟩ (by cbv)
  replace h:=ite_f (Int.not_lt.2 e) h
  clear e
  try cbv
  exact join_next (m15,false) [1,2,3,4,5,6,7,8,9,10,11,102] [.ext 0,.loc 0,.loc 384,.loc 354,.loc 357,.loc 358,.loc 963,.loc 966,.loc 969,.loc 970,.loc 971,.loc 972,.loc 973,.loc 364,.loc 365,.loc 992] 2048 ⟨by omega,h⟩ (by cbv)
 clear h
 rintro⟨m16,b110⟩ ⟨hm16,h⟩
 replace hm16:m16≤m15:=hm16
 obtain _ | m16:=m16
 ·replace h:L27_16 0 z2 l3 z7 z10 s11 l12 z14 z15 s16 s17 s18 l19 l20 z21 z22 l24 z34 l35 s40 s41 z43 s44 l45 z46 s47 l51 z53 l55 l63 l71 l86 z107 l108 b110=some r1:=h
  rw[L27_16]at h
  cases h
 replace h:L27_16 (m16+1) z2 l3 z7 z10 s11 l12 z14 z15 s16 s17 s18 l19 l20 z21 z22 l24 z34 l35 s40 s41 z43 s44 l45 z46 s47 l51 z53 l55 l63 l71 l86 z107 l108 b110=some r1:=h
 rw[L27_16]at h
 try cbv
 cases b110
 ·replace h:=ite_f Bool.false_ne_true h
  try cbv
  replace h:=needF_inv h
  obtain⟨hn,h⟩:=h
  refine⟨(M.lock_iff _).2 hn,?_⟩
  clear hn
  try cbv
  refine⟨[],?_⟩
  try cbv
  first | refine⟨(rfl:(_:Nat)=_),?_⟩ | skip
  try cbv
  replace h:=letF_inv h
  obtain⟨z117,hz,h⟩:=h
  refine⟨z117,hz,?_⟩
  clear hz
  try cbv
  replace h:=setF_inv h
  obtain⟨l118,hl118,h⟩:=h
  refine loop_nextG (m16,(z117,l118)) [.close (.loc 358)] [] [1,2,3,4,5] [.ext 0,.loc 0,.loc 384,.loc 354,.loc 357,.loc 358,.loc 364,.loc 365] 672 ⟨by omega,h⟩ (Nat.lt_succ_of_le (by omega)) ?_
  try cbv
  refine⟨l118,hl118,?_⟩
  clear hl118
  try cbv
  first | done | exact rfl | cbv
 replace h:=ite_t rfl h
 try cbv
 refine seq_go ?_
 try cbv
 replace h:=needF_inv h
 obtain⟨hn,h⟩:=h
 refine⟨(M.lock_iff _).2 hn,?_⟩
 clear hn
 try cbv
 refine⟨[],?_⟩
 try cbv
 replace h:=getN_inv h
 obtain⟨x111,hx,h⟩:=h
 replace h:=ds_t154_inv h
 obtain⟨s112,s113,l114,rfl,h⟩:=h
 refine⟨_,hx,?_⟩
 clear hx
 try cbv
 replace h:=letF_inv h
 obtain⟨z115,hz,h⟩:=h
 refine⟨z115,hz,?_⟩
 clear hz
 try cbv
 replace h:=setF_inv h
 obtain⟨l116,hl116,h⟩:=h
 refine loop_nextG (m16,(z115,l116)) [.close (.loc 973)] [] [1,2,3,4,5,6,7,8,9,10,11] [.ext 0,.loc 0,.loc 384,.loc 354,.loc 357,.loc 358,.loc 963,.loc 966,.loc 969,.loc 970,.loc 971,.loc 972,.loc 973,.loc 364,.loc 365,.loc 992] 1888 ⟨by omega,h⟩ (Nat.lt_succ_of_le (by omega)) ?_
 try cbv
 refine⟨l116,hl116,?_⟩
 clear hl116
 try cbv
 first | done | exact rfl | cbv
def L4_1:Nat→(List D)→(List D)→(List D)→(List D)→Bool→Option (Bool)
 | 0,_,_,_,_,_=>none
 | n+1,l1,l3,l4,l5,b11=>
  (if b11=true then some false else bO1 (F27 n l4) fun l12=>bO1 (F27 n l5) fun l13=>bO1 (F19 n l1 l3 true) fun b14=>some b14)
def F4 (n:Nat) (l1:List D):Option (Bool):=
 bO1 (F15 n l1) fun b2=>(if b2=true then some true else bO1 (F24 n l1 true) fun l3=>bO1 (F25 n l1) fun l4=>bO1 (F26 n l1) fun l5=>bO1 (F19 n l4 l1 true) fun b6=>letB (!b6) fun b7=>(if b7=true then L4_1 n l1 l3 l4 l5 true else bO1 (F24 n l1 false) fun l8=>bO1 (F19 n l5 l8 true) fun b9=>letB (!b9) fun b10=>L4_1 n l1 l3 l4 l5 b10))
theorem T4 (n:Nat):∀⦃l1:List D⦄ ⦃r1:Bool⦄,F4 n l1=some r1→
    Trip Try.prog inv 4 [.d (.agg [.list true 16 l1])] [] (.v (.d (.bool r1))) [] []:=by
 intro l1 r1 h
 unfold F4 at h
 refine Trip.of tab_ok tab_one fol Try.func4 rfl (by kernel_rfl) rfl rfl rfl (fun M hM hI=>?_)
 try cbv
 refine seq_go ?_
 try cbv
 refine seq_go ?_
 try cbv
 refine seq_go ?_
 try cbv
 replace h:=bO1_inv h
 obtain⟨b2,hr,h⟩:=h
 refine call_go rfl rfl ?_
 try cbv
 refine call_pure hM hI (T15 _ hr) rfl ?_
 clear hr
 try cbv
 cases b2
 rotate_left
 ·replace h:=ite_t rfl h
  try cbv
  refine seq_go ?_
  try cbv
  obtain rfl:=Option.some.inj h
  refine fin_go ?_
  try cbv
  exact⟨[],rfl,rfl,trivial,trivial,trivial⟩
 replace h:=ite_f Bool.false_ne_true h
 try cbv
 refine seq_go ?_
 try cbv
 replace h:=bO1_inv h
 obtain⟨l3,hr,h⟩:=h
 refine call_go rfl rfl ?_
 try cbv
 refine call_pure hM hI (T24 _ hr) rfl ?_
 clear hr
 try cbv
 refine seq_go ?_
 try cbv
 replace h:=bO1_inv h
 obtain⟨l4,hr,h⟩:=h
 first | refine .inr (.inl ⟨[],?_⟩) | refine .inl ⟨[],?_⟩
 try cbv
 refine call_with hM hI [] (T25 _ hr) rfl (by simp) trivial trivial (by simp) ?_
 clear hr
 try cbv
 replace h:=bO1_inv h
 obtain⟨l5,hr,h⟩:=h
 first | refine .inr (.inl ⟨[],?_⟩) | refine .inl ⟨[],?_⟩
 try cbv
 refine call_with hM hI [] (T26 _ hr) rfl (by simp) trivial trivial (by simp) ?_
 clear hr
 try cbv
 refine drawn ?_ ?_
 ·show _=true
  kernel_rfl
 try cbv
 refine seq_go ?_
 try cbv
 refine seq_join (T:=Nat×Bool) (fun t=>⟨[(1,.v (.c (.ptr (.loc 0) 0))),(2,.v (.d (.bool false))),(3,.v (.c (.ptr (.loc 192) 0))),(4,.v (.c (.ptr (.loc 384) 0))),(5,.v (.c (.ptr (.loc 416) 0))),(24,.v (.d (.bool t.2)))],[(.loc 0,.cells [.d (.list true 16 l1)]),(.loc 192,.cells [.d (.list true 16 l3)]),(.loc 384,.cells [.ow (.loc 288)]),(.loc 288,.tree .row true 16 l4 none),(.loc 416,.cells [.ow (.loc 352)]),(.loc 352,.tree .row true 16 l5 none)],864⟩) (fun t=>t.1≤n∧L4_1 t.1 l1 l3 l4 l5 t.2=some r1) ?_ ?_
 ·try cbv
  replace h:=bO1_inv h
  obtain⟨b6,hr,h⟩:=h
  first | refine .inr (.inl ⟨[],?_⟩) | refine .inl ⟨[],?_⟩
  try cbv
  refine call_with hM hI [.loc 288] (Trip.lend (targs':=[.agg [.ow (.ext 0)],.d (.agg [.list true 16 l1]),.d (.bool true)]) (T19 _ hr) [.tree .row true 16 l4 none] rfl rfl rfl rfl rfl rfl) rfl (by simp) ⟨rfl,trivial⟩ ⟨trivial,trivial⟩ (by simp) ?_
  clear hr
  try cbv
  replace h:=letB_inv h
  obtain⟨b7,hz,h⟩:=h
  refine⟨b7,not_eq' hz,?_⟩
  clear hz
  try cbv
  cases b7
  rotate_left
  ·replace h:=ite_t rfl h
   try cbv
   refine drawn ?_ ?_
   ·show _=true
    kernel_rfl
   try cbv
   exact join_next (n,true) [1,2,3,4,5,24] [.loc 0,.loc 192,.loc 384,.loc 288,.loc 416,.loc 352] 864 ⟨by omega,h⟩ (by cbv)
  replace h:=ite_f Bool.false_ne_true h
  try cbv
  replace h:=bO1_inv h
  obtain⟨l8,hr,h⟩:=h
  first | refine .inr (.inl ⟨[],?_⟩) | refine .inl ⟨[],?_⟩
  try cbv
  refine call_pure hM hI (T24 _ hr) rfl ?_
  clear hr
  try cbv
  replace h:=bO1_inv h
  obtain⟨b9,hr,h⟩:=h
  first | refine .inr (.inl ⟨[],?_⟩) | refine .inl ⟨[],?_⟩
  try cbv
  refine call_with hM hI [.loc 352] (Trip.lend (targs':=[.agg [.ow (.ext 0)],.d (.agg [.list true 16 l8]),.d (.bool true)]) (T19 _ hr) [.tree .row true 16 l5 none] rfl rfl rfl rfl rfl rfl) rfl (by simp) ⟨rfl,trivial⟩ ⟨trivial,trivial⟩ (by simp) ?_
  clear hr
  try cbv
  replace h:=letB_inv h
  obtain⟨b10,hz,h⟩:=h
  refine⟨b10,not_eq' hz,?_⟩
  clear hz
  try cbv
  refine drawn ?_ ?_
  ·show _=true
   kernel_rfl
  try cbv
  exact join_next (n,b10) [1,2,3,4,5,24] [.loc 0,.loc 192,.loc 384,.loc 288,.loc 416,.loc 352] 864 ⟨by omega,h⟩ (by cbv)
 clear h
 rintro⟨m1,b11⟩ ⟨hm1,h⟩
 replace hm1:m1≤n:=hm1
 obtain _ | m1:=m1
 ·replace h:L4_1 0 l1 l3 l4 l5 b11=some r1:=h
  rw[L4_1]at h
  cases h
 replace h:L4_1 (m1+1) l1 l3 l4 l5 b11=some r1:=h
 rw[L4_1]at h
 try cbv
 cases b11
 rotate_left
 ·replace h:=ite_t rfl h
  try cbv
  refine seq_go ?_
  try cbv
  obtain rfl:=Option.some.inj h
  refine fin_go ?_
  try cbv
  exact⟨[],rfl,rfl,trivial,trivial,trivial⟩
 replace h:=ite_f Bool.false_ne_true h
 try cbv
 refine seq_go ?_
 try cbv
 replace h:=bO1_inv h
 obtain⟨l12,hr,h⟩:=h
 refine call_go rfl rfl ?_
 try cbv
 refine call_with hM hI [.loc 288] (T27 _ hr) rfl (by simp) ⟨rfl,trivial⟩ ⟨trivial,trivial⟩ (by simp) ?_
 clear hr
 try cbv
 refine seq_go ?_
 try cbv
 replace h:=bO1_inv h
 obtain⟨l13,hr,h⟩:=h
 refine call_go rfl rfl ?_
 try cbv
 refine call_with hM hI [.loc 352] (T27 _ hr) rfl (by simp) ⟨rfl,trivial⟩ ⟨trivial,trivial⟩ (by simp) ?_
 clear hr
 try cbv
 refine seq_go ?_
 try cbv
 replace h:=bO1_inv h
 obtain⟨b14,hr,h⟩:=h
 refine call_go rfl rfl ?_
 try cbv
 refine call_pure hM hI (T19 _ hr) rfl ?_
 clear hr
 try cbv
 obtain rfl:=Option.some.inj h
 refine fin_go ?_
 try cbv
 exact⟨[],rfl,rfl,trivial,trivial,trivial⟩
end Go.Proofs.Ytiiojajgajnhpaa
end
set_option linter.unusedVariables false
noncomputable section
namespace Go.Proofs.Ytiiojajgajnhpaa
open Go Go.AM
def SmF (l:List D):Prop:=l.length≤4000∧∀(s:ByteArray) (k:Int) (t:ByteArray) (m:List D),D.agg [.str s,.int .u8 k,.str t,.list true 3 m]∈l→SmT m
theorem room_fld {l:List D}(h:ListS tab 136 l):∀z:Int,-6≤z→z≤20000→∃r,Ev (fun n=>F69 n l z) r∧ -6≤r∧r≤20000∧(0≤r→r≤z∧SmF l):=by
 have loop:∀i:Nat,i≤l.length→∀z:Int,-6≤z→z≤20000→∃r,Ev (fun n=>L69_1 n l (i:Int) z) r∧ -6≤r∧r≤20000∧(0≤r→r+5*((l.length:Int) - (i:Int))≤z∧∀(j:Nat) (s:ByteArray) (k:Int) (t:ByteArray) (m:List D),i≤j→l[j]?=some (.agg [.str s,.int .u8 k,.str t,.list true 3 m])→SmT m):=by
  refine down l.length ?_ ?_
  ·intro z h1 h2
   refine⟨z,.succ ?_,h1,h2,fun _=>⟨by omega,fun j s k t m hj hx=>absurd (List.getElem?_eq_some_iff.1 hx).1 (by omega)⟩⟩
   simp only[L69_1,lenF,Int.lt_irrefl,if_false]
   exact .succ (by simp only[L69_2,Bool.false_eq_true,if_false];exact .ret)
  ·intro i hi ih z h1 h2
   by_cases c:(0:Int)≤z
   ·obtain⟨x,hx,hm,hr⟩:=h.get hi
    obtain⟨a0,a1,a2,a3,rfl,w0,w1,w2,w3⟩:=rs136 hr
    obtain⟨p1,p2,p3,p4,p5⟩:=room68 a0 z h1 h2
    obtain⟨u1,u2,u3,u4,u5⟩:=room_ty a3 w3 a1 a2 p1 (by omega) p4
    obtain⟨r,r1,r2,r3,r4⟩:=ih u1 u3 u4
    refine⟨r,.succ ?_,r2,r3,fun hr0=>?_⟩
    ·simp only[L69_1,lenF,if_pos (ilt hi),if_pos c]
     refine .succ ?_
     simp only[L69_2,if_true,getF_nat hx,ds_t136]
     refine Ev.bO1 p2 (Ev.bO1 u2 ?_)
     simp only[letF,wrap_succ hi h.1]
     exact r1
    ·obtain⟨x1,x2⟩:=r4 hr0
     obtain⟨u6,u7⟩:=u5 (by omega)
     have:=p5 (by omega)
     refine⟨by omega,fun j s k t m' hj hx'=>?_⟩
     by_cases e:j=i
     ·subst e;rw[hx]at hx';cases hx';exact u7
     ·exact x2 j s k t m' (by omega) hx'
   ·refine⟨z,.succ ?_,h1,h2,fun h=>absurd h c⟩
    simp only[L69_1,lenF,if_pos (ilt hi),if_neg c]
    exact .succ (by simp only[L69_2,Bool.false_eq_true,if_false];exact .ret)
 intro z h1 h2
 obtain⟨r,r1,r2,r3,r4⟩:=loop 0 (Nat.zero_le _) z h1 h2
 refine⟨r,(by unfold F69;exact r1),r2,r3,fun hr=>?_⟩
 obtain⟨x1,x2⟩:=r4 hr
 refine⟨by omega,by omega,fun s k t m hm=>?_⟩
 obtain⟨j,hj⟩:=List.getElem?_of_mem hm
 exact x2 j s k t m (Nat.zero_le _) hj
theorem great_ev {l:List D}(h:ListS tab 126 l):∃b,Ev (fun n=>F15 n l) b∧(b=false→l.length≤4000∧∀(a0:Int) (a1:ByteArray) (a2:List D) (a3:Int) (a4:ByteArray) (a5 a6:List D) (a7 a8:Int) (a9 a10 a11:ByteArray) (a12 a13:List D) (a14 a15:Int),D.agg [.int .u8 a0,.str a1,.list true 4 a2,.int .u8 a3,.str a4,.list true 3 a5,.list true 15 a6,.int .u8 a7,.int .i64 a8,.str a9,.str a10,.str a11,.list false 1 a12,.list true 8 a13,.int .i64 a14,.int .i64 a15]∈l→SmF a2∧SmT a5∧SmS a6∧a12.length≤4000∧SmE a13):=by
 have loop:∀i:Nat,i≤l.length→∀z:Int,-6≤z→z≤20000→∃b,Ev (fun n=>L15_1 n l (i:Int) z) b∧(b=false→5*((l.length:Int) - (i:Int))≤z∧∀(j:Nat) (a0:Int) (a1:ByteArray) (a2:List D) (a3:Int) (a4:ByteArray) (a5 a6:List D) (a7 a8:Int) (a9 a10 a11:ByteArray) (a12 a13:List D) (a14 a15:Int),i≤j→l[j]?=some (.agg [.int .u8 a0,.str a1,.list true 4 a2,.int .u8 a3,.str a4,.list true 3 a5,.list true 15 a6,.int .u8 a7,.int .i64 a8,.str a9,.str a10,.str a11,.list false 1 a12,.list true 8 a13,.int .i64 a14,.int .i64 a15])→SmF a2∧SmT a5∧SmS a6∧a12.length≤4000∧SmE a13):=by
  have t_end:∀(z2 z:Int),Ev (fun n=>L15_2 n l z2 z false) (decide (z<0)):=by
   intro z2 z
   refine .succ ?_
   simp only[L15_2,Bool.false_eq_true,if_false]
   by_cases c:z<0
   ·simp only[if_pos c,decide_eq_true c];exact .ret
   ·simp only[if_neg c,decide_eq_false c];exact .ret
  refine down l.length ?_ ?_
  ·intro z h1 h2
   refine⟨decide (z<0),.succ ?_,fun hb=>⟨by have:=of_decide_eq_false hb;omega,fun j _ _ _ _ _ _ _ _ _ _ _ _ _ _ _ _ hj hx=>absurd (List.getElem?_eq_some_iff.1 hx).1 (by omega)⟩⟩
   simp only[L15_1,lenF,Int.lt_irrefl,if_false]
   exact t_end _ _
  ·intro i hi ih z h1 h2
   by_cases c:(0:Int)≤z
   ·obtain⟨x,hx,hm,hr⟩:=h.get hi
    obtain⟨a0,a1,a2,a3,a4,a5,a6,a7,a8,a9,a10,a11,a12,a13,a14,a15,rfl,w0,w1,w2,w3,w4,w5,w6,w7,w8,w9,w10,w11,w12,w13,w14,w15⟩:=rs126 hr
    obtain⟨p1,p2,p3,p4,p5⟩:=room68 a1 z h1 h2
    obtain⟨q1,q2,q3,q4,q5⟩:=room_fld w2 p1 (by omega) p4
    obtain⟨u1,u2,u3,u4,u5⟩:=room_ty a5 w5 a3 a4 q1 q3 q4
    obtain⟨v1,v2,v3,v4,v5⟩:=room_st a6 w6 u1 u3 u4
    obtain⟨y1,y2,y3,y4,y5⟩:=room_ex1 a13 w13 a7 a8 a9 a10 a11 a12 a14 v1 w12 v3 v4
    obtain⟨b,b1,b2⟩:=ih y1 y3 y4
    refine⟨b,.succ ?_,fun hb=>?_⟩
    ·simp only[L15_1,lenF,if_pos (ilt hi),if_pos c]
     refine .succ ?_
     simp only[L15_2,if_true,getF_nat hx,ds_t126]
     refine Ev.bO1 p2 (Ev.bO1 q2 (Ev.bO1 u2 (Ev.bO1 v2 (Ev.bO1 y2 ?_))))
     simp only[letF,wrap_succ hi h.1]
     exact b1
    ·obtain⟨x1,x2⟩:=b2 hb
     obtain⟨g1,g1',g1''⟩:=y5 (by omega)
     obtain⟨g2,g3⟩:=v5 (by omega)
     obtain⟨g4,g4'⟩:=u5 (by omega)
     obtain⟨g5,g6⟩:=q5 (by omega)
     have g7:=p5 (by omega)
     refine⟨by omega,fun j _ _ _ _ _ _ _ _ _ _ _ _ _ _ _ _ hj hx'=>?_⟩
     by_cases e:j=i
     ·subst e;rw[hx]at hx';cases hx';exact⟨g6,g4',g3,g1',g1''⟩
     ·exact x2 j _ _ _ _ _ _ _ _ _ _ _ _ _ _ _ _ (by omega) hx'
   ·refine⟨decide (z<0),.succ ?_,fun hb=>absurd (of_decide_eq_false hb) (by omega)⟩
    simp only[L15_1,lenF,if_pos (ilt hi),if_neg c]
    exact t_end _ _
 obtain⟨b,b1,b2⟩:=loop 0 (Nat.zero_le _) 20000 (by omega) (by omega)
 refine⟨b,(by unfold F15;exact b1),fun hb=>⟨by have:=(b2 hb).1;omega,fun _ _ _ _ _ _ _ _ _ _ _ _ _ _ _ _ hx=>?_⟩⟩
 obtain⟨j,hj⟩:=List.getElem?_of_mem hx
 exact (b2 hb).2 j _ _ _ _ _ _ _ _ _ _ _ _ _ _ _ _ (Nat.zero_le _) hj
theorem fld_cp {l:List D}(h:ListS tab 136 l) (hs:SmF l):Ev (fun n=>F140 n l) l∧Ev (fun n=>F85 n l) l:=by
 have hl:=hs.1
 constructor
 ·have loop:∀i:Nat,i≤l.length→Ev (fun n=>L140_1 n l (l.length:Int) (i:Int) (l.take i)) l:=by
   refine down l.length ?_ ?_
   ·refine .succ ?_
    simp only[L140_1,Int.lt_irrefl,if_false]
    refine .succ ?_
    simp only[L140_2,Bool.false_eq_true,if_false,List.take_length]
    exact .ret
   ·intro i hi ihl
    obtain⟨x,hx,hm,hr⟩:=h.get hi
    obtain⟨a0,a1,a2,a3,rfl,w0,w1,w2,w3⟩:=rs136 hr
    have hc:=(ty_cp a3 w3 (hs.2 _ _ _ _ hm)).1
    refine .succ ?_
    simp only[L140_1,if_pos (ilt hi)]
    refine .succ ?_
    simp only[L140_2,if_true,getF_nat hx,ds_t136]
    refine Ev.bO4 (a1:=a0) (a2:=a1) (a3:=a2) (a4:=a3) (by unfold F137;exact Ev.bO3 (a1:=a1) (a2:=a2) (a3:=a3) (.succ (by simp only[F127];exact Ev.bO1 hc .ret)) .ret) ?_
    have ha:∀{γ:Type} (v0:D) (kk:List D→Option γ),appF 64 (l.take i) [v0] kk=kk (l.take i++[v0]):=fun v0 kk=>app_ok (by simp only[List.length_take,List.length_cons,List.length_nil];omega) (by omega)
    simp only[ha,letF,wrap_succ hi h.1]
    rw[take1 hx]at ihl
    exact ihl
  unfold F140
  exact loop 0 (Nat.zero_le _)
 ·have loop:∀i:Nat,i≤l.length→Ev (fun n=>L85_1 n l (l.take i) (i:Int)) l:=by
   refine down l.length ?_ ?_
   ·refine .succ ?_
    simp only[L85_1,lenF,Int.lt_irrefl,if_false]
    refine .succ ?_
    simp only[L85_2,Bool.false_eq_true,if_false,List.take_length]
    exact .ret
   ·intro i hi ihl
    obtain⟨x,hx,hm,hr⟩:=h.get hi
    obtain⟨a0,a1,a2,a3,rfl,w0,w1,w2,w3⟩:=rs136 hr
    refine .succ ?_
    simp only[L85_1,lenF,if_pos (ilt hi)]
    refine .succ ?_
    simp only[L85_2,if_true,getF_nat hx,ds_t136]
    refine Ev.bO3 ((ty_cp a3 w3 (hs.2 _ _ _ _ hm)).2 a1 a2) ?_
    have ha:∀{γ:Type} (v0:D) (kk:List D→Option γ),appF 64 (l.take i) [v0] kk=kk (l.take i++[v0]):=fun v0 kk=>app_ok (by simp only[List.length_take,List.length_cons,List.length_nil];omega) (by omega)
    simp only[ha,letF,wrap_succ hi h.1]
    rw[take1 hx]at ihl
    exact ihl
  unfold F85
  exact loop 0 (Nat.zero_le _)
def QI (b:Bool) (x y:D):Prop:=∃(a0:Int) (a1:ByteArray) (a2:List D) (a3:Int) (a4:ByteArray) (a5 a6:List D) (a7 a8:Int) (a9 a10 a11:ByteArray) (a12 a13:List D) (a14 a15:Int) (u e:List D),x= .agg [.int .u8 a0,.str a1,.list true 4 a2,.int .u8 a3,.str a4,.list true 3 a5,.list true 15 a6,.int .u8 a7,.int .i64 a8,.str a9,.str a10,.str a11,.list false 1 a12,.list true 8 a13,.int .i64 a14,.int .i64 a15]∧y= .agg [.int .u8 a0,.str a1,.list true 4 a2,.int .u8 a3,.str a4,.list true 3 a5,.list true 15 u,.int .u8 a7,.int .i64 a8,.str a9,.str a10,.str a11,.list false 1 a12,.list true 8 e,.int .i64 (at_ b a14),.int .i64 (at_ b a15)]∧RowS tab 126 y∧(b=true→y=x)∧
 (b=true→Ev (fun n=>F139 n a0 a1 a2 a3 a4 a5 a6 a7 a8 a9 a10 a11 a12 a13 a14 a15) (a0,a1,a3,a4,a7,a8,a9,a10,a11,a14,a15,a2,a5,u,a12,e))∧(b=false→Ev (fun n=>F139x1 n a0 a1 a2 a3 a4 a5 a6 a7 a8 a9 a10 a11 a12 a13 a14 a15) (a0,a1,a3,a4,a7,a8,a9,a10,a11,a2,a5,u,a12,e))∧
 Ev (fun n=>F85 n a2) a2∧Ev (fun n=>F86 n a3 a4 a5) (a3,a4,a5)∧Ev (fun n=>F87 n a6 b) u∧Ev (fun n=>F88 n a7 a8 a9 a10 a11 a12 a13 a14 b) (a7,a8,a9,a10,a11,a12,e,at_ b a14)
theorem item_cp (b:Bool) {l:List D}(h:ListS tab 126 l) (hs:∀(a0:Int) (a1:ByteArray) (a2:List D) (a3:Int) (a4:ByteArray) (a5 a6:List D) (a7 a8:Int) (a9 a10 a11:ByteArray) (a12 a13:List D) (a14 a15:Int),D.agg [.int .u8 a0,.str a1,.list true 4 a2,.int .u8 a3,.str a4,.list true 3 a5,.list true 15 a6,.int .u8 a7,.int .i64 a8,.str a9,.str a10,.str a11,.list false 1 a12,.list true 8 a13,.int .i64 a14,.int .i64 a15]∈l→SmF a2∧SmT a5∧SmS a6∧a12.length≤4000∧SmE a13):∀x∈l,∃y,QI b x y:=by
 intro x hm
 obtain⟨a0,a1,a2,a3,a4,a5,a6,a7,a8,a9,a10,a11,a12,a13,a14,a15,rfl,w0,w1,w2,w3,w4,w5,w6,w7,w8,w9,w10,w11,w12,w13,w14,w15⟩:=rs126 (h.2 x hm)
 obtain⟨g1,g2,g3,g4,g5⟩:=hs _ _ _ _ _ _ _ _ _ _ _ _ _ _ _ _ hm
 obtain⟨u,u1,u2,u3,u4,u5,u6⟩:=st_cp b a6 w6 g3
 obtain⟨f1,f2⟩:=fld_cp w2 g1
 obtain⟨t1,t2⟩:=ty_cp a5 w5 g2
 have h127:Ev (fun n=>F127 n a3 a4 a5) (a3,a4,a5):=.succ (by simp only[F127];exact Ev.bO1 t1 .ret)
 obtain⟨y,b0,b1,b2,b3,b4,b5,b6,b7,e,e1,rfl,e3,e4,e5,e6,e7⟩:=ex_rows b [.agg [.int .u8 a7,.int .i64 a8,.str a9,.str a10,.str a11,.list false 1 a12,.list true 8 a13,.int .i64 a14]] (.one (mk33 w7 w8 w9 w10 w11 w12 w13 w14)) (.mk (by simp) (fun _ _ _ _ _ _ _ _ hm=>by cases List.mem_singleton.1 hm;exact g4) (fun _ _ _ _ _ _ _ _ hm=>by cases List.mem_singleton.1 hm;exact g5)) (.agg [.int .u8 a7,.int .i64 a8,.str a9,.str a10,.str a11,.list false 1 a12,.list true 8 a13,.int .i64 a14]) (List.mem_singleton.2 rfl)
 cases e1
 obtain⟨c0,c1,c2,c3,c4,c5,c6,c7,ce,v0,v1,v2,v3,v4,v5,v6,v7⟩:=rs33 e3
 cases ce
 refine⟨_,a0,a1,a2,a3,a4,a5,a6,a7,a8,a9,a10,a11,a12,a13,a14,a15,u,e,rfl,rfl,mk126 w0 w1 w2 w3 w4 w5 u2 w7 w8 w9 w10 w11 w12 v6 v7 (by unfold at_;split;exact w15;rfl),fun hb=>?_,fun hb=>?_,fun hb=>?_,f2,t2 _ _,u6,e7⟩
 ·subst hb
  rw[u3 rfl,e4 rfl];rfl
 ·subst hb
  unfold F139
  exact Ev.bO1 f1 (Ev.bO3 h127 (Ev.bO1 (u4 rfl) (Ev.bO8 (e5 rfl) (Ev.bO1 (A:=fun n=>F90 n a15) (.of fun n=>rfl) .ret))))
 ·subst hb
  unfold F139x1
  exact Ev.bO1 f1 (Ev.bO3 h127 (Ev.bO1 (u5 rfl) (Ev.bO7 (e6 rfl) (Ev.bO0 (A:=fun n=>F91 n a15) (.of fun n=>rfl) .ret))))
theorem prog_cp (b:Bool) {l:List D}(h:ListS tab 126 l) (hl:l.length≤4000) (hs:∀(a0:Int) (a1:ByteArray) (a2:List D) (a3:Int) (a4:ByteArray) (a5 a6:List D) (a7 a8:Int) (a9 a10 a11:ByteArray) (a12 a13:List D) (a14 a15:Int),D.agg [.int .u8 a0,.str a1,.list true 4 a2,.int .u8 a3,.str a4,.list true 3 a5,.list true 15 a6,.int .u8 a7,.int .i64 a8,.str a9,.str a10,.str a11,.list false 1 a12,.list true 8 a13,.int .i64 a14,.int .i64 a15]∈l→SmF a2∧SmT a5∧SmS a6∧a12.length≤4000∧SmE a13):∃r,ListS tab 126 r∧(b=true→r=l)∧(b=true→Ev (fun n=>F25 n l) r)∧(b=false→Ev (fun n=>F26 n l) r)∧Ev (fun n=>F24 n l b) r:=by
 obtain⟨r,r1,r2⟩:=rows_of l (item_cp b h hs)
 have rt:ListS tab 126 r:=rows_typed h r1 r2 fun x y _ ⟨_,_,_,_,_,_,_,_,_,_,_,_,_,_,_,_,_,_,_,_,h,_⟩=>h
 refine⟨r,rt,fun hb=>rows_same r1 r2 fun x y _ ⟨_,_,_,_,_,_,_,_,_,_,_,_,_,_,_,_,_,_,_,_,_,h,_⟩=>h hb,fun hb=>?_,fun hb=>?_,?_⟩
 ·subst hb
  have loop:∀i:Nat,i≤l.length→Ev (fun n=>L138_1 n l (l.length:Int) (i:Int) (r.take i)) r:=by
   refine down l.length ?_ ?_
   ·refine .succ ?_
    simp only[L138_1,Int.lt_irrefl,if_false]
    refine .succ ?_
    simp only[L138_2,Bool.false_eq_true,if_false]
    rw[←r1,List.take_length]
    exact .ret
   ·intro i hi ihl
    obtain⟨x,hx,hm2,_⟩:=h.get hi
    obtain⟨y,hy,a0,a1,a2,a3,a4,a5,a6,a7,a8,a9,a10,a11,a12,a13,a14,a15,u,e,rfl,rfl,_,_,q,_⟩:=r2 i x hx
    refine .succ ?_
    simp only[L138_1,if_pos (ilt hi)]
    refine .succ ?_
    simp only[L138_2,if_true,getF_nat hx,ds_t126]
    refine Ev.bO16 (q rfl) ?_
    have ha:∀{γ:Type} (v0:D) (kk:List D→Option γ),appF 248 (r.take i) [v0] kk=kk (r.take i++[v0]):=fun v0 kk=>app_ok (by simp only[List.length_take,List.length_cons,List.length_nil];omega) (by omega)
    simp only[ha,letF,wrap_succ hi h.1]
    rw[take1 hy]at ihl
    exact ihl
  unfold F25 F89
  exact Ev.bO1 (A:=fun n=>bO1 (F138 n l) fun l2=>some l2) (Ev.bO1 (A:=fun n=>F138 n l) (by unfold F138;exact loop 0 (Nat.zero_le _)) .ret) .ret
 ·subst hb
  have loop:∀i:Nat,i≤l.length→Ev (fun n=>L138x1_1 n l (l.length:Int) (i:Int) (r.take i)) r:=by
   refine down l.length ?_ ?_
   ·refine .succ ?_
    simp only[L138x1_1,Int.lt_irrefl,if_false]
    refine .succ ?_
    simp only[L138x1_2,Bool.false_eq_true,if_false]
    rw[←r1,List.take_length]
    exact .ret
   ·intro i hi ihl
    obtain⟨x,hx,hm2,_⟩:=h.get hi
    obtain⟨y,hy,a0,a1,a2,a3,a4,a5,a6,a7,a8,a9,a10,a11,a12,a13,a14,a15,u,e,rfl,rfl,_,_,_,q,_⟩:=r2 i x hx
    refine .succ ?_
    simp only[L138x1_1,if_pos (ilt hi)]
    refine .succ ?_
    simp only[L138x1_2,if_true,getF_nat hx,ds_t126]
    refine Ev.bO14 (q rfl) ?_
    have ha:∀{γ:Type} (v0:D) (kk:List D→Option γ),appF 248 (r.take i) [v0] kk=kk (r.take i++[v0]):=fun v0 kk=>app_ok (by simp only[List.length_take,List.length_cons,List.length_nil];omega) (by omega)
    simp only[ha,letF,wrap_succ hi h.1]
    rw[take1 hy]at ihl
    exact ihl
  unfold F26 F89x1
  exact Ev.bO1 (A:=fun n=>bO1 (F138x1 n l) fun l2=>some l2) (Ev.bO1 (A:=fun n=>F138x1 n l) (by unfold F138x1;exact loop 0 (Nat.zero_le _)) .ret) .ret
 ·have loop:∀i:Nat,i≤l.length→Ev (fun n=>L24_1 n l b (i:Int) (r.take i)) r:=by
   refine down l.length ?_ ?_
   ·refine .succ ?_
    simp only[L24_1,lenF,Int.lt_irrefl,if_false]
    refine .succ ?_
    simp only[L24_2,Bool.false_eq_true,if_false]
    rw[←r1,List.take_length]
    exact .ret
   ·intro i hi ihl
    obtain⟨x,hx,hm2,_⟩:=h.get hi
    obtain⟨y,hy,a0,a1,a2,a3,a4,a5,a6,a7,a8,a9,a10,a11,a12,a13,a14,a15,u,e,rfl,rfl,_,_,_,_,q1,q2,q3,q4⟩:=r2 i x hx
    rw[take1 hy]at ihl
    have last:Ev (fun n=>L24_3 n l b (i:Int) (r.take i) a0 a1 a2 a3 a4 a5 u a7 a8 a9 a10 a11 a12 e (at_ b a14) (at_ b a15)) r:=by
     refine .succ ?_
     have ha:∀{γ:Type} (v0:D) (kk:List D→Option γ),appF 248 (r.take i) [v0] kk=kk (r.take i++[v0]):=fun v0 kk=>app_ok (by simp only[List.length_take,List.length_cons,List.length_nil];omega) (by omega)
     simp only[L24_3,ha,letF,wrap_succ hi h.1]
     exact ihl
    refine .succ ?_
    simp only[L24_1,lenF,if_pos (ilt hi)]
    refine .succ ?_
    simp only[L24_2,if_true,getF_nat hx,ds_t126]
    refine Ev.bO1 q1 (Ev.bO3 q2 (Ev.bO1 q3 (Ev.bO8 q4 ?_)))
    cases b with
    | true=>simp only[letB,Bool.not_true,Bool.false_eq_true,if_false];exact last
    | false=>simp only[letB,Bool.not_false,if_true];exact last
  unfold F24
  exact loop 0 (Nat.zero_le _)
end Go.Proofs.Ytiiojajgajnhpaa
end
namespace Go.AM
open Go Go.RowKit Go.ChangeShapes Go.WideShapes
def Shapes (ti:Types):List TypeId→List D→Prop
 | [],[]=>True
 | t::ts,x::xs=>Shape ti t x.cells∧(∀y,ti t=some y→x.isAgg=rowD y.desc)∧Shapes ti ts xs
 | _,_=>False
theorem Shapes.length {ti:Types}:∀{ts:List TypeId}{xs:List D},Shapes ti ts xs→xs.length=ts.length
 | [],[],_=>rfl
 | _::_,_::_,h=>by simp[Shapes.length h.2.2]
 | [],_::_,h=>h.elim
 | _::_,[],h=>h.elim
section
variable {H:Type}{enc:TypeId×Value→H}{P:Program}{ti:Types}{T:List TypeId}{w:World}
theorem conv_arg (hti:TIok P ti) (hT:plainB ti T=true) {Z:Zone}(hZ:∀b o,¬Z b o) {base base':Nat}{spare:Nat→Bool}{held:Bool}{r:Reach}{t:TypeId}{v:Value}{d:DataW H}{ps:List MemPlace}(ht:t∈T)
  (hok:Value.okWide P w r base' t v) (h:DataW.Trod enc P w base spare held t v d ps):∃x:D,Shape ti t x.cells∧(∀y,ti t=some y→x.isAgg=rowD y.desc)∧RelD w Z x v:=by
 obtain⟨fuel,h⟩:=h
 obtain⟨ds,hs,h1,h2,h3⟩:=conv hti hT (Z:=Z) hZ fuel t _ _ _ ht h
 have hp:=List.all_eq_true.1 hT t ht
 split at hp
 ·rename_i y hy
  have hu:=(hti t y hy).1
  have single:rowD y.desc=false→v.cells.toList=[v]→∃x:D,Shape ti t x.cells∧(∀y,ti t=some y→x.isAgg=rowD y.desc)∧RelD w Z x v:=by
   intro hr hv
   rw[hv]at h1 h3
   obtain⟨c,rfl⟩:=List.length_eq_one_iff.1 h1
   have hc:=h2 c (by simp)
   have e:c.cells=[c]:=by cases c<;>first | rfl | simp[D.isAgg]at hc
   refine⟨c,by rw[e];exact hs,fun y' hy'=>?_,h3 0 c v rfl rfl⟩
   rw[hy]at hy'
   obtain rfl:y=y':=by simpa using hy'
   rw[hc,hr]
  split at hp
  ·rename_i hd
   rw[hd]at hu
   obtain⟨b,rfl⟩:=okWide_bool hu hok
   exact single (by rw[hd];rfl) rfl
  ·rename_i k hd
   rw[hd]at hu
   obtain⟨b,rfl⟩:=okWide_int hu hok
   exact single (by rw[hd];rfl) rfl
  ·rename_i hd
   rw[hd]at hu
   obtain⟨b,rfl⟩:=okWide_string hu hok
   exact single (by rw[hd];rfl) rfl
  ·rename_i e hd
   rw[hd]at hu
   obtain⟨a,l,c,rfl⟩:=okWide_slice hu hok
   exact single (by rw[hd];rfl) rfl
  ·rename_i fs hd
   rw[hd]at hu
   obtain⟨cs,rfl,_⟩:=okWide_struct hu hok
   refine⟨.agg ds,hs,fun y' hy'=>?_,.agg ds cs (by simpa [Value.cells] using h1.symm) h2 (fun j c u hc hu'=>h3 j c u hc (by simpa [Value.cells] using hu'))⟩
   rw[hy]at hy'
   obtain rfl:y=y':=by simpa using hy'
   rw[hd];rfl
  ·simp at hp
 ·simp at hp
theorem conv_args (hti:TIok P ti) (hT:plainB ti T=true) {Z:Zone}(hZ:∀b o,¬Z b o) {base base':Nat}{spare:Nat→Bool}{held:Bool}{r:Reach}:
  ∀(ts:List TypeId) (vs:List Value) (ds:List (DataW H)) (ps:List MemPlace),(∀t∈ts,t∈T)→DataW.TrodAll enc P w base spare held ts vs ds ps→
   (∀(j:Nat) t v,ts[j]?=some t→vs[j]?=some v→Value.okWide P w r base' t v)→
   ∃xs,Shapes ti ts xs∧∀(j:Nat) x v,xs[j]?=some x→vs[j]?=some v→RelD w Z x v
 | [],vs,ds,ps,_,h,_=>⟨[],trivial,by simp⟩
 | t::ts,vs,ds,ps,ht,h,hok=>by
  obtain⟨v,vs1,d,ds1,a,b,rfl,rfl,rfl,h1,h2⟩:=trodAll_cons h
  obtain⟨x,k1,k2,k3⟩:=conv_arg hti hT hZ (ht t (by simp)) (hok 0 t v rfl rfl) h1
  obtain⟨xs,k4,k5⟩:=conv_args hti hT hZ ts vs1 ds1 b (fun t ht'=>ht t (by simp[ht'])) h2 (fun j t v h1 h2=>hok (j+1) t v (by simpa using h1) (by simpa using h2))
  refine⟨x::xs,⟨k1,k2,k4⟩,fun j x' v' hx hv=>?_⟩
  match j with
  | 0=>simp at hx hv;subst hx;subst hv;exact k3
  | j+1=>simp at hx hv;exact k5 j x' v' hx hv
theorem again_all (hl:laidOutB P=true) {W W':World}(hb:Below W.heap.size W W'):∀(ts:List TypeId) (vs:List Value) (ds:List (DataW H)) (ps:List MemPlace),
  (∀t∈ts,P.readableRec t=true∧t<P.types.size)→DataW.TrodAll enc P W 0 (fun _=>true) true ts vs ds ps→(∀x∈ps,x.block<W.heap.size)→
  DataW.TrodAll enc P W' 0 (fun b=>decide (b<W.heap.size)) true ts vs ds ps
 | [],vs,ds,ps,_,h,_=>by
  obtain⟨rfl,rfl,rfl⟩:=trodAll_nil h
  exact rfl
 | t::ts,vs,ds,ps,ht,h,hlt=>by
  obtain⟨v,vs1,d,ds1,a,b,rfl,rfl,rfl,h1,h2⟩:=trodAll_cons h
  have ht1:=ht t (by simp)
  exact⟨a,b,Below.trod hl ht1.1 ht1.2 h1 hb (fun x hx=>hlt x (by simp[hx])),again_all hl hb ts vs1 ds1 b (fun t ht'=>ht t (by simp[ht'])) h2 (fun x hx=>hlt x (by simp[hx])),rfl⟩
theorem law_calls {I:Inv}(hti:TIok P ti) (hT:plainB ti T=true) {s:ChangeSpec}{fn:Func}{f:FuncId}{ts:List TypeId}{bt:TypeId}
  (hp:fn.params.toList=ts) (hv:s.vars=[]) (hr:fn.resultTypes=#[bt]) (hb:P.underlying bt=some .bool) (htT:∀t∈ts,t∈T)
  (hs:∀ds:List (DataW H),ds.length=ts.length→(s.fn H ds).results=[.lit (.bool true)]∧(s.fn H ds).args=ds∧(s.fn H ds).vars=[])
  (hl:laidOutB P=true) (hrec:∀t∈ts,P.readableRec t=true∧t<P.types.size)
  (hc:∀xs:List D,Shapes ti ts xs→Trip P I f (xs.map V1.d) [] (.v (.d (.bool true))) [] [])
  {W:World} {base:Nat} {args:Array Value} {ds gs:List (DataW H)} {before:List MemPlace}
  (hI:I.at W fun _ _=>False) (hval:∀(j:Nat) t v,fn.params[j]?=some t→args[j]?=some v→Value.okWide P W .any base t v)
  (hW:DataW.Whole enc P fn.params.toList s.vars false W args.toList ds gs before):
  Calls P f args W fun e W'=>∃v,e= .returned v∧s.post enc P fn false true false false W args v W':=by
 have hW':=hW
 obtain⟨p,q,hA,hV,rfl,_,_⟩:=hW
 rw[hv]at hV
 obtain⟨rfl,rfl⟩:gs=[]∧q=[]:=by
  cases gs with
  | nil=>exact⟨rfl,hV⟩
  | cons _ _=>exact hV.elim
 rw[hp]at hA
 obtain⟨hlen,hdl⟩:=trodAll_length hA
 obtain⟨xs,hsh,hrel⟩:=conv_args hti hT (Z:=fun _ _=>False) (fun _ _ h=>h) (r:=.any) (base':=base) ts args.toList ds p htT hA (fun j t v h1 h2=>hval j t v (by
  rw[←Array.getElem?_toList,hp];exact h1) (by simpa using h2))
 have hxl:=hsh.length
 have hcall:=hc xs hsh
 have hheap:∀i o,heapOf [] i=some o→False:=by
  intro i o h
  cases i<;>simp[heapOf]at h
 have hzone:∀(g:Ghost) b o,¬zone g (heapOf []) b o:=by
  rintro g b o ⟨i,ob,h,_⟩
  exact hheap i ob h
 refine (hcall.calls (w:=W) (X:=fun _ _=>False) (g:=fun _=>undef) (vals:=args) (fun _ _ h=>h.elim) (hI.mono fun b o hz=>hz.elim (hzone _ b o) id) ⟨fun i o h=>(hheap i o h).elim,fun i _ _ _ _ h=>(hheap i _ h).elim,fun i _ _ _ h=>(hheap i _ h).elim⟩ (fun _=>rfl)
  (by simp at hlen;simp;omega) (fun j x v hx hvv=>?_)).mono ?_
 ·simp only[List.getElem?_map,Option.map_eq_some_iff]at hx
  obtain⟨d,hd,rfl⟩:=hx
  exact (hrel j d v hd (by simpa using hvv)).mono (fun b o u hu _=>⟨hu,fun hz=>hz.elim (hzone _ b o) id⟩)
 ·rintro e W' ⟨v,g',rfl,hpost⟩
  obtain rfl:v= .bool true:=by cases (show RelD _ _ (.bool true) v from hpost.res);rfl
  have hbel:Below W.heap.size W W':=⟨hpost.frame.os,hpost.frame.tape,hpost.frame.output,hpost.frame.size,fun k hk=>hpost.frame.block k hk (fun o=>hzone _ k o)⟩
  obtain⟨s1,s2,s3⟩:=hs (ds++[]) (by simp[hdl])
  refine⟨_,rfl,ds,[],p++[],[],p,[],hW',?_,?_,?_,hbel.frame _,fun h=>by cases h⟩
  ·rw[s1,hr]
   exact trodAll_mk1 (shut_bool hb true)
  ·rw[s2,hp,List.append_nil]
   exact again_all hl hbel ts args.toList ds p hrec hA (fun x hx=>hW'.lt x (by simp[hx]))
  ·rw[s3,hv];rfl
end
end Go.AM
set_option linter.unusedVariables false
noncomputable section
namespace Go.Proofs.Ytiiojajgajnhpaa
open Go Go.AM
theorem tr {α:Type}{r:α}:Total (fun _=>some r):=⟨r,.ret⟩
theorem tu {α:Type}{A:Nat→Option α}(h:Total fun n=>A (n+1)):Total A:=h.imp fun _ h=>.succ h
theorem need_pos {γ:Type}{p:Prop} [Decidable p] (h:p) (x:Option γ):needF p x=x:=if_pos h
theorem getN_some {γ:Type}{L:List D}{i:Nat}{x:D}{k:D→Option γ}(h:L[i]?=some x):getN L i k=k x:=by unfold getN;rw[h]
theorem spT {e:Nat}{α:Type}{A:Nat→Int→List D→Option α}{B:Nat→Int→List D→Bool→Option α}{l:List D}(h:ListS tab e l) (hA:∀n z m,A (n+1) z m=lenF m fun y=>(if z<y then B n z m true else B n z m false))
  (step:∀(i:Nat) (m:List D),ListS tab e m→m.length=l.length→i<m.length→(∀m',ListS tab e m'→m'.length=l.length→Total fun n=>A n ((i+1:Nat):Int) m')→Total fun n=>B n (i:Int) m true)
  (hF:∀(z:Int) (m:List D),ListS tab e m→m.length=l.length→Total fun n=>B n z m false):Total fun n=>A n (0:Int) l:=by
 have loop:∀i:Nat,i≤l.length→∀m:List D,ListS tab e m→m.length=l.length→Total fun n=>A n (i:Int) m:=by
  refine down l.length ?_ ?_
  ·intro m hm hl
   refine tu ?_
   simp only[hA,lenF,hl,Int.lt_irrefl,if_false]
   exact hF _ m hm hl
  ·intro i hi ih m hm hl
   refine tu ?_
   simp only[hA,lenF,if_pos (show (i:Int)<(m.length:Int)by omega)]
   exact step i m hm hl (by omega) ih
 exact loop 0 (Nat.zero_le _) l h rfl
theorem spoil_ev {l:List D}(h:ListS tab 126 l):Total fun n=>F27 n l:=by
 have sp:k_spoilt.size≤maxLen:=by decide
 unfold F27
 refine spT (A:=fun n z m=>L27_1 n z m) (B:=fun n z m b=>L27_2 n z m b) h (fun n z m=>by simp only[L27_1]) (fun i m hm hl hi nx=>?_) (fun z m hm hl=>tu (by simp only[L27_2,Bool.false_eq_true,if_false];exact tr))
 obtain⟨x,hx,_,hr⟩:=hm.get hi
 obtain⟨z7,s8,l9,z10,s11,l12,l13,z14,z15,s16,s17,s18,l19,l20,z21,z22,rfl,w0,w1,w2,w3,w4,w5,w6,w7,w8,w9,w10,w11,w12,w13,w14,w15⟩:=rs126 hr
 refine tu ?_
 simp only[L27_2,if_true,need_pos (show 0≤(i:Int)∧(i:Int).toNat<m.length by omega)]
 simp only[show (i:Int).toNat=i from rfl,getN_some hx,ds_t126]
 refine spT (A:=fun n z0 mm=>L27_3 n (i:Int) m z7 z10 s11 l12 l13 z14 z15 s16 s17 s18 l19 l20 z21 z22 z0 mm) (B:=fun n z0 mm b=>L27_4 n (i:Int) m z7 z10 s11 l12 l13 z14 z15 s16 s17 s18 l19 l20 z21 z22 z0 mm b) w2 (fun n z m=>by simp only[L27_3]) (fun i0 m0 hm0 hl0 hi0 nx0=>?_) (fun zz lf hlf _=>?_)
 ·obtain⟨x0,hx0,_,hr0⟩:=hm0.get hi0
  obtain⟨b0,b1,b2,b3,rfl,v0,v1,v2,v3⟩:=rs136 hr0
  refine tu ?_
  simp only[L27_4,if_true,need_pos (show 0≤(i0:Int)∧(i0:Int).toNat<m0.length by omega)]
  simp only[show (i0:Int).toNat=i0 from rfl,getN_some hx0,ds_t136,letF,wrap_succ hi0 hm0.1,setF]
  exact nx0 _ (hm0.set i0 (mk136 sp v1 v2 v3)) (by rw[List.length_set];exact hl0)
 refine tu ?_
 simp only[L27_4,Bool.false_eq_true,if_false]
 refine spT (A:=fun n z0 mm=>L27_5 n (i:Int) m z7 z10 s11 l12 z14 z15 s16 s17 s18 l19 l20 z21 z22 lf z0 mm) (B:=fun n z0 mm b=>L27_6 n (i:Int) m z7 z10 s11 l12 z14 z15 s16 s17 s18 l19 l20 z21 z22 lf z0 mm b) w6 (fun n z m=>by simp only[L27_5]) (fun j mb hmb hlb hj nxb=>?_) (fun zz lb hlb _=>?_)
 ·obtain⟨x1,hx1,_,hr1⟩:=hmb.get hj
  obtain⟨z39,s40,s41,l42,z43,s44,l45,z46,s47,l48,l49,l50,l51,l52,z53,rfl,y0,y1,y2,y3,y4,y5,y6,y7,y8,y9,y10,y11,y12,y13,y14⟩:=rs152 hr1
  refine tu ?_
  simp only[L27_6,if_true,need_pos (show 0≤(j:Int)∧(j:Int).toNat<mb.length by omega)]
  simp only[show (j:Int).toNat=j from rfl,getN_some hx1,ds_t152]
  refine spT (A:=fun n z0 mm=>L27_7 n (i:Int) m z7 z10 s11 l12 z14 z15 s16 s17 s18 l19 l20 z21 z22 lf (j:Int) mb s40 s41 z43 s44 l45 z46 s47 l48 l49 l50 l51 l52 z53 z0 mm) (B:=fun n z0 mm b=>L27_8 n (i:Int) m z7 z10 s11 l12 z14 z15 s16 s17 s18 l19 l20 z21 z22 lf (j:Int) mb s40 s41 z43 s44 l45 z46 s47 l48 l49 l50 l51 l52 z53 z0 mm b) y3 (fun n z m=>by simp only[L27_7]) (fun i0 m0 hm0 hl0 hi0 nx0=>?_) (fun zz ln hln _=>?_)
  ·obtain⟨x0,hx0,_,hr0⟩:=hm0.get hi0
   obtain⟨b0,rfl,v0⟩:=rs9 hr0
   refine tu ?_
   simp only[L27_8,if_true,need_pos (show 0≤(i0:Int)∧(i0:Int).toNat<m0.length by omega)]
   simp only[show (i0:Int).toNat=i0 from rfl,getN_some hx0,ds_str,letF,wrap_succ hi0 hm0.1,setF]
   exact nx0 _ (hm0.set i0 (mk9 sp)) (by rw[List.length_set];exact hl0)
  refine tu ?_
  simp only[L27_8,Bool.false_eq_true,if_false]
  refine spT (A:=fun n z0 mm=>L27_9 n (i:Int) m z7 z10 s11 l12 z14 z15 s16 s17 s18 l19 l20 z21 z22 lf (j:Int) mb s40 s41 z43 s44 l45 z46 s47 l49 l50 l51 l52 z53 ln z0 mm) (B:=fun n z0 mm b=>L27_10 n (i:Int) m z7 z10 s11 l12 z14 z15 s16 s17 s18 l19 l20 z21 z22 lf (j:Int) mb s40 s41 z43 s44 l45 z46 s47 l49 l50 l51 l52 z53 ln z0 mm b) y9 (fun n z m=>by simp only[L27_9]) (fun i0 m0 hm0 hl0 hi0 nx0=>?_) (fun zz lp hlp _=>?_)
  ·obtain⟨x0,hx0,_,hr0⟩:=hm0.get hi0
   obtain⟨b0,rfl,v0⟩:=rs9 hr0
   refine tu ?_
   simp only[L27_10,if_true,need_pos (show 0≤(i0:Int)∧(i0:Int).toNat<m0.length by omega)]
   simp only[show (i0:Int).toNat=i0 from rfl,getN_some hx0,ds_str,letF,wrap_succ hi0 hm0.1,setF]
   exact nx0 _ (hm0.set i0 (mk9 sp)) (by rw[List.length_set];exact hl0)
  refine tu ?_
  simp only[L27_10,Bool.false_eq_true,if_false]
  refine spT (A:=fun n z0 mm=>L27_11 n (i:Int) m z7 z10 s11 l12 z14 z15 s16 s17 s18 l19 l20 z21 z22 lf (j:Int) mb s40 s41 z43 s44 l45 z46 s47 l50 l51 l52 z53 ln lp z0 mm) (B:=fun n z0 mm b=>L27_12 n (i:Int) m z7 z10 s11 l12 z14 z15 s16 s17 s18 l19 l20 z21 z22 lf (j:Int) mb s40 s41 z43 s44 l45 z46 s47 l50 l51 l52 z53 ln lp z0 mm b) y10 (fun n z m=>by simp only[L27_11]) (fun i0 m0 hm0 hl0 hi0 nx0=>?_) (fun zz le hle _=>?_)
  ·obtain⟨x0,hx0,_,hr0⟩:=hm0.get hi0
   obtain⟨b0,b1,b2,b3,b4,b5,b6,b7,rfl,v0,v1,v2,v3,v4,v5,v6,v7⟩:=rs33 hr0
   refine tu ?_
   simp only[L27_12,if_true,need_pos (show 0≤(i0:Int)∧(i0:Int).toNat<m0.length by omega)]
   simp only[show (i0:Int).toNat=i0 from rfl,getN_some hx0,ds_t33,letF,wrap_succ hi0 hm0.1,setF]
   exact nx0 _ (hm0.set i0 (mk33 rfl v1 v2 v3 v4 v5 v6 v7)) (by rw[List.length_set];exact hl0)
  refine tu ?_
  simp only[L27_12,Bool.false_eq_true,if_false]
  refine spT (A:=fun n z0 mm=>L27_13 n (i:Int) m z7 z10 s11 l12 z14 z15 s16 s17 s18 l19 l20 z21 z22 lf (j:Int) mb s40 s41 z43 s44 l45 z46 s47 l51 l52 z53 ln lp le z0 mm) (B:=fun n z0 mm b=>L27_14 n (i:Int) m z7 z10 s11 l12 z14 z15 s16 s17 s18 l19 l20 z21 z22 lf (j:Int) mb s40 s41 z43 s44 l45 z46 s47 l51 l52 z53 ln lp le z0 mm b) y11 (fun n z m=>by simp only[L27_13]) (fun i0 m0 hm0 hl0 hi0 nx0=>?_) (fun zz lo hlo _=>?_)
  ·obtain⟨x0,hx0,_,hr0⟩:=hm0.get hi0
   obtain⟨b0,b1,b2,b3,b4,b5,b6,b7,b8,b9,b10,b11,b12,b13,b14,rfl,v0,v1,v2,v3,v4,v5,v6,v7,v8,v9,v10,v11,v12,v13,v14⟩:=rs152 hr0
   refine tu ?_
   simp only[L27_14,if_true,need_pos (show 0≤(i0:Int)∧(i0:Int).toNat<m0.length by omega)]
   simp only[show (i0:Int).toNat=i0 from rfl,getN_some hx0,ds_t152,letF,wrap_succ hi0 hm0.1,setF]
   exact nx0 _ (hm0.set i0 (mk152 rfl v1 v2 v3 v4 v5 v6 v7 v8 v9 v10 v11 v12 v13 v14)) (by rw[List.length_set];exact hl0)
  refine tu ?_
  simp only[L27_14,Bool.false_eq_true,if_false]
  refine spT (A:=fun n z0 mm=>L27_15 n (i:Int) m z7 z10 s11 l12 z14 z15 s16 s17 s18 l19 l20 z21 z22 lf (j:Int) mb s40 s41 z43 s44 l45 z46 s47 l51 z53 ln lp le lo z0 mm) (B:=fun n z0 mm b=>L27_16 n (i:Int) m z7 z10 s11 l12 z14 z15 s16 s17 s18 l19 l20 z21 z22 lf (j:Int) mb s40 s41 z43 s44 l45 z46 s47 l51 z53 ln lp le lo z0 mm b) y13 (fun n z m=>by simp only[L27_15]) (fun i0 m0 hm0 hl0 hi0 nx0=>?_) (fun zz la hla _=>?_)
  ·obtain⟨x0,hx0,_,hr0⟩:=hm0.get hi0
   obtain⟨b0,b1,b2,rfl,v0,v1,v2⟩:=rs154 hr0
   refine tu ?_
   simp only[L27_16,if_true,need_pos (show 0≤(i0:Int)∧(i0:Int).toNat<m0.length by omega)]
   simp only[show (i0:Int).toNat=i0 from rfl,getN_some hx0,ds_t154,letF,wrap_succ hi0 hm0.1,setF]
   exact nx0 _ (hm0.set i0 (mk154 v0 sp v2)) (by rw[List.length_set];exact hl0)
  refine tu ?_
  simp only[L27_16,Bool.false_eq_true,if_false,need_pos (show 0≤(j:Int)∧(j:Int).toNat<mb.length by omega)]
  simp only[show (j:Int).toNat=j from rfl,letF,wrap_succ hj hmb.1,setF]
  exact nxb _ (hmb.set j (mk152 rfl y1 y2 hln y4 y5 y6 y7 y8 hlp hle hlo y12 hla y14)) (by rw[List.length_set];exact hlb)
 refine tu ?_
 simp only[L27_6,Bool.false_eq_true,if_false]
 refine spT (A:=fun n z0 mm=>L27_17 n (i:Int) m z7 z10 s11 l12 z14 z15 s16 s17 s18 l19 z21 z22 lf lb z0 mm) (B:=fun n z0 mm b=>L27_18 n (i:Int) m z7 z10 s11 l12 z14 z15 s16 s17 s18 l19 z21 z22 lf lb z0 mm b) w13 (fun n z m=>by simp only[L27_17]) (fun i0 m0 hm0 hl0 hi0 nx0=>?_) (fun zz lr hlr _=>?_)
 ·obtain⟨x0,hx0,_,hr0⟩:=hm0.get hi0
  obtain⟨b0,b1,b2,b3,b4,b5,b6,b7,rfl,v0,v1,v2,v3,v4,v5,v6,v7⟩:=rs33 hr0
  refine tu ?_
  simp only[L27_18,if_true,need_pos (show 0≤(i0:Int)∧(i0:Int).toNat<m0.length by omega)]
  simp only[show (i0:Int).toNat=i0 from rfl,getN_some hx0,ds_t33,letF,wrap_succ hi0 hm0.1,setF]
  exact nx0 _ (hm0.set i0 (mk33 rfl v1 v2 v3 v4 v5 v6 v7)) (by rw[List.length_set];exact hl0)
 refine tu ?_
 simp only[L27_18,Bool.false_eq_true,if_false]
 refine spT (A:=fun n z0 mm=>L27_19 n (i:Int) m z7 z10 s11 z14 z15 s16 s17 s18 l19 z21 z22 lf lb lr z0 mm) (B:=fun n z0 mm b=>L27_20 n (i:Int) m z7 z10 s11 z14 z15 s16 s17 s18 l19 z21 z22 lf lb lr z0 mm b) w5 (fun n z m=>by simp only[L27_19]) (fun i0 m0 hm0 hl0 hi0 nx0=>?_) (fun zz lt hlt _=>?_)
 ·obtain⟨x0,hx0,_,hr0⟩:=hm0.get hi0
  obtain⟨b0,b1,b2,rfl,v0,v1,v2⟩:=rs27 hr0
  refine tu ?_
  simp only[L27_20,if_true,need_pos (show 0≤(i0:Int)∧(i0:Int).toNat<m0.length by omega)]
  simp only[show (i0:Int).toNat=i0 from rfl,getN_some hx0,ds_t27,letF,wrap_succ hi0 hm0.1,setF]
  exact nx0 _ (hm0.set i0 (mk27 rfl v1 v2)) (by rw[List.length_set];exact hl0)
 refine tu ?_
 simp only[L27_20,Bool.false_eq_true,if_false,need_pos (show 0≤(i:Int)∧(i:Int).toNat<m.length by omega)]
 simp only[show (i:Int).toNat=i from rfl,letF,wrap_succ hi hm.1,setF]
 exact nx _ (hm.set i (mk126 w0 sp hlf w3 w4 hlt hlb w7 w8 w9 w10 w11 w12 hlr w14 w15)) (by rw[List.length_set];exact hl)
theorem copies_law {l:List D}(h:ListS tab 126 l):Ev (fun n=>F4 n l) true:=by
 unfold F4
 obtain⟨b,b1,b2⟩:=great_ev h
 refine Ev.bO1 b1 ?_
 cases b with
 | true=>simp only[if_true];exact .ret
 | false=>
  simp only[Bool.false_eq_true,if_false]
  obtain⟨g1,g2⟩:=b2 rfl
  obtain⟨r,r1,r2,r3,_,r5⟩:=prog_cp true h g1 g2
  obtain⟨q,q1,_,_,q4,q5⟩:=prog_cp false h g1 g2
  have e:=r2 rfl
  subst e
  obtain⟨u,hu⟩:=spoil_ev h
  obtain⟨v,hv⟩:=spoil_ev q1
  refine Ev.bO1 r5 (Ev.bO1 (r3 rfl) (Ev.bO1 (q4 rfl) (Ev.bO1 (prog_refl h) ?_)))
  simp only[letB,Bool.not_true,Bool.false_eq_true,if_false]
  refine Ev.bO1 q5 (Ev.bO1 (prog_refl q1) ?_)
  simp only[letB,Bool.not_true]
  refine .succ ?_
  simp only[L4_1,Bool.false_eq_true,if_false]
  exact Ev.bO1 hu (Ev.bO1 hv (Ev.bO1 (prog_refl h) .ret))
theorem tree_copies_trip:∀xs:List D,Shapes tab [24] xs→Trip Try.prog inv 4 (xs.map V1.d) [] (.v (.d (.bool true))) [] []:=by
 intro xs h
 match xs,h with
 | [u],⟨u1,u2,_⟩=>
  obtain⟨p,rfl,hp⟩:=rs24 ⟨u1,u2⟩
  obtain⟨n,hn⟩:=(copies_law hp).run
  exact T4 n hn
end Go.Proofs.Ytiiojajgajnhpaa
end
namespace Go.Proofs.Ytiiojajgajnhpaa
open Go Go.ChangeShapes Go.WideShapes Go.ChangeAt Go.RowKit Go.AM
theorem tree_copies_reads:∀t∈[24],Try.prog.readableRec t=true∧t<Try.prog.types.size:=by
 have h:([24].all fun t=>Try.prog.readableRec t&&decide (t<Try.prog.types.size))=true:=by kernel_rfl
 intro t ht
 have:=List.all_eq_true.1 h t ht
 simpa using this
set_option maxRecDepth 100000 in
theorem tree_copies_lifted (os:Os) (started:os.Started) (H:Type) (enc:TypeId×Value→H):
  ReturnsInHanded {} Try.checked os 4 .any (Rows.treeCopiesSpec.pre6 enc Try.prog Try.f4 Rows.treeCopiesRow.domain false) (Rows.treeCopiesSpec.post enc Try.prog Try.f4 false true false false):=by
 refine returnsInHanded_of_change (C:=Try.checked) (by kernel_rfl) started (by kernel_rfl) Try.func4
  (ChangeSpec.witness6 (enc:=enc) (C:=Try.checked) false ⟨#[],#[.agg #[.slice none 0 0]],[]⟩ 8 (by kernel_rfl) (by kernel_rfl) (by kernel_rfl) (by kernel_rfl)) ?_
 intro W base args ds gs before hval0 hW _ _
 refine law_calls (ti:=tab) (T:=[2,3,5,9,22,24,25,27,28,30,31,33,123,124,126,136,150,152,154]) tab_ok (by kernel_rfl) (ts:=[24]) (bt:=4) rfl rfl rfl (by kernel_rfl) (by decide) ?_ (by kernel_rfl) tree_copies_reads tree_copies_trip ⟨trivial,fun _ h=>h.elim⟩ hval0 hW
 intro ds h
 match ds,h with
 | [_],_=>exact⟨rfl,rfl,rfl⟩
theorem tree_copies:Rows.TreeCopiesSaid:=
 OpenClaim.holds_of_wide 4 Try.f4 rfl rfl rfl rfl rfl rfl rfl ⟨rfl,rfl,rfl,rfl,rfl⟩ rfl rfl rfl rfl rfl (by kernel_rfl) Try.func4 (by kernel_rfl)
  (of_decide_eq_true (by kernel_rfl)) (by unfold Func.isWrapper;first | (rw[if_pos (by decide+kernel)];kernel_rfl) | (rw[if_neg (by decide+kernel)];exact⟨rfl,rfl⟩))
  (fun os started H enc _=>tree_copies_lifted os started H enc)
end Go.Proofs.Ytiiojajgajnhpaa
