/- TopAutos. No condition. (Part 7.) -/
import Derived.Carry
import Derived.ChangeSame
import Derived.ChangeOld
import Derived.ChangeCalls
import Derived.WideShapes
import Derived.Test.YtmggjbjpklecgaaGreatDoorRows
import Derived.Test.YtmggjbjpklecgaaGreatDoorTie
import Derived.Test.YtmggjbjpklecgaaGreatDoorCards
import Derived.JoinedOf
import Derived.JoinedAt
import Derived.RowKit
import Derived.RowKit2
import Derived.ReadAgain
import Derived.ChangeAlike
import Derived.Lay
import Derived.Handed
import Derived.LaidSub
import Derived.LaidLaws
import Derived.LaidHandle
import Derived.MakeChecks
import Derived.SevenTiedAt
import Derived.Lib.LaidTab
import Derived.Lib.LaidU8
import Derived.Test.YtmggjbjpklecgaaGreatDoorTauF
set_option linter.unusedVariables false
set_option linter.unusedSimpArgs false
set_option maxRecDepth 100000
set_option maxHeartbeats 40000000
set_option linter.unusedVariables false
noncomputable section
namespace Go.Proofs.YtmggjbjpklecgaaGreatDoor
open Go Go.AM
def Mx:Nat->LD->Int->BA->LD->LD->LD->Bool->Option (Bool)
 | 0,_,_,_,_,_,_,_=>none
 | n+1,l1,z4,s5,l6,l19,l20,b83=>
  (if b83=true then some false else bO4 (Xk n l1 l19 l20) fun b84 l85 l86 l87=>Ak (!b84) fun b88=>(if b88=true then some true else bO4 (Ly n z4 s5 l6 false l85 l86 l87) fun b89 l90 l91 l92=>Ak (!b89) fun b93=>(if b93=true then bO4 (Ly n z4 s5 l6 true l90 l91 l92) fun b94 l95 l96 l97=>Ak (!b94) fun b98=>(if b98=true then some true else bO1 (UY n l1 z4 s5 l6) fun b99=>some b99)else bO1 (F9 n l1 z4 s5 l6) fun b100=>(if b100=true then bO4 (Ly n z4 s5 l6 true l90 l91 l92) fun b101 l102 l103 l104=>Ak (!b101) fun b105=>(if b105=true then some true else bO1 (UY n l1 z4 s5 l6) fun b106=>some b106)else some false))))
mutual
def My:Nat->LD->LD->LD->Int->BA->LD->Int->LD->LD->LD->LD->Option (Bool)
 | 0,_,_,_,_,_,_,_,_,_,_,_=>none
 | n+1,l1,l2,l3,z4,s5,l6,z16,l17,l18,l19,l20=>
  Ad l1 fun z21=>(if z16<z21 then Mz n l1 l2 l3 z4 s5 l6 z16 l17 l18 l19 l20 true else Mz n l1 l2 l3 z4 s5 l6 z16 l17 l18 l19 l20 false)
def Mz:Nat->LD->LD->LD->Int->BA->LD->Int->LD->LD->LD->LD->Bool->Option (Bool)
 | 0,_,_,_,_,_,_,_,_,_,_,_,_=>none
 | n+1,l1,l2,l3,z4,s5,l6,z16,l17,l18,l19,l20,b22=>
  (if b22=true then BT l1 z16 fun x23=>Bv x23 fun z24 s25 l26 z27 s28 l29 l30 z31 z32 s33 s34 s35 l36 l37 z38 z39=>bO1 (F9 n l1 (4:Int) s25 ([]:LD)) fun b40=>Ms [.bool b40] fun l41=>D3 1 l17 l41 fun l42=>bO1 (UY n l1 (4:Int) s25 ([]:LD)) fun b43=>Ms [.bool b43] fun l44=>D3 1 l18 l44 fun l45=>Ad l2 fun z46=>(if z16<z46 then BT l2 z16 fun x47=>CE x47 fun b48=>Ms [.bool b48] fun l49=>D3 1 l19 l49 fun l50=>Ob n l1 l2 l3 z4 s5 l6 z16 l20 l42 l45 l50 else Ms [.bool false] fun l51=>D3 1 l19 l51 fun l52=>Ob n l1 l2 l3 z4 s5 l6 z16 l20 l42 l45 l52)else bO4 (Xk n l1 l17 l18) fun b66 l67 l68 l69=>Ak (!b66) fun b70=>(if b70=true then Mx n l1 z4 s5 l6 l19 l20 true else bO4 (Ly n z4 s5 l6 false l67 l68 l69) fun b71 l72 l73 l74=>bO1 (F9 n l1 z4 s5 l6) fun b75=>Ak (!(b71==b75)) fun b76=>(if b76=true then Mx n l1 z4 s5 l6 l19 l20 true else bO4 (Ly n z4 s5 l6 true l72 l73 l74) fun b77 l78 l79 l80=>bO1 (UY n l1 z4 s5 l6) fun b81=>Ak (!(b77==b81)) fun b82=>Mx n l1 z4 s5 l6 l19 l20 b82)))
def Ob:Nat->LD->LD->LD->Int->BA->LD->Int->LD->LD->LD->LD->Option (Bool)
 | 0,_,_,_,_,_,_,_,_,_,_,_=>none
 | n+1,l1,l2,l3,z4,s5,l6,z16,l20,l42,l45,l53=>
  Ad l3 fun z54=>(if z16<z54 then BT l3 z16 fun x55=>CE x55 fun b56=>Ms [.bool b56] fun l57=>D3 1 l20 l57 fun l58=>Oc n l1 l2 l3 z4 s5 l6 z16 l42 l45 l53 l58 else Ms [.bool false] fun l59=>D3 1 l20 l59 fun l60=>Oc n l1 l2 l3 z4 s5 l6 z16 l42 l45 l53 l60)
def Oc:Nat->LD->LD->LD->Int->BA->LD->Int->LD->LD->LD->LD->Option (Bool)
 | 0,_,_,_,_,_,_,_,_,_,_,_=>none
 | n+1,l1,l2,l3,z4,s5,l6,z16,l61,l62,l63,l64=>
  Al (IntKind.wrap .i64 (z16+1)) fun z65=>My n l1 l2 l3 z4 s5 l6 z65 l61 l62 l63 l64
end
def KW:Nat->LD->LD->LD->Int->BA->LD->Bool->Option (Bool)
 | 0,_,_,_,_,_,_,_=>none
 | n+1,l1,l2,l3,z4,s5,l6,b15=>
  (if b15=true then some true else My n l1 l2 l3 z4 s5 l6 (0:Int) ([]:LD) ([]:LD) ([]:LD) ([]:LD))
def F3 (n:Nat) (l1:LD) (l2:LD) (l3:LD) (z4:Int) (s5:BA) (l6:LD):Option (Bool):=
 bO1 (F4 n) fun b7=>Ak (!b7) fun b8=>(if b8=true then some false else bO1 (F5 n l1) fun b9=>(if b9=true then KW n l1 l2 l3 z4 s5 l6 true else bO1 (F6 n z4 s5 l6) fun b10=>(if b10=true then KW n l1 l2 l3 z4 s5 l6 true else bO1 (F7 n l1) fun b11=>Ak (!b11) fun b12=>(if b12=true then KW n l1 l2 l3 z4 s5 l6 true else bO1 (F8 n z4 s5 l6 (40:Int)) fun b13=>Ak (!b13) fun b14=>KW n l1 l2 l3 z4 s5 l6 b14))))
theorem T3 (n:Nat):∀⦃l1 l2 l3 z4 s5 l6 r1⦄,F3 n l1 l2 l3 z4 s5 l6=some r1->
    AW Tryz.prog inv 3 [.d (.agg [.list true 16 l1]),.d (.list false 1 l2),.d (.list false 1 l3),.d (.agg [.int .u8 z4,.str s5,.list true 3 l6])] [] (.v (.d (.bool r1))) [] []:=by
 intro l1 l2 l3 z4 s5 l6 r1 h
 unfold F3 at h
 refine AW.of Ab AO Bp Tryz.func3 rfl (by kernel_rfl) rfl rfl rfl (fun M hM hI=>?_)
 try cbv
 refine AB ?_
 try cbv
 refine AB ?_
 try cbv
 refine AB ?_
 try cbv
 replace h:=AG h
 obtain⟨b7,hr,h⟩:=h
 refine AD rfl rfl ?_
 try cbv
 refine AE hM hI (T4 _ hr) rfl ?_
 clear hr
 try cbv
 replace h:=AL h
 obtain⟨b8,hz,h⟩:=h
 refine⟨b8,AU hz,?_⟩
 clear hz
 try cbv
 cases b8
 rotate_left
 ·replace h:=Aq h
  try cbv
  refine AB ?_
  try cbv
  obtain rfl:=Option.some.inj h
  refine AF ?_
  try cbv
  exact⟨[],by trivial⟩
 replace h:=Ar h
 try cbv
 refine AB ?_
 try cbv
 refine AH 30 [1,2,4,7,8,30] [.loc 0,.loc 32] 672 (fun m b=>m<=n/\KW m l1 l2 l3 z4 s5 l6 b=some r1) ?_ ?_
 ·try cbv
  replace h:=AG h
  obtain⟨b9,hr,h⟩:=h
  refine AD rfl rfl ?_
  try cbv
  refine AE hM hI (T5 _ hr) rfl ?_
  clear hr
  try cbv
  cases b9
  rotate_left
  ·replace h:=Aq h
   try cbv
   exact AA (n,true) [1,2,4,7,8,30] [.loc 0,.loc 32] 672 ⟨by omega,h⟩ (by cbv)
  replace h:=Ar h
  try cbv
  replace h:=AG h
  obtain⟨b10,hr,h⟩:=h
  refine AD rfl rfl ?_
  try cbv
  refine AE hM hI (T6 _ hr) rfl ?_
  clear hr
  try cbv
  cases b10
  rotate_left
  ·replace h:=Aq h
   try cbv
   exact AA (n,true) [1,2,4,7,8,30] [.loc 0,.loc 32] 672 ⟨by omega,h⟩ (by cbv)
  replace h:=Ar h
  try cbv
  replace h:=AG h
  obtain⟨b11,hr,h⟩:=h
  refine AD rfl rfl ?_
  try cbv
  refine AE hM hI (T7 _ hr) rfl ?_
  clear hr
  try cbv
  replace h:=AL h
  obtain⟨b12,hz,h⟩:=h
  refine⟨b12,AU hz,?_⟩
  clear hz
  try cbv
  cases b12
  ·replace h:=Ar h
   try cbv
   replace h:=AG h
   obtain⟨b13,hr,h⟩:=h
   refine AD rfl rfl ?_
   try cbv
   refine AE hM hI (T8 _ hr) rfl ?_
   clear hr
   try cbv
   replace h:=AL h
   obtain⟨b14,hz,h⟩:=h
   refine⟨b14,AU hz,?_⟩
   clear hz
   try cbv
   exact AA (n,b14) [1,2,4,7,8,30] [.loc 0,.loc 32] 672 ⟨by omega,h⟩ (by cbv)
  replace h:=Aq h
  try cbv
  exact AA (n,true) [1,2,4,7,8,30] [.loc 0,.loc 32] 672 ⟨by omega,h⟩ (by cbv)
 clear h
 rintro⟨m1,b15⟩ ⟨hm1,h⟩
 try cbv
 replace hm1:m1<=n:=hm1
 obtain _ | m1:=m1
 ·replace h:KW 0 l1 l2 l3 z4 s5 l6 b15=some r1:=h
  rw[KW]at h
  cases h
 replace h:KW (m1+1) l1 l2 l3 z4 s5 l6 b15=some r1:=h
 rw[KW]at h
 try cbv
 cases b15
 rotate_left
 ·replace h:=Aq h
  try cbv
  refine AB ?_
  try cbv
  obtain rfl:=Option.some.inj h
  refine AF ?_
  try cbv
  exact⟨[],by trivial⟩
 replace h:=Ar h
 try cbv
 refine AB ?_
 try cbv
 refine drawn ?_ ?_
 ·show _=true
  kernel_rfl
 try cbv
 refine AB ?_
 try cbv
 refine AB ?_
 try cbv
 refine FE (T:=Nat×Int×LD×LD×LD×LD) [.treeC (.loc 736) 1 false 1,.treeC (.loc 736) 2 false 1,.treeC (.loc 832) 1 false 1,.treeC (.loc 832) 2 false 1] [] [1,2,4,7,8,9,10,11] [.loc 0,.loc 32,.loc 736,.loc 960,.loc 992,.loc 832,.loc 1024,.loc 1056] 1088 (fun t=>⟨[sF 1 1 l2,sF 2 1 l3,sL 4 0,sL 7 32,sB 8 false,sL 9 736,sL 10 832,sI 11 t.2.1],[(.loc 0,.cells [.d (.list true 16 l1)]),(.loc 32,.cells [.d (.int .u8 z4),.d (.str s5),.d (.list true 3 l6)]),(.loc 736,.cells [.d (.list true 16 l1),.ow (.loc 960),.ow (.loc 992)]),(.loc 960,.tree .row false 1 t.2.2.1 none),(.loc 992,.tree .row false 1 t.2.2.2.1 none),(.loc 832,.cells [.d (.list true 16 l1),.ow (.loc 1024),.ow (.loc 1056)]),(.loc 1024,.tree .row false 1 t.2.2.2.2.1 none),(.loc 1056,.tree .row false 1 t.2.2.2.2.2 none)],1088⟩)
   (fun t=>t.1<=m1/\My t.1 l1 l2 l3 z4 s5 l6 t.2.1 t.2.2.1 t.2.2.2.1 t.2.2.2.2.1 t.2.2.2.2.2=some r1) (fun t=>t.1) (m1,((0:Int),([]:LD),([]:LD),([]:LD),([]:LD))) ⟨Nat.le_refl _,h⟩ (by cbv) ?_
 clear h
 rintro⟨m2,z16,l17,l18,l19,l20⟩ ⟨hm2,h⟩
 replace hm2:m2<=m1:=hm2
 obtain _ | m2:=m2
 ·replace h:My 0 l1 l2 l3 z4 s5 l6 z16 l17 l18 l19 l20=some r1:=h
  rw[My]at h
  cases h
 replace h:My (m2+1) l1 l2 l3 z4 s5 l6 z16 l17 l18 l19 l20=some r1:=h
 rw[My]at h
 try cbv
 refine AB ?_
 try cbv
 refine AH 41 [1,2,4,7,8,9,10,11,41] [.loc 0,.loc 32,.loc 736,.loc 960,.loc 992,.loc 832,.loc 1024,.loc 1056] 1248 (fun m b=>m<=m2/\Mz m l1 l2 l3 z4 s5 l6 z16 l17 l18 l19 l20 b=some r1) ?_ ?_
 ·try cbv
  replace h:=AP M h
  obtain⟨z21,hz,h⟩:=h
  refine⟨z21,hz,?_⟩
  clear hz
  try cbv
  refine Aa (fun e=>?_) (fun e=>?_)
  ·replace h:=AJ e h
   clear e
   try cbv
   exact AA (m2,true) [1,2,4,7,8,9,10,11,41] [.loc 0,.loc 32,.loc 736,.loc 960,.loc 992,.loc 832,.loc 1024,.loc 1056] 1248 ⟨by omega,h⟩ (by cbv)
  replace h:=AK (Int.not_lt.2 e) h
  clear e
  try cbv
  exact AA (m2,false) [1,2,4,7,8,9,10,11,41] [.loc 0,.loc 32,.loc 736,.loc 960,.loc 992,.loc 832,.loc 1024,.loc 1056] 1248 ⟨by omega,h⟩ (by cbv)
 clear h
 rintro⟨m3,b22⟩ ⟨hm3,h⟩
 try cbv
 replace hm3:m3<=m2:=hm3
 obtain _ | m3:=m3
 ·replace h:Mz 0 l1 l2 l3 z4 s5 l6 z16 l17 l18 l19 l20 b22=some r1:=h
  rw[Mz]at h
  cases h
 replace h:Mz (m3+1) l1 l2 l3 z4 s5 l6 z16 l17 l18 l19 l20 b22=some r1:=h
 rw[Mz]at h
 try cbv
 cases b22
 ·replace h:=Ar h
  try cbv
  refine AB ?_
  try cbv
  refine AH 133 [4,7,8,10,133] [.loc 0,.loc 32,.loc 832,.loc 1024,.loc 1056] 1920 (fun m b=>m<=m3/\Mx m l1 z4 s5 l6 l19 l20 b=some r1) ?_ ?_
  ·try cbv
   replace h:=BR h
   obtain⟨b66,l67,l68,l69,hr,h⟩:=h
   first | refine .inr (.inl ⟨[],?_⟩) | refine .inl ⟨[],?_⟩
   try cbv
   refine AI hM hI [.loc 736,.loc 960,.loc 992] (bM _ hr) rfl (by simp) ⟨rfl,⟨rfl,⟨rfl,trivial⟩⟩⟩ ⟨trivial,⟨trivial,⟨trivial,trivial⟩⟩⟩ (by simp) ?_
   clear hr
   try cbv
   replace h:=AL h
   obtain⟨b70,hz,h⟩:=h
   refine⟨b70,AU hz,?_⟩
   clear hz
   try cbv
   cases b70
   rotate_left
   ·replace h:=Aq h
    try cbv
    refine drawn ?_ ?_
    ·show _=true
     kernel_rfl
    try cbv
    exact AA (m3,true) [4,7,8,10,133] [.loc 0,.loc 32,.loc 832,.loc 1024,.loc 1056] 1920 ⟨by omega,h⟩ (by cbv)
   replace h:=Ar h
   try cbv
   replace h:=BR h
   obtain⟨b71,l72,l73,l74,hr,h⟩:=h
   first | refine .inr (.inl ⟨[],?_⟩) | refine .inl ⟨[],?_⟩
   try cbv
   refine AI hM hI [.loc 736,.loc 960,.loc 992] (WU _ hr) rfl (by simp) ⟨rfl,⟨rfl,⟨rfl,trivial⟩⟩⟩ ⟨trivial,⟨trivial,⟨trivial,trivial⟩⟩⟩ (by simp) ?_
   clear hr
   try cbv
   replace h:=AG h
   obtain⟨b75,hr,h⟩:=h
   first | refine .inr (.inl ⟨[],?_⟩) | refine .inl ⟨[],?_⟩
   try cbv
   refine AE hM hI (T9 _ hr) rfl ?_
   clear hr
   try cbv
   replace h:=AL h
   obtain⟨b76,hz,h⟩:=h
   refine⟨b76,Qf hz,?_⟩
   clear hz
   try cbv
   cases b76
   rotate_left
   ·replace h:=Aq h
    try cbv
    refine drawn ?_ ?_
    ·show _=true
     kernel_rfl
    try cbv
    exact AA (m3,true) [4,7,8,10,133] [.loc 0,.loc 32,.loc 832,.loc 1024,.loc 1056] 1920 ⟨by omega,h⟩ (by cbv)
   replace h:=Ar h
   try cbv
   replace h:=BR h
   obtain⟨b77,l78,l79,l80,hr,h⟩:=h
   first | refine .inr (.inl ⟨[],?_⟩) | refine .inl ⟨[],?_⟩
   try cbv
   refine AI hM hI [.loc 736,.loc 960,.loc 992] (WU _ hr) rfl (by simp) ⟨rfl,⟨rfl,⟨rfl,trivial⟩⟩⟩ ⟨trivial,⟨trivial,⟨trivial,trivial⟩⟩⟩ (by simp) ?_
   clear hr
   try cbv
   replace h:=AG h
   obtain⟨b81,hr,h⟩:=h
   first | refine .inr (.inl ⟨[],?_⟩) | refine .inl ⟨[],?_⟩
   try cbv
   refine AE hM hI (Ym _ hr) rfl ?_
   clear hr
   try cbv
   replace h:=AL h
   obtain⟨b82,hz,h⟩:=h
   refine⟨b82,Qf hz,?_⟩
   clear hz
   try cbv
   refine drawn ?_ ?_
   ·show _=true
    kernel_rfl
   try cbv
   exact AA (m3,b82) [4,7,8,10,133] [.loc 0,.loc 32,.loc 832,.loc 1024,.loc 1056] 1920 ⟨by omega,h⟩ (by cbv)
  clear h
  rintro⟨m6,b83⟩ ⟨hm6,h⟩
  try cbv
  replace hm6:m6<=m3:=hm6
  obtain _ | m6:=m6
  ·replace h:Mx 0 l1 z4 s5 l6 l19 l20 b83=some r1:=h
   rw[Mx]at h
   cases h
  replace h:Mx (m6+1) l1 z4 s5 l6 l19 l20 b83=some r1:=h
  rw[Mx]at h
  try cbv
  cases b83
  rotate_left
  ·replace h:=Aq h
   try cbv
   refine AB ?_
   try cbv
   obtain rfl:=Option.some.inj h
   refine AF ?_
   try cbv
   exact⟨[],by trivial⟩
  replace h:=Ar h
  try cbv
  refine AB ?_
  try cbv
  refine AB ?_
  try cbv
  replace h:=BR h
  obtain⟨b84,l85,l86,l87,hr,h⟩:=h
  refine AD rfl rfl ?_
  try cbv
  refine AI hM hI [.loc 832,.loc 1024,.loc 1056] (bM _ hr) rfl (by simp) ⟨rfl,⟨rfl,⟨rfl,trivial⟩⟩⟩ ⟨trivial,⟨trivial,⟨trivial,trivial⟩⟩⟩ (by simp) ?_
  clear hr
  try cbv
  replace h:=AL h
  obtain⟨b88,hz,h⟩:=h
  refine⟨b88,AU hz,?_⟩
  clear hz
  try cbv
  cases b88
  rotate_left
  ·replace h:=Aq h
   try cbv
   refine AB ?_
   try cbv
   obtain rfl:=Option.some.inj h
   refine AF ?_
   try cbv
   exact⟨[],by trivial⟩
  replace h:=Ar h
  try cbv
  refine AB ?_
  try cbv
  replace h:=BR h
  obtain⟨b89,l90,l91,l92,hr,h⟩:=h
  refine AD rfl rfl ?_
  try cbv
  refine AI hM hI [.loc 832,.loc 1024,.loc 1056] (WU _ hr) rfl (by simp) ⟨rfl,⟨rfl,⟨rfl,trivial⟩⟩⟩ ⟨trivial,⟨trivial,⟨trivial,trivial⟩⟩⟩ (by simp) ?_
  clear hr
  try cbv
  replace h:=AL h
  obtain⟨b93,hz,h⟩:=h
  refine⟨b93,AU hz,?_⟩
  clear hz
  try cbv
  cases b93
  rotate_left
  ·replace h:=Aq h
   try cbv
   replace h:=BR h
   obtain⟨b94,l95,l96,l97,hr,h⟩:=h
   refine AD rfl rfl ?_
   try cbv
   refine AI hM hI [.loc 832,.loc 1024,.loc 1056] (WU _ hr) rfl (by simp) ⟨rfl,⟨rfl,⟨rfl,trivial⟩⟩⟩ ⟨trivial,⟨trivial,⟨trivial,trivial⟩⟩⟩ (by simp) ?_
   clear hr
   try cbv
   replace h:=AL h
   obtain⟨b98,hz,h⟩:=h
   refine⟨b98,AU hz,?_⟩
   clear hz
   try cbv
   cases b98
   ·replace h:=Ar h
    try cbv
    replace h:=AG h
    obtain⟨b99,hr,h⟩:=h
    refine AD rfl rfl ?_
    try cbv
    refine AE hM hI (Ym _ hr) rfl ?_
    clear hr
    try cbv
    obtain rfl:=Option.some.inj h
    refine AF ?_
    try cbv
    exact⟨[],by trivial⟩
   replace h:=Aq h
   try cbv
   obtain rfl:=Option.some.inj h
   refine AF ?_
   try cbv
   exact⟨[],by trivial⟩
  replace h:=Ar h
  try cbv
  replace h:=AG h
  obtain⟨b100,hr,h⟩:=h
  refine AD rfl rfl ?_
  try cbv
  refine AE hM hI (T9 _ hr) rfl ?_
  clear hr
  try cbv
  cases b100
  ·replace h:=Ar h
   try cbv
   obtain rfl:=Option.some.inj h
   refine AF ?_
   try cbv
   exact⟨[],by trivial⟩
  replace h:=Aq h
  try cbv
  replace h:=BR h
  obtain⟨b101,l102,l103,l104,hr,h⟩:=h
  refine AD rfl rfl ?_
  try cbv
  refine AI hM hI [.loc 832,.loc 1024,.loc 1056] (WU _ hr) rfl (by simp) ⟨rfl,⟨rfl,⟨rfl,trivial⟩⟩⟩ ⟨trivial,⟨trivial,⟨trivial,trivial⟩⟩⟩ (by simp) ?_
  clear hr
  try cbv
  replace h:=AL h
  obtain⟨b105,hz,h⟩:=h
  refine⟨b105,AU hz,?_⟩
  clear hz
  try cbv
  cases b105
  ·replace h:=Ar h
   try cbv
   replace h:=AG h
   obtain⟨b106,hr,h⟩:=h
   refine AD rfl rfl ?_
   try cbv
   refine AE hM hI (Ym _ hr) rfl ?_
   clear hr
   try cbv
   obtain rfl:=Option.some.inj h
   refine AF ?_
   try cbv
   exact⟨[],by trivial⟩
  replace h:=Aq h
  try cbv
  obtain rfl:=Option.some.inj h
  refine AF ?_
  try cbv
  exact⟨[],by trivial⟩
 replace h:=Aq h
 try cbv
 refine Aw (T:=Nat×LD×LD×LD×LD) (fun t=>⟨[sF 1 1 l2,sF 2 1 l3,sL 4 0,sL 7 32,sB 8 false,sL 9 736,sL 10 832,sI 11 z16],[(.loc 0,.cells [.d (.list true 16 l1)]),(.loc 32,.cells [.d (.int .u8 z4),.d (.str s5),.d (.list true 3 l6)]),(.loc 736,.cells [.d (.list true 16 l1),.ow (.loc 1824),.ow (.loc 2240)]),(.loc 1824,.tree .row false 1 t.2.1 none),(.loc 2240,.tree .row false 1 t.2.2.1 none),(.loc 832,.cells [.d (.list true 16 l1),.ow (.loc 2880),.ow (.loc 3520)]),(.loc 2880,.tree .row false 1 t.2.2.2.1 none),(.loc 3520,.tree .row false 1 t.2.2.2.2 none)],3648⟩) (fun t=>t.1<=m3/\Oc t.1 l1 l2 l3 z4 s5 l6 z16 t.2.1 t.2.2.1 t.2.2.2.1 t.2.2.2.2=some r1) ?_ ?_
 rotate_left
 ·clear h
  rintro⟨m5,l61,l62,l63,l64⟩ ⟨hm5,h⟩
  replace hm5:m5<=m3:=hm5
  obtain _ | m5:=m5
  ·replace h:Oc 0 l1 l2 l3 z4 s5 l6 z16 l61 l62 l63 l64=some r1:=h
   rw[Oc]at h
   cases h
  replace h:Oc (m5+1) l1 l2 l3 z4 s5 l6 z16 l61 l62 l63 l64=some r1:=h
  rw[Oc]at h
  try cbv
  replace h:=AN h
  obtain⟨z65,hz,h⟩:=h
  refine⟨z65,hz,?_⟩
  clear hz
  try cbv
  refine EI (m5,(z65,l61,l62,l63,l64)) [] [(1824,960),(2240,992),(2880,1024),(3520,1056)] [1,2,4,7,8,9,10,11] [.loc 0,.loc 32,.loc 736,.loc 1824,.loc 2240,.loc 832,.loc 2880,.loc 3520] 1088 ⟨by omega,h⟩ (Nat.lt_succ_of_le (by omega)) ?_
  try cbv
 try cbv
 refine AB ?_
 try cbv
 replace h:=Ae h
 obtain⟨x23,⟨hx0,hx⟩,h⟩:=h
 refine⟨x23,hx0,hx,?_⟩
 clear hx0 hx
 replace h:=B4 h
 obtain⟨z24,s25,l26,z27,s28,l29,l30,z31,z32,s33,s34,s35,l36,l37,z38,z39,rfl,h⟩:=h
 try cbv
 refine AB ?_
 try cbv
 replace h:=AG h
 obtain⟨b40,hr,h⟩:=h
 first | refine .inr (.inl ⟨[],?_⟩) | refine .inl ⟨[],?_⟩
 try cbv
 refine AE hM hI (T9 _ hr) rfl ?_
 clear hr
 try cbv
 refine⟨true,?_⟩
 try cbv
 refine⟨[],?_⟩
 try cbv
 replace h:=FD h
 obtain⟨l41,hz,h⟩:=h
 refine⟨l41,hz,?_⟩
 clear hz
 try cbv
 refine⟨true,?_⟩
 try cbv
 refine⟨true,?_⟩
 try cbv
 refine⟨[],?_⟩
 try cbv
 replace h:=B2 h
 obtain⟨l42,hb,hz,h⟩:=h
 refine⟨(M.lock_iff _).2 hb,l42,hz,?_⟩
 clear hb hz
 try cbv
 refine drawn ?_ ?_
 ·show _=true
  kernel_rfl
 try cbv
 refine AB ?_
 try cbv
 replace h:=AG h
 obtain⟨b43,hr,h⟩:=h
 first | refine .inr (.inl ⟨[],?_⟩) | refine .inl ⟨[],?_⟩
 try cbv
 refine AE hM hI (Ym _ hr) rfl ?_
 clear hr
 try cbv
 refine⟨true,?_⟩
 try cbv
 refine⟨[],?_⟩
 try cbv
 replace h:=FD h
 obtain⟨l44,hz,h⟩:=h
 refine⟨l44,hz,?_⟩
 clear hz
 try cbv
 refine⟨true,?_⟩
 try cbv
 refine⟨true,?_⟩
 try cbv
 refine⟨[],?_⟩
 try cbv
 replace h:=B2 h
 obtain⟨l45,hb,hz,h⟩:=h
 refine⟨(M.lock_iff _).2 hb,l45,hz,?_⟩
 clear hb hz
 try cbv
 refine drawn ?_ ?_
 ·show _=true
  kernel_rfl
 try cbv
 refine Aw (T:=Nat×LD) (fun t=>⟨[sF 1 1 l2,sF 2 1 l3,sL 4 0,sL 7 32,sB 8 false,sL 9 736,sL 10 832,sI 11 z16],[(.loc 0,.cells [.d (.list true 16 l1)]),(.loc 32,.cells [.d (.int .u8 z4),.d (.str s5),.d (.list true 3 l6)]),(.loc 736,.cells [.d (.list true 16 l1),.ow (.loc 1824),.ow (.loc 2240)]),(.loc 1824,.tree .row false 1 l42 none),(.loc 2240,.tree .row false 1 l45 none),(.loc 832,.cells [.d (.list true 16 l1),.ow (.loc 2880),.ow (.loc 1056)]),(.loc 2880,.tree .row false 1 t.2 none),(.loc 1056,.tree .row false 1 l20 none)],3008⟩) (fun t=>t.1<=m3/\Ob t.1 l1 l2 l3 z4 s5 l6 z16 l20 l42 l45 t.2=some r1) ?_ ?_
 ·try cbv
  replace h:=AP M h
  obtain⟨z46,hz,h⟩:=h
  refine⟨z46,hz,?_⟩
  clear hz
  try cbv
  refine Aa (fun e=>?_) (fun e=>?_)
  ·replace h:=AJ e h
   clear e
   try cbv
   replace h:=Ae h
   obtain⟨x47,⟨hx0,hx⟩,h⟩:=h
   refine⟨x47,hx0,hx,?_⟩
   clear hx0 hx
   replace h:=Cn h
   obtain⟨b48,rfl,h⟩:=h
   try cbv
   refine⟨true,?_⟩
   try cbv
   refine⟨[],?_⟩
   try cbv
   replace h:=FD h
   obtain⟨l49,hz,h⟩:=h
   refine⟨l49,hz,?_⟩
   clear hz
   try cbv
   refine⟨true,?_⟩
   try cbv
   refine⟨true,?_⟩
   try cbv
   refine⟨[],?_⟩
   try cbv
   replace h:=B2 h
   obtain⟨l50,hb,hz,h⟩:=h
   refine⟨(M.lock_iff _).2 hb,l50,hz,?_⟩
   clear hb hz
   try cbv
   refine drawn ?_ ?_
   ·show _=true
    kernel_rfl
   try cbv
   exact AA (m3,l50) [1,2,4,7,8,9,10,11] [.loc 0,.loc 32,.loc 736,.loc 1824,.loc 2240,.loc 832,.loc 2880,.loc 1056] 3008 ⟨by omega,h⟩ (by cbv)
  replace h:=AK (Int.not_lt.2 e) h
  clear e
  try cbv
  refine⟨true,?_⟩
  try cbv
  refine⟨[],?_⟩
  try cbv
  replace h:=FD h
  obtain⟨l51,hz,h⟩:=h
  refine⟨l51,hz,?_⟩
  clear hz
  try cbv
  refine⟨true,?_⟩
  try cbv
  refine⟨true,?_⟩
  try cbv
  refine⟨[],?_⟩
  try cbv
  replace h:=B2 h
  obtain⟨l52,hb,hz,h⟩:=h
  refine⟨(M.lock_iff _).2 hb,l52,hz,?_⟩
  clear hb hz
  try cbv
  refine drawn ?_ ?_
  ·show _=true
   kernel_rfl
  try cbv
  exact AA (m3,l52) [1,2,4,7,8,9,10,11] [.loc 0,.loc 32,.loc 736,.loc 1824,.loc 2240,.loc 832,.loc 2880,.loc 1056] 3008 ⟨by omega,h⟩ (by cbv)
 clear h
 rintro⟨m4,l53⟩ ⟨hm4,h⟩
 replace hm4:m4<=m3:=hm4
 obtain _ | m4:=m4
 ·replace h:Ob 0 l1 l2 l3 z4 s5 l6 z16 l20 l42 l45 l53=some r1:=h
  rw[Ob]at h
  cases h
 replace h:Ob (m4+1) l1 l2 l3 z4 s5 l6 z16 l20 l42 l45 l53=some r1:=h
 rw[Ob]at h
 try cbv
 replace h:=AP M h
 obtain⟨z54,hz,h⟩:=h
 refine⟨z54,hz,?_⟩
 clear hz
 try cbv
 refine Aa (fun e=>?_) (fun e=>?_)
 ·replace h:=AJ e h
  clear e
  try cbv
  replace h:=Ae h
  obtain⟨x55,⟨hx0,hx⟩,h⟩:=h
  refine⟨x55,hx0,hx,?_⟩
  clear hx0 hx
  replace h:=Cn h
  obtain⟨b56,rfl,h⟩:=h
  try cbv
  refine⟨true,?_⟩
  try cbv
  refine⟨[],?_⟩
  try cbv
  replace h:=FD h
  obtain⟨l57,hz,h⟩:=h
  refine⟨l57,hz,?_⟩
  clear hz
  try cbv
  refine⟨true,?_⟩
  try cbv
  refine⟨true,?_⟩
  try cbv
  refine⟨[],?_⟩
  try cbv
  replace h:=B2 h
  obtain⟨l58,hb,hz,h⟩:=h
  refine⟨(M.lock_iff _).2 hb,l58,hz,?_⟩
  clear hb hz
  try cbv
  refine drawn ?_ ?_
  ·show _=true
   kernel_rfl
  try cbv
  exact AA (m4,(l42,l45,l53,l58)) [1,2,4,7,8,9,10,11] [.loc 0,.loc 32,.loc 736,.loc 1824,.loc 2240,.loc 832,.loc 2880,.loc 3520] 3648 ⟨by omega,h⟩ (by cbv)
 replace h:=AK (Int.not_lt.2 e) h
 clear e
 try cbv
 refine⟨true,?_⟩
 try cbv
 refine⟨[],?_⟩
 try cbv
 replace h:=FD h
 obtain⟨l59,hz,h⟩:=h
 refine⟨l59,hz,?_⟩
 clear hz
 try cbv
 refine⟨true,?_⟩
 try cbv
 refine⟨true,?_⟩
 try cbv
 refine⟨[],?_⟩
 try cbv
 replace h:=B2 h
 obtain⟨l60,hb,hz,h⟩:=h
 refine⟨(M.lock_iff _).2 hb,l60,hz,?_⟩
 clear hb hz
 try cbv
 refine drawn ?_ ?_
 ·show _=true
  kernel_rfl
 try cbv
 exact AA (m4,(l42,l45,l53,l60)) [1,2,4,7,8,9,10,11] [.loc 0,.loc 32,.loc 736,.loc 1824,.loc 2240,.loc 832,.loc 2880,.loc 3520] 3648 ⟨by omega,h⟩ (by cbv)
end Go.Proofs.YtmggjbjpklecgaaGreatDoor
end
set_option linter.unusedVariables false
noncomputable section
namespace Go.Proofs.YtmggjbjpklecgaaGreatDoor
open Go Go.AM
theorem Sa {its:List It}{s:ByteArray}{b:Bool}(h:G3 its (.named s) b):∃f∈BX its s,G3 its f.2 b:=by
 cases h with
 | never h=>simp[never,W.k]at h
 | named hf h=>exact⟨_,hf,h⟩
theorem Ui {its:List It}{k:Int}{t:W}{b:Bool}(h:G3 its (.wrap k t) b):never (.wrap k t) b=true∨G3 its t (both k b).1∨G3 its t (both k b).2:=by
 cases h with
 | never h=>exact .inl h
 | w1 h=>exact .inr (.inl h)
 | w2 h=>exact .inr (.inr h)
theorem Uj {its:List It}{k:Int}{b:Bool}(h:G3 its (.leaf k) b):never (.leaf k) b=true:=by
 cases h with
 | never h=>exact h
structure aQ (its:List It) (S Y:List Bool):Prop where
 s:∀(i:Nat) it,its[i]?=some it→it.k≠3→(S.getD i false=true↔¬G3 its (.named it.nm) false)
 y:∀(i:Nat) it,its[i]?=some it→it.k≠3→(Y.getD i false=true↔¬G3 its (.named it.nm) true)
theorem Mf {its:List It}{S Y:List Bool}(hA:aQ its S Y):∀(w:W) (b:Bool),(Ei its S Y w b=true↔¬G3 its w b)
 | .named s,b=>by
  cases hf:G2 its s with
  | none=>
   have:Ei its S Y (.named s) b=true:=by simp only[Ei,hf]
   simp only[this,true_iff]
   intro h
   obtain⟨f,hm,_⟩:=Sa h
   simp only[BX,hf]at hm
   cases hm
  | some j=>
   obtain⟨it,hit,hk,rfl,_⟩:=D8 hf
   have:Ei its S Y (.named it.nm) b=if b then Y.getD j false else S.getD j false:=by simp only[Ei,hf]
   rw[this]
   cases b with
   | true=>exact hA.y j it hit hk
   | false=>exact hA.s j it hit hk
 | .leaf k,b=>by
  constructor
  ·intro h1 h2
   have h3:(decide (k=7) || (b&&decide (k=6)))=true:=Uj h2
   simp only[Ei]at h1
   simp only[Bool.or_eq_true,Bool.and_eq_true,decide_eq_true_eq]at h3
   rcases h3 with h7 | ⟨hb,h6⟩
   ·rw[if_pos h7]at h1;cases h1
   ·subst hb;rw[if_neg (by omega),if_pos h6]at h1;cases h1
  ·intro h
   simp only[Ei]
   by_cases c7:k=7
   ·exact absurd (.never (by simp[never,W.k,c7])) h
   ·by_cases c6:k=6
    ·rw[if_neg c7,if_pos c6]
     cases b with
     | false=>rfl
     | true=>exact absurd (.never (by simp[never,W.k,c6])) h
    ·rw[if_neg c7,if_neg c6]
 | .wrap k t,b=>by
  have rc:=fun c=>Mf hA t c
  have e:¬G3 its (.wrap k t) b↔never (.wrap k t) b=false∧¬G3 its t (both k b).1∧¬G3 its t (both k b).2:=by
   constructor
   ·intro h
    refine⟨?_,fun h1=>h (.w1 h1),fun h1=>h (.w2 h1)⟩
    cases hn:never (.wrap k t) b with
    | false=>rfl
    | true=>exact absurd (.never hn) h
   ·rintro⟨h1,h2,h3⟩ h
    rcases Ui h with h | h | h
    ·rw[h1]at h;cases h
    ·exact h2 h
    ·exact h3 h
  rw[e,←rc,←rc]
  simp only[Ei,never,W.k,both]
  by_cases c7:k=7
  ·simp[c7]
  by_cases c6:k=6
  ·cases b<;>simp[c6]
  by_cases c8:k=8
  ·simp[c8]
  by_cases c9:k=9∨k=11∨k=12
  ·simp[c7,c6,c8,c9]
  by_cases c13:k=13
  ·simp[c13]
  ·simp[c7,c6,c8,c9,c13]
theorem Sb {its:List It}{S Y:List Bool}(hA:aQ its S Y):Ua its S Y:=by
 intro i it hit hk hf f hm
 have hfl:BX its it.nm=it.fs:=by simp only[BX,hf,hit]
 have hm':f∈BX its it.nm:=by rw[hfl];exact hm
 constructor
 ·intro h
  exact (Mf hA f.2 false).2 fun h1=>(hA.s i it hit hk).1 h (.named hm' h1)
 ·intro h
  exact (Mf hA f.2 true).2 fun h1=>(hA.y i it hit hk).1 h (.named hm' h1)
theorem KQ {its:List It}{S Y:List Bool}(hK:Ua its S Y) {w:W}{b:Bool}(h:G3 its w b):Ei its S Y w b≠true:=by
 induction h with
 | never h=>
  rename_i w b
  simp only[never,Bool.or_eq_true,Bool.and_eq_true,decide_eq_true_eq]at h
  cases w with
  | named s=>rcases h with h | ⟨_,h⟩<;>exact absurd h (by show (4:Int)≠_;omega)
  | leaf k=>
   have h':k=7∨b=true∧k=6:=h
   rcases h' with h7 | ⟨hb,h6⟩
   ·simp[Ei,h7]
   ·simp[Ei,h6,hb]
  | wrap k t=>
   have h':k=7∨b=true∧k=6:=h
   rcases h' with h7 | ⟨hb,h6⟩
   ·simp[Ei,h7]
   ·simp[Ei,h6,hb]
 | named hf h ih=>
  rename_i s b f
  intro hv
  cases hfs:G2 its s with
  | none=>
   simp only[BX,hfs]at hf
   cases hf
  | some j=>
   obtain⟨it,hit,hk,rfl,_⟩:=D8 hfs
   have hfl:BX its it.nm=it.fs:=by simp only[BX,hfs,hit]
   rw[hfl]at hf
   have ok:=hK j it hit hk hfs f hf
   have e:Ei its S Y (.named it.nm) b=if b then Y.getD j false else S.getD j false:=by simp only[Ei,hfs]
   rw[e]at hv
   cases b with
   | true=>exact ih (ok.2 hv)
   | false=>exact ih (ok.1 hv)
 | w1 h ih=>
  rename_i k t b
  intro hv
  refine ih ?_
  simp only[Ei]at hv
  simp only[both]
  by_cases c7:k=7
  ·simp[c7]at hv
  by_cases c6:k=6
  ·cases b
   ·simpa [c6] using hv
   ·simp[c6]at hv
  by_cases c8:k=8
  ·simp only[c8]at hv ⊢
   simp at hv
   simpa using hv.1
  by_cases c9:k=9∨k=11∨k=12
  ·simpa [c7,c6,c8,c9] using hv
  by_cases c13:k=13
  ·simpa [c13] using hv
  ·simpa [c7,c6,c8,c9,c13] using hv
 | w2 h ih=>
  rename_i k t b
  intro hv
  refine ih ?_
  simp only[Ei]at hv
  simp only[both]
  by_cases c7:k=7
  ·simp[c7]at hv
  by_cases c6:k=6
  ·cases b
   ·simpa [c6] using hv
   ·simp[c6]at hv
  by_cases c8:k=8
  ·simp only[c8]at hv ⊢
   simp at hv
   simpa using hv.2
  by_cases c9:k=9∨k=11∨k=12
  ·simpa [c7,c6,c8,c9] using hv
  by_cases c13:k=13
  ·simpa [c13] using hv
  ·simpa [c7,c6,c8,c9,c13] using hv
def nA:ByteArray:=⟨#[97]⟩
def nB:ByteArray:=⟨#[98]⟩
def Uw:List (ByteArray×W):=[(nA,.wrap 8 (.wrap 9 (.named KM))),(nB,.wrap 6 (.leaf 1))]
def M0:List It:=[⟨1,KM,Uw⟩]
def l0:List D:=[.agg [.int .u8 1,.str KM,.list true 4 (Uw.map fd),.int .u8 0,.str ByteArray.empty,.list true 3 [],.list true 15 [],.int .u8 0,.int .i64 0,.str ByteArray.empty,.str ByteArray.empty,.str ByteArray.empty,.list false 1 [],.list true 8 [],.int .i64 0,.int .i64 0]]
theorem XZ:ZI 1000 Ck=some (l0,[]):=by kernel_rfl
theorem aR:nm 65 90 KM=true:=by kernel_rfl
theorem Xa:P1 l0 M0:=by
 refine⟨by simp[l0],by simp[l0,M0],fun i x it hx hit=>?_⟩
 match i with
 | 0=>
  simp[l0]at hx
  simp[M0]at hit
  subst hx
  subst hit
  refine⟨⟨_,_,_,_,_,_,_,_,_,_,_,_,_,_,rfl,fun _=>⟨rfl,rfl,rfl,rfl,rfl⟩⟩,by show (1:Int)≤1;omega,by show (1:Int)≤3;omega,by show KM.size≤maxLen;decide,fun _=>aR,by show Uw.length≤6;simp[Uw],fun f hf=>?_⟩
  have hf:f∈Uw:=hf
  simp only[Uw,List.mem_cons,List.not_mem_nil,or_false]at hf
  rcases hf with rfl | rfl
  ·exact⟨⟨by omega,by omega,trivial⟩,by simp[W.dep],by simp[W.nm,maxLen]⟩
  ·exact⟨⟨by omega,by show (1:Int)≠4;omega⟩,by simp[W.dep],by simp[W.nm,maxLen]⟩
 | i+1=>simp[l0]at hx
theorem aU:G2 M0 KM=some 0:=by
 unfold G2 M0
 rw[List.findIdx?_cons]
 have:EO KM ⟨1,KM,Uw⟩=true:=by
  unfold EO
  rw[decide_eq_true (show (1:Int)≠3 by omega),decide_eq_true rfl]
  rfl
 rw[this]
 rfl
theorem Yw:BX M0 KM=Uw:=by
 simp only[BX,aU]
 rfl
theorem bU:∀(s:ByteArray) (b:Bool),(s=KM∧b=false)→∀f∈BX M0 s,Nb (fun s b=>s=KM∧b=false) f.2 b:=by
 rintro s b ⟨rfl,rfl⟩ f hf
 rw[Yw]at hf
 simp only[Uw,List.mem_cons,List.not_mem_nil,or_false]at hf
 rcases hf with rfl | rfl
 ·simp[Nb,never,both,W.k]
 ·simp[Nb,never,both,W.k]
theorem dS:¬G3 M0 (.named KM) false:=fun h=>Qt bU h ⟨rfl,rfl⟩
theorem aV:G3 M0 (.named KM) true:=.named (f:=(nB,.wrap 6 (.leaf 1))) (by rw[Yw];simp[Uw]) (.never (by simp[never,W.k]))
theorem aW:¬G3 M0 (.wrap 9 (.named KM)) false:=fun h=>Qt bU h (by simp[Nb,never,both,W.k])
theorem dT:Ev (fun n=>F4 n) true:=by
 unfold F4
 have hs:KM.size≤maxLen:=by decide
 have hT:=JZ hs
 rw[aR]at hT
 obtain⟨r1,e1,g1⟩:=Jb Xa (w:=.named KM) trivial (by simp[W.dep]) hT
 obtain⟨r2,e2,g2⟩:=Kv Xa (w:=.named KM) trivial (by simp[W.dep]) hT
 have hT9:Ev (fun n=>Si n (9:Int) ByteArray.empty [(W.named KM).d]) true:=by
  have hrow:Ao tab 28 [(W.named KM).d]:=Ao.one (Z6 (by decide) hs Ao.nil)
  have h8:Ev (fun n=>F8 n 9 ByteArray.empty [(W.named KM).d] 40) true:=by
   refine JY (by simp[maxLen]) (by omega) (by omega) (by omega) (fun c=>absurd c (by rintro (c | c | c | c)<;>omega)) (fun c=>absurd c (by omega)) (fun _ _=>.succ ?_)
   have gx:∀k:D→Option Bool,BT [(W.named KM).d] 0 k=k (W.named KM).d:=fun k=>Ct (by omega) rfl
   simp only[F2,Bool.false_eq_true,if_false,if_true,Ad,List.length_singleton,show (((1:Nat):Int)=1)=True by simp,gx,W.d,Cl,Al,show IntKind.i64.wrap (40 - 1)=39 by decide]
   refine Ev.bO1 (a:=true) ?_ .ret
   refine JY hs (by omega) (by omega) (by omega) (fun c=>absurd c (by rintro (c | c | c | c)<;>omega)) (fun _=>by rw[aR];rfl) (fun _ c=>absurd rfl c)
  exact Ev.bO1 (OT hrow (by simp[maxLen]) (by omega) (by omega) h8) .ret
 obtain⟨r3,e3,g3⟩:=Jb Xa (w:=.wrap 9 (.named KM)) ⟨by omega,trivial⟩ (by simp[W.dep]) hT9
 have q1:r1=true:=g1.2 dS
 have q2:r2=false:=by
  cases r2 with
  | false=>rfl
  | true=>exact absurd aV (g2.1 rfl)
 have q3:r3=true:=g3.2 aW
 subst q1 q2 q3
 refine Ev.bO2 (a:=l0) (b:=[]) (.of fun n=>XZ) ?_
 simp only[Ad,List.length_nil,if_pos (show ((0:Nat):Int)=0 by rfl)]
 refine Ev.bO1 e1 ?_
 simp only[if_true]
 refine Ev.bO1 e2 ?_
 simp only[Ak,Bool.not_false,if_true]
 exact Ev.bO1 e3 .ret
end Go.Proofs.YtmggjbjpklecgaaGreatDoor
end
namespace Go.AM
open Go Go.RowKit Go.ChangeShapes Go.WideShapes
def II (ti:Types):List TypeId→List D→Prop
 | [],[]=>True
 | t::ts,x::xs=>Shape ti t x.cells∧(∀y,ti t=some y→x.isAgg=Ax y.desc)∧II ti ts xs
 | _,_=>False
theorem II.length {ti:Types}:∀{ts:List TypeId}{xs:List D},II ti ts xs→xs.length=ts.length
 | [],[],_=>rfl
 | _::_,_::_,h=>by simp[II.length h.2.2]
 | [],_::_,h=>h.elim
 | _::_,[],h=>h.elim
section
variable {H:Type}{enc:TypeId×Value→H}{P:Program}{ti:Types}{T:List TypeId}{w:World}
theorem Uk (hti:BV P ti) (hT:Lk ti T=true) {Z:Av}(hZ:∀b o,¬Z b o) {base base':Nat}{spare:Nat→Bool}{held:Bool}{r:Reach}{t:TypeId}{v:Value}{d:DataW H}{ps:List MemPlace}(ht:t∈T)
  (hok:Value.okWide P w r base' t v) (h:DataW.Trod enc P w base spare held t v d ps):∃x:D,Shape ti t x.cells∧(∀y,ti t=some y→x.isAgg=Ax y.desc)∧Aj w Z x v:=by
 obtain⟨fuel,h⟩:=h
 obtain⟨ds,hs,h1,h2,h3⟩:=conv hti hT (Z:=Z) hZ fuel t _ _ _ ht h
 have hp:=List.all_eq_true.1 hT t ht
 split at hp
 ·rename_i y hy
  have hu:=(hti t y hy).1
  have single:Ax y.desc=false→v.cells.toList=[v]→∃x:D,Shape ti t x.cells∧(∀y,ti t=some y→x.isAgg=Ax y.desc)∧Aj w Z x v:=by
   intro hr hv
   rw[hv]at h1 h3
   obtain⟨c,rfl⟩:=List.length_eq_one_iff.1 h1
   have hc:=h2 c (by simp)
   have e:c.cells=[c]:=by cases c<;>first | rfl | simp[D.isAgg]at hc
   refine⟨c,by rw[e];exact hs,fun y' hy'=>?_,h3 0 c v rfl rfl⟩
   rw[hy]at hy'
   obtain rfl:y=y':=by simpa using hy'
   rw[hc,hr]
  split at hp
  ·rename_i hd
   rw[hd]at hu
   obtain⟨b,rfl⟩:=okWide_bool hu hok
   exact single (by rw[hd];rfl) rfl
  ·rename_i k hd
   rw[hd]at hu
   obtain⟨b,rfl⟩:=okWide_int hu hok
   exact single (by rw[hd];rfl) rfl
  ·rename_i hd
   rw[hd]at hu
   obtain⟨b,rfl⟩:=okWide_string hu hok
   exact single (by rw[hd];rfl) rfl
  ·rename_i e hd
   rw[hd]at hu
   obtain⟨a,l,c,rfl⟩:=okWide_slice hu hok
   exact single (by rw[hd];rfl) rfl
  ·rename_i fs hd
   rw[hd]at hu
   obtain⟨cs,rfl,_⟩:=okWide_struct hu hok
   refine⟨.agg ds,hs,fun y' hy'=>?_,.agg ds cs (by simpa [Value.cells] using h1.symm) h2 (fun j c u hc hu'=>h3 j c u hc (by simpa [Value.cells] using hu'))⟩
   rw[hy]at hy'
   obtain rfl:y=y':=by simpa using hy'
   rw[hd];rfl
  ·simp at hp
 ·simp at hp
theorem Nd (hti:BV P ti) (hT:Lk ti T=true) {Z:Av}(hZ:∀b o,¬Z b o) {base base':Nat}{spare:Nat→Bool}{held:Bool}{r:Reach}:
  ∀(ts:List TypeId) (vs:List Value) (ds:List (DataW H)) (ps:List MemPlace),(∀t∈ts,t∈T)→DataW.TrodAll enc P w base spare held ts vs ds ps→
   (∀(j:Nat) t v,ts[j]?=some t→vs[j]?=some v→Value.okWide P w r base' t v)→
   ∃xs,II ti ts xs∧∀(j:Nat) x v,xs[j]?=some x→vs[j]?=some v→Aj w Z x v
 | [],vs,ds,ps,_,h,_=>⟨[],trivial,by simp⟩
 | t::ts,vs,ds,ps,ht,h,hok=>by
  obtain⟨v,vs1,d,ds1,a,b,rfl,rfl,rfl,h1,h2⟩:=trodAll_cons h
  obtain⟨x,k1,k2,k3⟩:=Uk hti hT hZ (ht t (by simp)) (hok 0 t v rfl rfl) h1
  obtain⟨xs,k4,k5⟩:=Nd hti hT hZ ts vs1 ds1 b (fun t ht'=>ht t (by simp[ht'])) h2 (fun j t v h1 h2=>hok (j+1) t v (by simpa using h1) (by simpa using h2))
  refine⟨x::xs,⟨k1,k2,k4⟩,fun j x' v' hx hv=>?_⟩
  match j with
  | 0=>simp at hx hv;subst hx;subst hv;exact k3
  | j+1=>simp at hx hv;exact k5 j x' v' hx hv
theorem Nf (hl:laidOutB P=true) {W W':World}(hb:Below W.heap.size W W'):∀(ts:List TypeId) (vs:List Value) (ds:List (DataW H)) (ps:List MemPlace),
  (∀t∈ts,P.readableRec t=true∧t<P.types.size)→DataW.TrodAll enc P W 0 (fun _=>true) true ts vs ds ps→(∀x∈ps,x.block<W.heap.size)→
  DataW.TrodAll enc P W' 0 (fun b=>decide (b<W.heap.size)) true ts vs ds ps
 | [],vs,ds,ps,_,h,_=>by
  obtain⟨rfl,rfl,rfl⟩:=trodAll_nil h
  exact rfl
 | t::ts,vs,ds,ps,ht,h,hlt=>by
  obtain⟨v,vs1,d,ds1,a,b,rfl,rfl,rfl,h1,h2⟩:=trodAll_cons h
  have ht1:=ht t (by simp)
  exact⟨a,b,Below.trod hl ht1.1 ht1.2 h1 hb (fun x hx=>hlt x (by simp[hx])),Nf hl hb ts vs1 ds1 b (fun t ht'=>ht t (by simp[ht'])) h2 (fun x hx=>hlt x (by simp[hx])),rfl⟩
theorem Sc {I:Inv}(hti:BV P ti) (hT:Lk ti T=true) {s:ChangeSpec}{fn:Func}{f:FuncId}{ts:List TypeId}{bt:TypeId}
  (hp:fn.params.toList=ts) (hv:s.vars=[]) (hr:fn.resultTypes=#[bt]) (hb:P.underlying bt=some .bool) (htT:∀t∈ts,t∈T)
  (hs:∀ds:List (DataW H),ds.length=ts.length→(s.fn H ds).results=[.lit (.bool true)]∧(s.fn H ds).args=ds∧(s.fn H ds).vars=[])
  (hl:laidOutB P=true) (hrec:∀t∈ts,P.readableRec t=true∧t<P.types.size)
  (hc:∀xs:List D,II ti ts xs→AW P I f (xs.map V1.d) [] (.v (.d (.bool true))) [] [])
  {W:World} {base:Nat} {args:Array Value} {ds gs:List (DataW H)} {before:List MemPlace}
  (hI:I.at W fun _ _=>False) (hval:∀(j:Nat) t v,fn.params[j]?=some t→args[j]?=some v→Value.okWide P W .any base t v)
  (hW:DataW.Whole enc P fn.params.toList s.vars false W args.toList ds gs before):
  Calls P f args W fun e W'=>∃v,e= .returned v∧s.post enc P fn false true false false W args v W':=by
 have hW':=hW
 obtain⟨p,q,hA,hV,rfl,_,_⟩:=hW
 rw[hv]at hV
 obtain⟨rfl,rfl⟩:gs=[]∧q=[]:=by
  cases gs with
  | nil=>exact⟨rfl,hV⟩
  | cons _ _=>exact hV.elim
 rw[hp]at hA
 obtain⟨hlen,hdl⟩:=trodAll_length hA
 obtain⟨xs,hsh,hrel⟩:=Nd hti hT (Z:=fun _ _=>False) (fun _ _ h=>h) (r:=.any) (base':=base) ts args.toList ds p htT hA (fun j t v h1 h2=>hval j t v (by
  rw[←Array.getElem?_toList,hp];exact h1) (by simpa using h2))
 have hxl:=hsh.length
 have hcall:=hc xs hsh
 have hheap:∀i o,BD [] i=some o→False:=by
  intro i o h
  cases i<;>simp[BD]at h
 have hzone:∀(g:Ac) b o,¬zone g (BD []) b o:=by
  rintro g b o ⟨i,ob,h,_⟩
  exact hheap i ob h
 refine (hcall.calls (w:=W) (X:=fun _ _=>False) (g:=fun _=>undef) (vals:=args) (fun _ _ h=>h.elim) (hI.mono fun b o hz=>hz.elim (hzone _ b o) id) ⟨fun i o h=>(hheap i o h).elim,fun i _ _ _ _ h=>(hheap i _ h).elim,fun i _ _ _ h=>(hheap i _ h).elim⟩ (fun _=>rfl)
  (by simp at hlen;simp;omega) (fun j x v hx hvv=>?_)).mono ?_
 ·simp only[List.getElem?_map,Option.map_eq_some_iff]at hx
  obtain⟨d,hd,rfl⟩:=hx
  exact (hrel j d v hd (by simpa using hvv)).mono (fun b o u hu _=>⟨hu,fun hz=>hz.elim (hzone _ b o) id⟩)
 ·rintro e W' ⟨v,g',rfl,hpost⟩
  obtain rfl:v= .bool true:=by cases (show Aj _ _ (.bool true) v from hpost.res);rfl
  have hbel:Below W.heap.size W W':=⟨hpost.frame.os,hpost.frame.tape,hpost.frame.output,hpost.frame.size,fun k hk=>hpost.frame.block k hk (fun o=>hzone _ k o)⟩
  obtain⟨s1,s2,s3⟩:=hs (ds++[]) (by simp[hdl])
  refine⟨_,rfl,ds,[],p++[],[],p,[],hW',?_,?_,?_,hbel.frame _,fun h=>by cases h⟩
  ·rw[s1,hr]
   exact trodAll_mk1 (shut_bool hb true)
  ·rw[s2,hp,List.append_nil]
   exact Nf hl hbel ts args.toList ds p hrec hA (fun x hx=>hW'.lt x (by simp[hx]))
  ·rw[s3,hv];rfl
end
end Go.AM
set_option linter.unusedVariables false
noncomputable section
namespace Go.Proofs.YtmggjbjpklecgaaGreatDoor
open Go Go.AM
theorem Vp {l:List D}{its:List It}(h:P1 l its) {w:W}(hok:w.ok) (hdep:w.dep<40) (hT:Ev (fun n=>Si n w.k w.nm w.args) true) {O P:List Bool}(hO:O.length=l.length) (hP:P.length=l.length):
  Ev (fun n=>Mx n l w.k w.nm w.args (O.map D.bool) (P.map D.bool) false) true:=by
 obtain⟨k,k1,k2⟩:=Pt h hO hP
 obtain⟨rs,s1,s2⟩:=Jb h hok hdep hT
 obtain⟨ry,y1,y2⟩:=Kv h hok hdep hT
 have e:=fun c=>Oa h hO hP w c hok
 refine .succ ?_
 simp only[Mx,Bool.false_eq_true,if_false]
 refine Ev.bO4 k1 ?_
 cases k with
 | false=>simp only[Ak,Bool.not_false,if_true];exact .ret
 | true=>
  have hK:=k2.1 rfl
  simp only[Ak,Bool.not_true,Bool.false_eq_true,if_false]
  refine Ev.bO4 (e false) ?_
  have sync:∀{c:Bool},Ei its O P w true=c→Ev (fun n=>if (!c)=true then some true else bO1 (UY n l w.k w.nm w.args) fun b99=>some b99) true:=by
   intro c hc
   cases c with
   | false=>simp only[Bool.not_false,if_true];exact .ret
   | true=>
    simp only[Bool.not_true,Bool.false_eq_true,if_false]
    have:ry=true:=y2.2 fun hr=>KQ hK hr hc
    subst this
    exact Ev.bO1 y1 .ret
  cases hc:Ei its O P w false with
  | false=>
   simp only[Bool.not_false,if_true]
   exact Ev.bO4 (e true) (sync rfl)
  | true=>
   simp only[Bool.not_true,Bool.false_eq_true,if_false]
   have:rs=true:=s2.2 fun hr=>KQ hK hr hc
   subst this
   refine Ev.bO1 s1 ?_
   simp only[if_true]
   exact Ev.bO4 (e true) (sync rfl)
theorem Sd {l:List D}{its:List It}(h:P1 l its) (l2 l3:List D) {w:W}(hok:w.ok) (hdep:w.dep<40) (hT:Ev (fun n=>Si n w.k w.nm w.args) true) {S Y O P:List Bool}(hS:S.length=l.length) (hY:Y.length=l.length) (hO:O.length=l.length) (hP:P.length=l.length) (hA:aQ its S Y) (z:Int):
  Ev (fun n=>Mz n l l2 l3 w.k w.nm w.args z (S.map D.bool) (Y.map D.bool) (O.map D.bool) (P.map D.bool) false) true:=by
 obtain⟨k,k1,k2⟩:=Pt h hS hY
 obtain⟨rs,s1,s2⟩:=Jb h hok hdep hT
 obtain⟨ry,y1,y2⟩:=Kv h hok hdep hT
 have e:=fun c=>Oa h hS hY w c hok
 have hk:k=true:=k2.2 (Sb hA)
 have i1:Ei its S Y w false=rs:=by
  have:=Mf hA w false
  cases rs<;>cases hv:Ei its S Y w false<;>simp_all
 have i2:Ei its S Y w true=ry:=by
  have:=Mf hA w true
  cases ry<;>cases hv:Ei its S Y w true<;>simp_all
 subst hk
 refine .succ ?_
 simp only[Mz,Bool.false_eq_true,if_false]
 refine Ev.bO4 k1 ?_
 simp only[Ak,Bool.not_true,Bool.false_eq_true,if_false]
 refine Ev.bO4 (e false) (Ev.bO1 s1 ?_)
 rw[i1]
 simp only[show (!(rs==rs))=false by cases rs<;>rfl,Bool.false_eq_true,if_false]
 refine Ev.bO4 (e true) (Ev.bO1 y1 ?_)
 rw[i2]
 simp only[show (!(ry==ry))=false by cases ry<;>rfl]
 exact Vp h hok hdep hT hO hP
theorem Pv {S:List Bool}{b:Bool}{j:Nat}(h:j<S.length):(S++[b]).getD j false=S.getD j false:=by
 rw[List.getD_eq_getElem?_getD,List.getD_eq_getElem?_getD,List.getElem?_append_left h]
theorem Ng {S:List Bool}{b:Bool}:(S++[b]).getD S.length false=b:=by
 rw[List.getD_eq_getElem?_getD,List.getElem?_append_right (Nat.le_refl _)]
 simp
theorem Ul {l:List D}{its:List It}(h:P1 l its) {l2 l3:List D}(h2:Ao tab 4 l2) (h3:Ao tab 4 l3) {w:W}(hok:w.ok) (hdep:w.dep<40) (hT:Ev (fun n=>Si n w.k w.nm w.args) true):∀i:Nat,i≤l.length→∀S Y O P:List Bool,S.length=i→Y.length=i→O.length=i→P.length=i→
  (∀(j:Nat) it,j<i→its[j]?=some it→it.k≠3→(S.getD j false=true↔¬G3 its (.named it.nm) false)∧(Y.getD j false=true↔¬G3 its (.named it.nm) true))→
  Ev (fun n=>My n l l2 l3 w.k w.nm w.args (i:Int) (S.map D.bool) (Y.map D.bool) (O.map D.bool) (P.map D.bool)) true:=by
 have hlen:=h.len
 refine down l.length ?_ ?_
 ·intro S Y O P hS hY hO hP hA
  refine .succ ?_
  simp only[My,Ad,Int.lt_irrefl,if_false]
  refine Sd h l2 l3 hok hdep hT hS hY hO hP ⟨fun j it hit hk=>(hA j it ?_ hit hk).1,fun j it hit hk=>(hA j it ?_ hit hk).2⟩ _
  ·have:=(List.getElem?_eq_some_iff.1 hit).1
   have:=h.its.1
   omega
  ·have:=(List.getElem?_eq_some_iff.1 hit).1
   have:=h.its.1
   omega
 ·intro i hi ih S Y O P hS hY hO hP hA
  obtain⟨x,hx⟩:=Qr hi
  obtain⟨it,hit,R⟩:=h.its.get hx
  obtain⟨a2,a3,a4,a5,a6,a7,a8,a9,a10,a11,a12,a13,a14,a15,rfl,_⟩:=R.row
  obtain⟨b1,e1,g1⟩:=Vl h R.size
  obtain⟨b2,e2,g2⟩:=UZ h R.size
  have ha:∀{γ:Type} {L:List Bool} (b:Bool) (k:List D→Option γ),L.length=i→D3 1 (L.map D.bool) [.bool b] k=k ((L++[b]).map D.bool):=fun {γ} {L} b k hL=>by
   rw[OV (by simp;omega) (by omega)]
   simp
  have five:∀c d:Bool,Ev (fun n=>Oc n l l2 l3 w.k w.nm w.args (i:Int) ((S++[b1]).map D.bool) ((Y++[b2]).map D.bool) ((O++[c]).map D.bool) ((P++[d]).map D.bool)) true:=fun c d=>by
   refine .succ ?_
   simp only[Oc,Al,BB hi h.max]
   refine ih _ _ _ _ (by simp[hS]) (by simp[hY]) (by simp[hO]) (by simp[hP]) fun j jt hj hjt hk=>?_
   by_cases e:j=i
   ·subst e
    rw[hit]at hjt
    cases hjt
    have n1:=R.name hk
    rw[show (S++[b1]).getD j false=b1 by rw[←hS];exact Ng,show (Y++[b2]).getD j false=b2 by rw[←hY];exact Ng]
    exact⟨g1 n1,g2 n1⟩
   ·rw[Pv (by omega),Pv (by omega)]
    exact hA j jt (by omega) hjt hk
  have four:∀c:Bool,Ev (fun n=>Ob n l l2 l3 w.k w.nm w.args (i:Int) (P.map D.bool) ((S++[b1]).map D.bool) ((Y++[b2]).map D.bool) ((O++[c]).map D.bool)) true:=fun c=>by
   refine .succ ?_
   simp only[Ob,Ad]
   by_cases c3:i<l3.length
   ·obtain⟨y,hy,_,hr⟩:=h3.get c3
    obtain⟨d,rfl⟩:=bA hr
    simp only[if_pos (G0 c3),A0 hy,CE,Ms,ha d _ hP]
    exact five c d
   ·simp only[if_neg (show ¬(i:Int)<(l3.length:Int)by omega),Ms,ha false _ hP]
    exact five c false
  refine .succ ?_
  simp only[My,Ad,if_pos (G0 hi)]
  refine .succ ?_
  simp only[Mz,if_true,A0 hx,Bv]
  refine Ev.bO1 e1 ?_
  simp only[Ms,ha b1 _ hS]
  refine Ev.bO1 e2 ?_
  simp only[ha b2 _ hY,Ad]
  by_cases c2:i<l2.length
  ·obtain⟨y,hy,_,hr⟩:=h2.get c2
   obtain⟨c,rfl⟩:=bA hr
   simp only[if_pos (G0 c2),A0 hy,CE,ha c _ hO]
   exact four c
  ·simp only[if_neg (show ¬(i:Int)<(l2.length:Int)by omega),ha false _ hO]
   exact four false
theorem Se {l l2 l3 l6:List D}{z:Int}{s:ByteArray}(h:Ao tab 45 l) (h2:Ao tab 4 l2) (h3:Ao tab 4 l3) (hs:s.size≤maxLen) (h6:Ao tab 28 l6):Ev (fun n=>F3 n l l2 l3 z s l6) true:=by
 have stop:Ev (fun n=>KW n l l2 l3 z s l6 true) true:=.succ (by simp only[KW,if_true];exact .ret)
 unfold F3
 refine Ev.bO1 dT ?_
 simp only[Ak,Bool.not_true,Bool.false_eq_true,if_false]
 obtain⟨b5,e5,_⟩:=Ud h
 refine Ev.bO1 e5 ?_
 cases b5 with
 | true=>simp only[if_true];exact stop
 | false=>
  simp only[Bool.false_eq_true,if_false]
  obtain⟨r,hr,_⟩:=Kw l6 h6 z s 20000 (by omega) (by omega)
  have e6:Ev (fun n=>F6 n z s l6) (decide (r<0)):=by
   unfold F6
   refine Ev.bO1 hr ?_
   by_cases c:r<0
   ·simp only[if_pos c,decide_eq_true c];exact .ret
   ·simp only[if_neg c,decide_eq_false c];exact .ret
  refine Ev.bO1 e6 ?_
  by_cases c:r<0
  ·simp only[decide_eq_true c,if_true];exact stop
  simp only[decide_eq_false c,Bool.false_eq_true,if_false]
  obtain⟨b7,e7⟩:=SV h
  refine Ev.bO1 e7 ?_
  cases b7 with
  | false=>simp only[Bool.not_false,if_true];exact stop
  | true=>
   simp only[Bool.not_true,Bool.false_eq_true,if_false]
   obtain⟨b8,e8⟩:=t8 (z:=z) hs h6 (d:=40) (by omega) (by omega)
   refine Ev.bO1 e8 ?_
   cases b8 with
   | false=>simp only[Bool.not_false];exact stop
   | true=>
    simp only[Bool.not_true]
    obtain⟨hl,its,hI⟩:=SW h e7
    obtain⟨w,rfl,rfl,rfl,w4,w5⟩:=Qo l6 h6 z s 40 hs (by omega) e8
    have hT:Ev (fun n=>Si n w.k w.nm w.args) true:=Ev.bO1 (OT h6 hs (by omega) (by omega) e8) .ret
    refine .succ ?_
    simp only[KW,Bool.false_eq_true,if_false]
    exact Ul ⟨hl,hI⟩ h2 h3 w4 (by omega) hT 0 (Nat.zero_le _) [] [] [] [] rfl rfl rfl rfl (fun j it hj=>absurd hj (Nat.not_lt_zero _))
theorem Mg:∀xs:List D,II tab [24,25,25,28] xs→AW Tryz.prog inv 3 (xs.map V1.d) [] (.v (.d (.bool true))) [] []:=by
 intro xs h
 match xs,h with
 | [p,q,r,t],⟨p1,p2,q1,q2,r1,r2,u1,u2,_⟩=>
  obtain⟨l,rfl,hl⟩:=ZP ⟨p1,p2⟩
  obtain⟨l2,rfl,hl2⟩:=YB ⟨q1,q2⟩
  obtain⟨l3,rfl,hl3⟩:=YB ⟨r1,r2⟩
  obtain⟨a0,a1,a2,rfl,w0,w1,w2⟩:=VN ⟨u1,u2⟩
  obtain⟨n,hn⟩:=(Se (z:=a0) hl hl2 hl3 w1 w2).run
  exact T3 n hn
end Go.Proofs.YtmggjbjpklecgaaGreatDoor
end
namespace Go.Proofs.YtmggjbjpklecgaaGreatDoor
open Go Go.ChangeShapes Go.WideShapes Go.ChangeAt Go.RowKit Go.AM
theorem KX:∀t∈[24,25,25,28],Tryz.prog.readableRec t=true∧t<Tryz.prog.types.size:=by
 have h:([24,25,25,28].all fun t=>Tryz.prog.readableRec t&&decide (t<Tryz.prog.types.size))=true:=by kernel_rfl
 intro t ht
 have:=List.all_eq_true.1 h t ht
 simpa using this
theorem M1 {W:World}(h:laidMet Tryz.prog Rows.topAutosRow.laid W):inv.at W fun _ _=>False:=by
 have e:(Rows.topAutosRow.laid.filter fun x=>x.1== "strings.asciiSpace")=[("strings.asciiSpace",Lib.tabData .u8 Lib.asciiSpaceTab)]:=by kernel_rfl
 have h2:=laidMet.filter (fun x=>x.1== "strings.asciiSpace") h
 rw[e]at h2
 have ht:Lib.TabIs Tryz.prog W "strings.asciiSpace" .u8 Lib.asciiSpaceTab:=by
  exact Lib.tabIs_of_head (g:=1) (t:=183) (e:=5) (n:=256) (by kernel_rfl) (by kernel_rfl) (by kernel_rfl) (by kernel_rfl) (by kernel_rfl) (by kernel_rfl) h2
 refine⟨ht,fun b hb=>⟨?_,fun _ h=>h⟩⟩
 have hb:Tryz.prog.globalNamed "strings.asciiSpace" =some b:=hb
 unfold Lib.TabIs World.var? at ht
 rw[hb]at ht
 simp only[Option.bind_some]at ht
 cases hx:W.heap[b]? with
 | none=>rw[hx]at ht;simp at ht
 | some o=>exact (Array.getElem?_eq_some_iff.1 hx).1
set_option maxRecDepth 100000 in
theorem J3 (os:Os) (started:os.Started) (H:Type) (enc:TypeId×Value→H):
  ReturnsInHanded {} Tryz.checked os 3 .any (fun w args=>(Rows.topAutosSpec.pre enc Tryz.prog Tryz.f3 Rows.topAutosRow.domain false w args∧laidMetH Tryz.prog Rows.topAutosRow.laid w)∧sizedMet enc Tryz.prog Tryz.f3 (OpenSpec.ofChange Rows.topAutosSpec) false w args)
   (Rows.topAutosSpec.post enc Tryz.prog Tryz.f3 false true false false):=by
 refine returnsInHanded_of_change_and (C:=Tryz.checked) (X:=fun w _=>laidMetH Tryz.prog Rows.topAutosRow.laid w) (fun _ _ _ hh h=>h.of_heap hh) (by kernel_rfl) started (by kernel_rfl) Tryz.func3
  (ChangeSpec.witness_shaped (enc:=enc) (C:=Tryz.checked) (os:=os) (X:=fun w _=>laidMetH Tryz.prog Rows.topAutosRow.laid w) false (World.laidAll Tryz.prog os Rows.topAutosRow.laid) #[.agg #[.slice none 0 0],.slice none 0 0,.slice none 0 0,.agg #[.int .u8 0,.string ⟨#[]⟩,.slice none 0 0]] 8 (World.laidAll_os _ _ _)
   (World.shaped_of_ZipB (by kernel_rfl) (by kernel_rfl)) (by kernel_rfl) (by kernel_rfl) (by kernel_rfl)
   (by rw[MakeChecks.laidMetH_plain _ _ _ (by kernel_rfl)];exact laidMet_laidAll _ (by kernel_rfl) (by kernel_rfl))) ?_
 intro W base args ds gs before hval0 hW _ _ hL _
 rw[MakeChecks.laidMetH_plain _ _ _ (by kernel_rfl)]at hL
 refine Sc (ti:=tab) (T:=[2,3,4,5,9,22,24,25,26,28,36,37,38,40,41,43,45,67,80,82,86]) Ab (by kernel_rfl) (ts:=[24,25,25,28]) (bt:=4) rfl rfl rfl (by kernel_rfl) (by decide) ?_ (by kernel_rfl) KX Mg (M1 hL) hval0 hW
 intro ds h
 match ds,h with
 | [_,_,_,_],_=>exact⟨rfl,rfl,rfl⟩
theorem M3:Rows.TopAutosSaid:=
 OpenClaim.holds_of_wide 3 Tryz.f3 rfl rfl rfl rfl rfl rfl rfl ⟨rfl,rfl,rfl,rfl,rfl⟩ rfl rfl rfl rfl rfl (by kernel_rfl) Tryz.func3 (by kernel_rfl)
  (of_decide_eq_true (by kernel_rfl)) (by unfold Func.isWrapper;first | (rw[if_pos (by decide+kernel)];kernel_rfl) | (rw[if_neg (by decide+kernel)];exact⟨rfl,rfl⟩))
  (fun os started H enc _=>J3 os started H enc)
theorem top_autos:Rows.TopAutosCardSaid:=
 Claim7.holds_tied_plain_at .later [] [.listed,.data] true Rows.topAutosCard.stood.harness false M3 (fun _ h=>by cases h) (by kernel_rfl) (fun _ h=>by cases h) topAutos_row_tie rfl ⟨rfl,rfl⟩ (by kernel_rfl) rfl
  (fun f fn hf hfn=>by
   obtain rfl:f=3:=Option.some.inj ((show Tryz.prog.funcNamed "weftway/weftwaytop.TopAutos" =some 3 by kernel_rfl).symm.trans hf) |>.symm
   obtain rfl:fn=Tryz.f3:=(Option.some.inj (Tryz.func3.symm.trans hfn)).symm
   exact⟨by kernel_rfl,fun j t ht=>by
    have hm:t∈[24,25,25,28]:=by
     have hp:Tryz.f3.params.toList=[24,25,25,28]:=rfl
     rw[←hp];simpa using Array.mem_of_getElem? ht
    have hall:([24,25,25,28].all fun u=>!Tryz.prog.wantsStandIn u)=true:=by kernel_rfl
    exact (show Tryz.prog.wantsStandIn t=false by simpa using List.all_eq_true.1 hall t hm)⟩)
  (by kernel_rfl)
end Go.Proofs.YtmggjbjpklecgaaGreatDoor
