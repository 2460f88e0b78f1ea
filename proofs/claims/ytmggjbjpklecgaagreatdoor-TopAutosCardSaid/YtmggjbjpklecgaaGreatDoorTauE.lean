/- Part of a proof. No condition. (Part 5.) -/
import Derived.Test.YtmggjbjpklecgaaGreatDoorTauD
set_option linter.unusedVariables false
set_option linter.unusedSimpArgs false
set_option maxRecDepth 100000
set_option maxHeartbeats 40000000
set_option linter.unusedVariables false
noncomputable section
namespace Go.Proofs.YtmggjbjpklecgaaGreatDoor
open Go Go.AM
mutual
def Ge:Nat->LD->Int->Option (Bool)
 | 0,_,_=>none
 | n+1,l1,z4=>
  Ad l1 fun z5=>(if z4<z5 then Lv n l1 z4 true else Lv n l1 z4 false)
def Lv:Nat->LD->Int->Bool->Option (Bool)
 | 0,_,_,_=>none
 | n+1,l1,z4,b6=>
  (if b6=true then BT l1 z4 fun x7=>Bv x7 fun z8 s9 l10 z11 s12 l13 l14 z15 z16 s17 s18 s19 l20 l21 z22 z23=>bO1 (XH n z8 s9 l10 z11 s12 l13 l14 z15 z16 s17 s18 s19 l20 l21 z22 z23 (39:Int)) fun b24=>Ak (!b24) fun b25=>(if b25=true then some false else Al (IntKind.wrap .i64 (z4+1)) fun z26=>Ge n l1 z26)else some true)
end
def KV:Nat->LD->Bool->Option (Bool)
 | 0,_,_=>none
 | n+1,l1,b3=>
  (if b3=true then some false else Ge n l1 (0:Int))
def F7 (n:Nat) (l1:LD):Option (Bool):=
 Ad l1 fun z2=>(if (30:Int)<z2 then KV n l1 true else KV n l1 false)
theorem T7 (n:Nat):∀⦃l1 r1⦄,F7 n l1=some r1->
    AW Tryz.prog inv 7 [.d (.agg [.list true 16 l1])] [] (.v (.d (.bool r1))) [] []:=by
 intro l1 r1 h
 unfold F7 at h
 refine AW.of Ab AO Bp Tryz.func7 rfl (by kernel_rfl) rfl rfl rfl (fun M hM hI=>?_)
 try cbv
 refine AB ?_
 try cbv
 refine AB ?_
 try cbv
 refine AH 7 [1,2,7] [.loc 0] 192 (fun m b=>m<=n/\KV m l1 b=some r1) ?_ ?_
 ·try cbv
  replace h:=AP M h
  obtain⟨z2,hz,h⟩:=h
  refine⟨z2,hz,?_⟩
  clear hz
  try cbv
  refine Aa (fun e=>?_) (fun e=>?_)
  ·replace h:=AJ e h
   clear e
   try cbv
   exact AA (n,true) [1,2,7] [.loc 0] 192 ⟨by omega,h⟩ (by cbv)
  replace h:=AK (Int.not_lt.2 e) h
  clear e
  try cbv
  exact AA (n,false) [1,2,7] [.loc 0] 192 ⟨by omega,h⟩ (by cbv)
 clear h
 rintro⟨m1,b3⟩ ⟨hm1,h⟩
 try cbv
 replace hm1:m1<=n:=hm1
 obtain _ | m1:=m1
 ·replace h:KV 0 l1 b3=some r1:=h
  rw[KV]at h
  cases h
 replace h:KV (m1+1) l1 b3=some r1:=h
 rw[KV]at h
 try cbv
 cases b3
 rotate_left
 ·replace h:=Aq h
  try cbv
  refine AB ?_
  try cbv
  obtain rfl:=Option.some.inj h
  refine AF ?_
  try cbv
  exact⟨[],by trivial⟩
 replace h:=Ar h
 try cbv
 refine AB ?_
 try cbv
 refine AB ?_
 try cbv
 refine BF (T:=Nat×Int) [1,2,3] [.loc 0] 224 (fun t=>⟨[sL 1 0,sB 2 false,sI 3 t.2],[(.loc 0,.cells [.d (.list true 16 l1)])],224⟩)
   (fun t=>t.1<=m1/\Ge t.1 l1 t.2=some r1) (fun t=>t.1) (m1,(0:Int)) ⟨Nat.le_refl _,h⟩ (by cbv) ?_
 clear h
 rintro⟨m2,z4⟩ ⟨hm2,h⟩
 replace hm2:m2<=m1:=hm2
 obtain _ | m2:=m2
 ·replace h:Ge 0 l1 z4=some r1:=h
  rw[Ge]at h
  cases h
 replace h:Ge (m2+1) l1 z4=some r1:=h
 rw[Ge]at h
 try cbv
 refine AB ?_
 try cbv
 refine AH 12 [1,2,3,12] [.loc 0] 384 (fun m b=>m<=m2/\Lv m l1 z4 b=some r1) ?_ ?_
 ·try cbv
  replace h:=AP M h
  obtain⟨z5,hz,h⟩:=h
  refine⟨z5,hz,?_⟩
  clear hz
  try cbv
  refine Aa (fun e=>?_) (fun e=>?_)
  ·replace h:=AJ e h
   clear e
   try cbv
   exact AA (m2,true) [1,2,3,12] [.loc 0] 384 ⟨by omega,h⟩ (by cbv)
  replace h:=AK (Int.not_lt.2 e) h
  clear e
  try cbv
  exact AA (m2,false) [1,2,3,12] [.loc 0] 384 ⟨by omega,h⟩ (by cbv)
 clear h
 rintro⟨m3,b6⟩ ⟨hm3,h⟩
 try cbv
 replace hm3:m3<=m2:=hm3
 obtain _ | m3:=m3
 ·replace h:Lv 0 l1 z4 b6=some r1:=h
  rw[Lv]at h
  cases h
 replace h:Lv (m3+1) l1 z4 b6=some r1:=h
 rw[Lv]at h
 try cbv
 cases b6
 ·replace h:=Ar h
  try cbv
  refine AB ?_
  try cbv
  obtain rfl:=Option.some.inj h
  refine AF ?_
  try cbv
  exact⟨[],by trivial⟩
 replace h:=Aq h
 try cbv
 refine AB ?_
 try cbv
 refine AB ?_
 try cbv
 replace h:=Ae h
 obtain⟨x7,⟨hx0,hx⟩,h⟩:=h
 refine⟨x7,hx0,hx,?_⟩
 clear hx0 hx
 replace h:=B4 h
 obtain⟨z8,s9,l10,z11,s12,l13,l14,z15,z16,s17,s18,s19,l20,l21,z22,z23,rfl,h⟩:=h
 try cbv
 replace h:=AG h
 obtain⟨b24,hr,h⟩:=h
 refine AD rfl rfl ?_
 try cbv
 refine AE hM hI (cG _ hr) rfl ?_
 clear hr
 try cbv
 replace h:=AL h
 obtain⟨b25,hz,h⟩:=h
 refine⟨b25,AU hz,?_⟩
 clear hz
 try cbv
 cases b25
 ·replace h:=Ar h
  try cbv
  replace h:=AN h
  obtain⟨z26,hz,h⟩:=h
  refine⟨z26,hz,?_⟩
  clear hz
  try cbv
  exact An (m3,z26) [1,2,3] [.loc 0] 224 ⟨by omega,h⟩ (Nat.lt_succ_of_le (by omega)) (by cbv)
 replace h:=Aq h
 try cbv
 refine AB ?_
 try cbv
 obtain rfl:=Option.some.inj h
 refine AF ?_
 try cbv
 exact⟨[],by trivial⟩
def Gf:Nat->BA->Int->Bool->Option (Int)
 | 0,_,_,_=>none
 | n+1,s1,z2,b5=>
  (if b5=true then some (-1:Int)else Al (IntKind.wrap .i64 (z2 - 5)) fun z6=>Jh s1 fun z7=>Al (IntKind.wrap .i64 (z6 - z7)) fun z8=>some z8)
def Og (n:Nat) (s1:BA) (z2:Int):Option (Int):=
 (if z2<(5:Int)then Gf n s1 z2 true else Jh s1 fun z3=>Al (IntKind.wrap .i64 (z2 - 5)) fun z4=>(if z4<z3 then Gf n s1 z2 true else Gf n s1 z2 false))
theorem UB (n:Nat):∀⦃s1 z2 r1⦄,Og n s1 z2=some r1->
    AW Tryz.prog inv 14 [.c (.ptr (.ext 0) 0),.d (.str s1)] [.cells [.d (.int .i64 z2)]] (.t []) [.cells [.d (.int .i64 r1)]] []:=by
 intro s1 z2 r1 h
 unfold Og at h
 refine AW.of Ab AO Bp Tryz.func14 rfl (by kernel_rfl) rfl rfl rfl (fun M hM hI=>?_)
 try cbv
 refine AB ?_
 try cbv
 refine AH 18 [0,1,18] [.ext 0] 480 (fun m b=>m<=n/\Gf m s1 z2 b=some r1) ?_ ?_
 ·try cbv
  refine Aa (fun e=>?_) (fun e=>?_)
  ·replace h:=AJ e h
   clear e
   try cbv
   exact AA (n,true) [0,1,18] [.ext 0] 480 ⟨by omega,h⟩ (by cbv)
  replace h:=AK (Int.not_lt.2 e) h
  clear e
  try cbv
  replace h:=Bu M h
  obtain⟨z3,hz,h⟩:=h
  refine⟨z3,hz,?_⟩
  clear hz
  try cbv
  replace h:=AN h
  obtain⟨z4,hz,h⟩:=h
  refine⟨z4,hz,?_⟩
  clear hz
  try cbv
  refine Aa (fun e=>?_) (fun e=>?_)
  ·replace h:=AJ e h
   clear e
   try cbv
   exact AA (n,true) [0,1,18] [.ext 0] 480 ⟨by omega,h⟩ (by cbv)
  replace h:=AK (Int.not_lt.2 e) h
  clear e
  try cbv
  exact AA (n,false) [0,1,18] [.ext 0] 480 ⟨by omega,h⟩ (by cbv)
 clear h
 rintro⟨m1,b5⟩ ⟨hm1,h⟩
 try cbv
 replace hm1:m1<=n:=hm1
 obtain _ | m1:=m1
 ·replace h:Gf 0 s1 z2 b5=some r1:=h
  rw[Gf]at h
  cases h
 replace h:Gf (m1+1) s1 z2 b5=some r1:=h
 rw[Gf]at h
 try cbv
 cases b5
 rotate_left
 ·replace h:=Aq h
  try cbv
  refine AB ?_
  try cbv
  obtain rfl:=Option.some.inj h
  refine AF ?_
  try cbv
  exact⟨[],rfl,rfl,⟨rfl,trivial⟩,trivial,trivial⟩
 replace h:=Ar h
 try cbv
 replace h:=AN h
 obtain⟨z6,hz,h⟩:=h
 refine⟨z6,hz,?_⟩
 clear hz
 try cbv
 replace h:=Bu M h
 obtain⟨z7,hz,h⟩:=h
 refine⟨z7,hz,?_⟩
 clear hz
 try cbv
 replace h:=AN h
 obtain⟨z8,hz,h⟩:=h
 refine⟨z8,hz,?_⟩
 clear hz
 try cbv
 obtain rfl:=Option.some.inj h
 refine AF ?_
 try cbv
 exact⟨[],rfl,rfl,⟨rfl,trivial⟩,trivial,trivial⟩
mutual
def Fq:Nat->LD->Int->Int->Option (Int)
 | 0,_,_,_=>none
 | n+1,l3,z6,z7=>
  Ad l3 fun z8=>(if z6<z8 then (if (0:Int)<=z7 then Gg n l3 z6 z7 true else Gg n l3 z6 z7 false)else Gg n l3 z6 z7 false)
def Gg:Nat->LD->Int->Int->Bool->Option (Int)
 | 0,_,_,_,_=>none
 | n+1,l3,z6,z7,b9=>
  (if b9=true then BT l3 z6 fun x10=>Cl x10 fun z11 s12 l13=>bO1 (UC n z11 s12 l13 z7) fun z14=>Al (IntKind.wrap .i64 (z6+1)) fun z15=>Fq n l3 z15 z14 else some z7)
def UC:Nat->Int->BA->LD->Int->Option (Int)
 | 0,_,_,_,_=>none
 | n+1,z1,s2,l3,z4=>
  bO1 (Og n s2 z4) fun z5=>Fq n l3 (0:Int) z5
end
theorem ZA (n:Nat):∀⦃z1 s2 l3 z4 r1⦄,UC n z1 s2 l3 z4=some r1->
    AW Tryz.prog inv 16 [.c (.ptr (.ext 0) 0),.d (.agg [.int .u8 z1,.str s2,.list true 3 l3])] [.cells [.d (.int .i64 z4)]] (.t []) [.cells [.d (.int .i64 r1)]] []:=by
 induction n using Nat.strongRecOn with | _ n ih=>
 obtain _ | n:=n
 ·intro z1 s2 l3 z4 r1 h
  cases (show (none:Option _)=some _ from h)
 intro z1 s2 l3 z4 r1 h
 rw[UC]at h
 refine AW.of Ab AO Bp Tryz.func16 rfl (by kernel_rfl) rfl rfl rfl (fun M hM hI=>?_)
 try cbv
 refine AB ?_
 try cbv
 refine AB ?_
 try cbv
 replace h:=AG h
 obtain⟨z5,hr,h⟩:=h
 refine AD rfl rfl ?_
 try cbv
 refine AI hM hI [.ext 0] (UB _ hr) rfl (by simp) ⟨rfl,trivial⟩ ⟨trivial,trivial⟩ (by simp) ?_
 clear hr
 try cbv
 refine AB ?_
 try cbv
 refine BF (T:=Nat×Int×Int) [0,3,4] [.ext 0,.loc 0] 192 (fun t=>⟨[sE 0 0,sL 3 0,sI 4 t.2.1],[(.ext 0,.cells [.d (.int .i64 t.2.2)]),(.loc 0,.cells [.d (.int .u8 z1),.d (.str s2),.d (.list true 3 l3)])],192⟩)
   (fun t=>t.1<=n/\Fq t.1 l3 t.2.1 t.2.2=some r1) (fun t=>t.1) (n,((0:Int),z5)) ⟨Nat.le_refl _,h⟩ (by cbv) ?_
 clear h
 rintro⟨m1,z6,z7⟩ ⟨hm1,h⟩
 replace hm1:m1<=n:=hm1
 obtain _ | m1:=m1
 ·replace h:Fq 0 l3 z6 z7=some r1:=h
  rw[Fq]at h
  cases h
 replace h:Fq (m1+1) l3 z6 z7=some r1:=h
 rw[Fq]at h
 try cbv
 refine AB ?_
 try cbv
 refine AH 20 [0,3,4,20] [.ext 0,.loc 0] 576 (fun m b=>m<=m1/\Gg m l3 z6 z7 b=some r1) ?_ ?_
 ·try cbv
  replace h:=AP M h
  obtain⟨z8,hz,h⟩:=h
  refine⟨z8,hz,?_⟩
  clear hz
  try cbv
  refine Aa (fun e=>?_) (fun e=>?_)
  ·replace h:=AJ e h
   clear e
   try cbv
   refine BJ (fun e=>?_) (fun e=>?_)
   ·replace h:=AJ e h
    clear e
    try cbv
    exact AA (m1,true) [0,3,4,20] [.ext 0,.loc 0] 576 ⟨by omega,h⟩ (by cbv)
   replace h:=AK (Int.not_le.2 e) h
   clear e
   try cbv
   exact AA (m1,false) [0,3,4,20] [.ext 0,.loc 0] 576 ⟨by omega,h⟩ (by cbv)
  replace h:=AK (Int.not_lt.2 e) h
  clear e
  try cbv
  exact AA (m1,false) [0,3,4,20] [.ext 0,.loc 0] 576 ⟨by omega,h⟩ (by cbv)
 clear h
 rintro⟨m2,b9⟩ ⟨hm2,h⟩
 try cbv
 replace hm2:m2<=m1:=hm2
 obtain _ | m2:=m2
 ·replace h:Gg 0 l3 z6 z7 b9=some r1:=h
  rw[Gg]at h
  cases h
 replace h:Gg (m2+1) l3 z6 z7 b9=some r1:=h
 rw[Gg]at h
 try cbv
 cases b9
 ·replace h:=Ar h
  try cbv
  obtain rfl:=Option.some.inj h
  refine AF ?_
  try cbv
  exact⟨[],rfl,rfl,⟨rfl,trivial⟩,trivial,trivial⟩
 replace h:=Aq h
 try cbv
 refine AB ?_
 try cbv
 replace h:=Ae h
 obtain⟨x10,⟨hx0,hx⟩,h⟩:=h
 refine⟨x10,hx0,hx,?_⟩
 clear hx0 hx
 replace h:=DE h
 obtain⟨z11,s12,l13,rfl,h⟩:=h
 try cbv
 replace h:=AG h
 obtain⟨z14,hr,h⟩:=h
 refine AD rfl rfl ?_
 try cbv
 refine AI hM hI [.ext 0] ((ih _ (by omega)) hr) rfl (by simp) ⟨rfl,trivial⟩ ⟨trivial,trivial⟩ (by simp) ?_
 clear hr
 try cbv
 replace h:=AN h
 obtain⟨z15,hz,h⟩:=h
 refine⟨z15,hz,?_⟩
 clear hz
 try cbv
 exact An (m2,(z15,z14)) [0,3,4] [.ext 0,.loc 0] 192 ⟨by omega,h⟩ (Nat.lt_succ_of_le (by omega)) (by cbv)
def F6 (n:Nat) (z1:Int) (s2:BA) (l3:LD):Option (Bool):=
 bO1 (UC n z1 s2 l3 (20000:Int)) fun z4=>(if z4<(0:Int)then some true else some false)
theorem T6 (n:Nat):∀⦃z1 s2 l3 r1⦄,F6 n z1 s2 l3=some r1->
    AW Tryz.prog inv 6 [.d (.agg [.int .u8 z1,.str s2,.list true 3 l3])] [] (.v (.d (.bool r1))) [] []:=by
 intro z1 s2 l3 r1 h
 unfold F6 at h
 refine AW.of Ab AO Bp Tryz.func6 rfl (by kernel_rfl) rfl rfl rfl (fun M hM hI=>?_)
 try cbv
 refine AB ?_
 try cbv
 refine AB ?_
 try cbv
 refine AB ?_
 try cbv
 replace h:=AG h
 obtain⟨z4,hr,h⟩:=h
 refine AD rfl rfl ?_
 try cbv
 refine AI hM hI [.loc 96] (ZA _ hr) rfl (by simp) ⟨rfl,trivial⟩ ⟨trivial,trivial⟩ (by simp) ?_
 clear hr
 try cbv
 refine AB ?_
 try cbv
 refine Aa (fun e=>?_) (fun e=>?_)
 ·replace h:=AJ e h
  clear e
  try cbv
  obtain rfl:=Option.some.inj h
  refine AF ?_
  try cbv
  exact⟨[],by trivial⟩
 replace h:=AK (Int.not_lt.2 e) h
 clear e
 try cbv
 obtain rfl:=Option.some.inj h
 refine AF ?_
 try cbv
 exact⟨[],by trivial⟩
mutual
def Gi:Nat->LD->Int->Int->Option (Int)
 | 0,_,_,_=>none
 | n+1,l1,z3,z4=>
  Ad l1 fun z5=>(if z3<z5 then (if (0:Int)<=z4 then Gj n l1 z3 z4 true else Gj n l1 z3 z4 false)else Gj n l1 z3 z4 false)
def Gj:Nat->LD->Int->Int->Bool->Option (Int)
 | 0,_,_,_,_=>none
 | n+1,l1,z3,z4,b6=>
  (if b6=true then BT l1 z3 fun x7=>B5 x7 fun s8 z9 s10 l11=>bO1 (Og n s8 z4) fun z12=>BT l1 z3 fun x13=>B5 x13 fun s14 z15 s16 l17=>bO1 (UC n z15 s16 l17 z12) fun z18=>Al (IntKind.wrap .i64 (z3+1)) fun z19=>Gi n l1 z19 z18 else some z4)
end
def YT (n:Nat) (l1:LD) (z2:Int):Option (Int):=
 Gi n l1 (0:Int) z2
theorem cH (n:Nat):∀⦃l1 z2 r1⦄,YT n l1 z2=some r1->
    AW Tryz.prog inv 15 [.c (.ptr (.ext 0) 0),.d (.list true 4 l1)] [.cells [.d (.int .i64 z2)]] (.t []) [.cells [.d (.int .i64 r1)]] []:=by
 intro l1 z2 r1 h
 unfold YT at h
 refine AW.of Ab AO Bp Tryz.func15 rfl (by kernel_rfl) rfl rfl rfl (fun M hM hI=>?_)
 try cbv
 refine AB ?_
 try cbv
 refine BF (T:=Nat×Int×Int) [0,1,4] [.ext 0] 32 (fun t=>⟨[sE 0 0,sT 1 4 l1,sI 4 t.2.1],[(.ext 0,.cells [.d (.int .i64 t.2.2)])],32⟩)
   (fun t=>t.1<=n/\Gi t.1 l1 t.2.1 t.2.2=some r1) (fun t=>t.1) (n,((0:Int),z2)) ⟨Nat.le_refl _,h⟩ (by cbv) ?_
 clear h
 rintro⟨m1,z3,z4⟩ ⟨hm1,h⟩
 replace hm1:m1<=n:=hm1
 obtain _ | m1:=m1
 ·replace h:Gi 0 l1 z3 z4=some r1:=h
  rw[Gi]at h
  cases h
 replace h:Gi (m1+1) l1 z3 z4=some r1:=h
 rw[Gi]at h
 try cbv
 refine AB ?_
 try cbv
 refine AH 15 [0,1,4,15] [.ext 0] 384 (fun m b=>m<=m1/\Gj m l1 z3 z4 b=some r1) ?_ ?_
 ·try cbv
  replace h:=AP M h
  obtain⟨z5,hz,h⟩:=h
  refine⟨z5,hz,?_⟩
  clear hz
  try cbv
  refine Aa (fun e=>?_) (fun e=>?_)
  ·replace h:=AJ e h
   clear e
   try cbv
   refine BJ (fun e=>?_) (fun e=>?_)
   ·replace h:=AJ e h
    clear e
    try cbv
    exact AA (m1,true) [0,1,4,15] [.ext 0] 384 ⟨by omega,h⟩ (by cbv)
   replace h:=AK (Int.not_le.2 e) h
   clear e
   try cbv
   exact AA (m1,false) [0,1,4,15] [.ext 0] 384 ⟨by omega,h⟩ (by cbv)
  replace h:=AK (Int.not_lt.2 e) h
  clear e
  try cbv
  exact AA (m1,false) [0,1,4,15] [.ext 0] 384 ⟨by omega,h⟩ (by cbv)
 clear h
 rintro⟨m2,b6⟩ ⟨hm2,h⟩
 try cbv
 replace hm2:m2<=m1:=hm2
 obtain _ | m2:=m2
 ·replace h:Gj 0 l1 z3 z4 b6=some r1:=h
  rw[Gj]at h
  cases h
 replace h:Gj (m2+1) l1 z3 z4 b6=some r1:=h
 rw[Gj]at h
 try cbv
 cases b6
 ·replace h:=Ar h
  try cbv
  obtain rfl:=Option.some.inj h
  refine AF ?_
  try cbv
  exact⟨[],rfl,rfl,⟨rfl,trivial⟩,trivial,trivial⟩
 replace h:=Aq h
 try cbv
 refine AB ?_
 try cbv
 refine AB ?_
 try cbv
 replace h:=Ae h
 obtain⟨x7,⟨hx0,hx⟩,h⟩:=h
 refine⟨x7,hx0,hx,?_⟩
 clear hx0 hx
 replace h:=CQ h
 obtain⟨s8,z9,s10,l11,rfl,h⟩:=h
 try cbv
 replace h:=AG h
 obtain⟨z12,hr,h⟩:=h
 refine AD rfl rfl ?_
 try cbv
 refine AI hM hI [.ext 0] (UB _ hr) rfl (by simp) ⟨rfl,trivial⟩ ⟨trivial,trivial⟩ (by simp) ?_
 clear hr
 try cbv
 replace h:=Ae h
 obtain⟨x13,⟨hx0,hx⟩,h⟩:=h
 refine⟨x13,hx0,hx,?_⟩
 clear hx0 hx
 replace h:=CQ h
 obtain⟨s14,z15,s16,l17,rfl,h⟩:=h
 try cbv
 replace h:=AG h
 obtain⟨z18,hr,h⟩:=h
 refine AD rfl rfl ?_
 try cbv
 refine AI hM hI [.ext 0] (ZA _ hr) rfl (by simp) ⟨rfl,trivial⟩ ⟨trivial,trivial⟩ (by simp) ?_
 clear hr
 try cbv
 replace h:=AN h
 obtain⟨z19,hz,h⟩:=h
 refine⟨z19,hz,?_⟩
 clear hz
 try cbv
 exact An (m2,(z19,z18)) [0,1,4] [.ext 0] 32 ⟨by omega,h⟩ (Nat.lt_succ_of_le (by omega)) (by cbv)
mutual
def Fs:Nat->LD->Int->Int->Option (Int)
 | 0,_,_,_=>none
 | n+1,l1,z4,z5=>
  Ad l1 fun z6=>(if z4<z6 then (if (0:Int)<=z5 then Gk n l1 z4 z5 true else Gk n l1 z4 z5 false)else Gk n l1 z4 z5 false)
def Gk:Nat->LD->Int->Int->Bool->Option (Int)
 | 0,_,_,_,_=>none
 | n+1,l1,z4,z5,b7=>
  (if b7=true then BT l1 z4 fun x8=>B7 x8 fun s9=>bO1 (Og n s9 z5) fun z10=>Al (IntKind.wrap .i64 (z4+1)) fun z11=>Fs n l1 z11 z10 else some z5)
end
def Xi (n:Nat) (l1:LD) (z2:Int):Option (Int):=
 Al (IntKind.wrap .i64 (z2 - 5)) fun z3=>Fs n l1 (0:Int) z3
theorem bG (n:Nat):∀⦃l1 z2 r1⦄,Xi n l1 z2=some r1->
    AW Tryz.prog inv 27 [.c (.ptr (.ext 0) 0),.d (.list false 1 l1)] [.cells [.d (.int .i64 z2)]] (.t []) [.cells [.d (.int .i64 r1)]] []:=by
 intro l1 z2 r1 h
 unfold Xi at h
 refine AW.of Ab AO Bp Tryz.func27 rfl (by kernel_rfl) rfl rfl rfl (fun M hM hI=>?_)
 try cbv
 refine AB ?_
 try cbv
 replace h:=AN h
 obtain⟨z3,hz,h⟩:=h
 refine⟨z3,hz,?_⟩
 clear hz
 try cbv
 refine AB ?_
 try cbv
 refine BF (T:=Nat×Int×Int) [0,1,4] [.ext 0] 320 (fun t=>⟨[sE 0 0,sF 1 1 l1,sI 4 t.2.1],[(.ext 0,.cells [.d (.int .i64 t.2.2)])],320⟩)
   (fun t=>t.1<=n/\Fs t.1 l1 t.2.1 t.2.2=some r1) (fun t=>t.1) (n,((0:Int),z3)) ⟨Nat.le_refl _,h⟩ (by cbv) ?_
 clear h
 rintro⟨m1,z4,z5⟩ ⟨hm1,h⟩
 replace hm1:m1<=n:=hm1
 obtain _ | m1:=m1
 ·replace h:Fs 0 l1 z4 z5=some r1:=h
  rw[Fs]at h
  cases h
 replace h:Fs (m1+1) l1 z4 z5=some r1:=h
 rw[Fs]at h
 try cbv
 refine AB ?_
 try cbv
 refine AH 23 [0,1,4,23] [.ext 0] 672 (fun m b=>m<=m1/\Gk m l1 z4 z5 b=some r1) ?_ ?_
 ·try cbv
  replace h:=AP M h
  obtain⟨z6,hz,h⟩:=h
  refine⟨z6,hz,?_⟩
  clear hz
  try cbv
  refine Aa (fun e=>?_) (fun e=>?_)
  ·replace h:=AJ e h
   clear e
   try cbv
   refine BJ (fun e=>?_) (fun e=>?_)
   ·replace h:=AJ e h
    clear e
    try cbv
    exact AA (m1,true) [0,1,4,23] [.ext 0] 672 ⟨by omega,h⟩ (by cbv)
   replace h:=AK (Int.not_le.2 e) h
   clear e
   try cbv
   exact AA (m1,false) [0,1,4,23] [.ext 0] 672 ⟨by omega,h⟩ (by cbv)
  replace h:=AK (Int.not_lt.2 e) h
  clear e
  try cbv
  exact AA (m1,false) [0,1,4,23] [.ext 0] 672 ⟨by omega,h⟩ (by cbv)
 clear h
 rintro⟨m2,b7⟩ ⟨hm2,h⟩
 try cbv
 replace hm2:m2<=m1:=hm2
 obtain _ | m2:=m2
 ·replace h:Gk 0 l1 z4 z5 b7=some r1:=h
  rw[Gk]at h
  cases h
 replace h:Gk (m2+1) l1 z4 z5 b7=some r1:=h
 rw[Gk]at h
 try cbv
 cases b7
 ·replace h:=Ar h
  try cbv
  obtain rfl:=Option.some.inj h
  refine AF ?_
  try cbv
  exact⟨[],rfl,rfl,⟨rfl,trivial⟩,trivial,trivial⟩
 replace h:=Aq h
 try cbv
 refine AB ?_
 try cbv
 replace h:=Ae h
 obtain⟨x8,⟨hx0,hx⟩,h⟩:=h
 refine⟨x8,hx0,hx,?_⟩
 clear hx0 hx
 replace h:=B3 h
 obtain⟨s9,rfl,h⟩:=h
 try cbv
 replace h:=AG h
 obtain⟨z10,hr,h⟩:=h
 refine AD rfl rfl ?_
 try cbv
 refine AI hM hI [.ext 0] (UB _ hr) rfl (by simp) ⟨rfl,trivial⟩ ⟨trivial,trivial⟩ (by simp) ?_
 clear hr
 try cbv
 replace h:=AN h
 obtain⟨z11,hz,h⟩:=h
 refine⟨z11,hz,?_⟩
 clear hz
 try cbv
 exact An (m2,(z11,z10)) [0,1,4] [.ext 0] 320 ⟨by omega,h⟩ (Nat.lt_succ_of_le (by omega)) (by cbv)
def YU (n:Nat) (s1:BA) (l2:LD) (z3:Int):Option (Int):=
 bO1 (Og n s1 z3) fun z4=>bO1 (Xi n l2 z4) fun z5=>some z5
theorem bH (n:Nat):∀⦃s1 l2 z3 r1⦄,YU n s1 l2 z3=some r1->
    AW Tryz.prog inv 28 [.c (.ptr (.ext 0) 0),.d (.agg [.str s1,.list false 1 l2])] [.cells [.d (.int .i64 z3)]] (.t []) [.cells [.d (.int .i64 r1)]] []:=by
 intro s1 l2 z3 r1 h
 unfold YU at h
 refine AW.of Ab AO Bp Tryz.func28 rfl (by kernel_rfl) rfl rfl rfl (fun M hM hI=>?_)
 try cbv
 refine AB ?_
 try cbv
 refine AB ?_
 try cbv
 replace h:=AG h
 obtain⟨z4,hr,h⟩:=h
 refine AD rfl rfl ?_
 try cbv
 refine AI hM hI [.ext 0] (UB _ hr) rfl (by simp) ⟨rfl,trivial⟩ ⟨trivial,trivial⟩ (by simp) ?_
 clear hr
 try cbv
 replace h:=AG h
 obtain⟨z5,hr,h⟩:=h
 refine AD rfl rfl ?_
 try cbv
 refine AI hM hI [.ext 0] (bG _ hr) rfl (by simp) ⟨rfl,trivial⟩ ⟨trivial,trivial⟩ (by simp) ?_
 clear hr
 try cbv
 obtain rfl:=Option.some.inj h
 refine AF ?_
 try cbv
 exact⟨[],rfl,rfl,⟨rfl,trivial⟩,trivial,trivial⟩
mutual
def Ft:Nat->LD->Int->Int->Option (Int)
 | 0,_,_,_=>none
 | n+1,l7,z13,z14=>
  Ad l7 fun z15=>(if z13<z15 then (if (0:Int)<=z14 then Gl n l7 z13 z14 true else Gl n l7 z13 z14 false)else Gl n l7 z13 z14 false)
def Gl:Nat->LD->Int->Int->Bool->Option (Int)
 | 0,_,_,_,_=>none
 | n+1,l7,z13,z14,b16=>
  (if b16=true then BT l7 z13 fun x17=>Cz x17 fun z18 z19 s20 s21 s22 l23 l24 z25=>bO1 (Vb n z18 z19 s20 s21 s22 l23 l24 z25 z14) fun z26=>Al (IntKind.wrap .i64 (z13+1)) fun z27=>Ft n l7 z27 z26 else some z14)
def Vb:Nat->Int->Int->BA->BA->BA->LD->LD->Int->Int->Option (Int)
 | 0,_,_,_,_,_,_,_,_,_=>none
 | n+1,z1,z2,s3,s4,s5,l6,l7,z8,z9=>
  bO1 (Og n s3 z9) fun z10=>bO1 (Og n s4 z10) fun z11=>bO1 (YU n s5 l6 z11) fun z12=>Ft n l7 (0:Int) z12
end
theorem bI (n:Nat):∀⦃z1 z2 s3 s4 s5 l6 l7 z8 z9 r1⦄,Vb n z1 z2 s3 s4 s5 l6 l7 z8 z9=some r1->
    AW Tryz.prog inv 18 [.c (.ptr (.ext 0) 0),.d (.agg [.int .u8 z1,.int .i64 z2,.str s3,.str s4,.str s5,.list false 1 l6,.list true 8 l7,.int .i64 z8])] [.cells [.d (.int .i64 z9)]] (.t []) [.cells [.d (.int .i64 r1)]] []:=by
 induction n using Nat.strongRecOn with | _ n ih=>
 obtain _ | n:=n
 ·intro z1 z2 s3 s4 s5 l6 l7 z8 z9 r1 h
  cases (show (none:Option _)=some _ from h)
 intro z1 z2 s3 s4 s5 l6 l7 z8 z9 r1 h
 rw[Vb]at h
 refine AW.of Ab AO Bp Tryz.func18 rfl (by kernel_rfl) rfl rfl rfl (fun M hM hI=>?_)
 try cbv
 refine AB ?_
 try cbv
 refine AB ?_
 try cbv
 replace h:=AG h
 obtain⟨z10,hr,h⟩:=h
 refine AD rfl rfl ?_
 try cbv
 refine AI hM hI [.ext 0] (UB _ hr) rfl (by simp) ⟨rfl,trivial⟩ ⟨trivial,trivial⟩ (by simp) ?_
 clear hr
 try cbv
 refine AB ?_
 try cbv
 replace h:=AG h
 obtain⟨z11,hr,h⟩:=h
 refine AD rfl rfl ?_
 try cbv
 refine AI hM hI [.ext 0] (UB _ hr) rfl (by simp) ⟨rfl,trivial⟩ ⟨trivial,trivial⟩ (by simp) ?_
 clear hr
 try cbv
 refine AB ?_
 try cbv
 replace h:=AG h
 obtain⟨z12,hr,h⟩:=h
 refine AD rfl rfl ?_
 try cbv
 refine AI hM hI [.ext 0] (bH _ hr) rfl (by simp) ⟨rfl,trivial⟩ ⟨trivial,trivial⟩ (by simp) ?_
 clear hr
 try cbv
 refine AB ?_
 try cbv
 refine BF (T:=Nat×Int×Int) [0,3,4] [.ext 0,.loc 0] 448 (fun t=>⟨[sE 0 0,sL 3 0,sI 4 t.2.1],[(.ext 0,.cells [.d (.int .i64 t.2.2)]),(.loc 0,.cells [.d (.int .u8 z1),.d (.int .i64 z2),.d (.str s3),.d (.str s4),.d (.str s5),.d (.list false 1 l6),.d (.list true 8 l7),.d (.int .i64 z8)])],448⟩)
   (fun t=>t.1<=n/\Ft t.1 l7 t.2.1 t.2.2=some r1) (fun t=>t.1) (n,((0:Int),z12)) ⟨Nat.le_refl _,h⟩ (by cbv) ?_
 clear h
 rintro⟨m1,z13,z14⟩ ⟨hm1,h⟩
 replace hm1:m1<=n:=hm1
 obtain _ | m1:=m1
 ·replace h:Ft 0 l7 z13 z14=some r1:=h
  rw[Ft]at h
  cases h
 replace h:Ft (m1+1) l7 z13 z14=some r1:=h
 rw[Ft]at h
 try cbv
 refine AB ?_
 try cbv
 refine AH 28 [0,3,4,28] [.ext 0,.loc 0] 832 (fun m b=>m<=m1/\Gl m l7 z13 z14 b=some r1) ?_ ?_
 ·try cbv
  replace h:=AP M h
  obtain⟨z15,hz,h⟩:=h
  refine⟨z15,hz,?_⟩
  clear hz
  try cbv
  refine Aa (fun e=>?_) (fun e=>?_)
  ·replace h:=AJ e h
   clear e
   try cbv
   refine BJ (fun e=>?_) (fun e=>?_)
   ·replace h:=AJ e h
    clear e
    try cbv
    exact AA (m1,true) [0,3,4,28] [.ext 0,.loc 0] 832 ⟨by omega,h⟩ (by cbv)
   replace h:=AK (Int.not_le.2 e) h
   clear e
   try cbv
   exact AA (m1,false) [0,3,4,28] [.ext 0,.loc 0] 832 ⟨by omega,h⟩ (by cbv)
  replace h:=AK (Int.not_lt.2 e) h
  clear e
  try cbv
  exact AA (m1,false) [0,3,4,28] [.ext 0,.loc 0] 832 ⟨by omega,h⟩ (by cbv)
 clear h
 rintro⟨m2,b16⟩ ⟨hm2,h⟩
 try cbv
 replace hm2:m2<=m1:=hm2
 obtain _ | m2:=m2
 ·replace h:Gl 0 l7 z13 z14 b16=some r1:=h
  rw[Gl]at h
  cases h
 replace h:Gl (m2+1) l7 z13 z14 b16=some r1:=h
 rw[Gl]at h
 try cbv
 cases b16
 ·replace h:=Ar h
  try cbv
  obtain rfl:=Option.some.inj h
  refine AF ?_
  try cbv
  exact⟨[],rfl,rfl,⟨rfl,trivial⟩,trivial,trivial⟩
 replace h:=Aq h
 try cbv
 refine AB ?_
 try cbv
 replace h:=Ae h
 obtain⟨x17,⟨hx0,hx⟩,h⟩:=h
 refine⟨x17,hx0,hx,?_⟩
 clear hx0 hx
 replace h:=CB h
 obtain⟨z18,z19,s20,s21,s22,l23,l24,z25,rfl,h⟩:=h
 try cbv
 replace h:=AG h
 obtain⟨z26,hr,h⟩:=h
 refine AD rfl rfl ?_
 try cbv
 refine AI hM hI [.ext 0] ((ih _ (by omega)) hr) rfl (by simp) ⟨rfl,trivial⟩ ⟨trivial,trivial⟩ (by simp) ?_
 clear hr
 try cbv
 replace h:=AN h
 obtain⟨z27,hz,h⟩:=h
 refine⟨z27,hz,?_⟩
 clear hz
 try cbv
 exact An (m2,(z27,z26)) [0,3,4] [.ext 0,.loc 0] 448 ⟨by omega,h⟩ (Nat.lt_succ_of_le (by omega)) (by cbv)
mutual
def FG:Nat->LD->Int->Int->Option (Int)
 | 0,_,_,_=>none
 | n+1,l1,z3,z4=>
  Ad l1 fun z5=>(if z3<z5 then (if (0:Int)<=z4 then Gm n l1 z3 z4 true else Gm n l1 z3 z4 false)else Gm n l1 z3 z4 false)
def Gm:Nat->LD->Int->Int->Bool->Option (Int)
 | 0,_,_,_,_=>none
 | n+1,l1,z3,z4,b6=>
  (if b6=true then BT l1 z3 fun x7=>Gb x7 fun z8 s9 s10 l11 z12 s13 l14 z15 s16 l17 l18 l19 l20 l21 z22=>bO1 (Og n s9 z4) fun z23=>bO1 (Og n s10 z23) fun z24=>bO1 (Xi n l11 z24) fun z25=>bO1 (UC n z12 s13 l14 z25) fun z26=>bO1 (YU n s16 l17 z26) fun z27=>Gn n l1 z3 l18 l19 l20 l21 (0:Int) z27 else some z4)
def Gn:Nat->LD->Int->LD->LD->LD->LD->Int->Int->Option (Int)
 | 0,_,_,_,_,_,_,_,_=>none
 | n+1,l1,z3,l18,l19,l20,l21,z28,z29=>
  Ad l18 fun z30=>(if z28<z30 then (if (0:Int)<=z29 then Gp n l1 z3 l18 l19 l20 l21 z28 z29 true else Gp n l1 z3 l18 l19 l20 l21 z28 z29 false)else Gp n l1 z3 l18 l19 l20 l21 z28 z29 false)
def Gp:Nat->LD->Int->LD->LD->LD->LD->Int->Int->Bool->Option (Int)
 | 0,_,_,_,_,_,_,_,_,_=>none
 | n+1,l1,z3,l18,l19,l20,l21,z28,z29,b31=>
  (if b31=true then BT l18 z28 fun x32=>Cz x32 fun z33 z34 s35 s36 s37 l38 l39 z40=>bO1 (Vb n z33 z34 s35 s36 s37 l38 l39 z40 z29) fun z41=>Al (IntKind.wrap .i64 (z28+1)) fun z42=>Gn n l1 z3 l18 l19 l20 l21 z42 z41 else (if z29<(0:Int)then FH n l1 z3 l19 l20 l21 z29 true else FH n l1 z3 l19 l20 l21 z29 false))
def FH:Nat->LD->Int->LD->LD->LD->Int->Bool->Option (Int)
 | 0,_,_,_,_,_,_,_=>none
 | n+1,l1,z3,l19,l20,l21,z29,b43=>
  (if b43=true then some z29 else bO1 (WT n l19 z29) fun z44=>bO1 (WT n l20 z44) fun z45=>Gq n l1 z3 l21 (0:Int) z45)
def Gq:Nat->LD->Int->LD->Int->Int->Option (Int)
 | 0,_,_,_,_,_=>none
 | n+1,l1,z3,l21,z46,z47=>
  Ad l21 fun z48=>(if z46<z48 then (if (0:Int)<=z47 then Gr n l1 z3 l21 z46 z47 true else Gr n l1 z3 l21 z46 z47 false)else Gr n l1 z3 l21 z46 z47 false)
def Gr:Nat->LD->Int->LD->Int->Int->Bool->Option (Int)
 | 0,_,_,_,_,_,_=>none
 | n+1,l1,z3,l21,z46,z47,b49=>
  (if b49=true then BT l21 z46 fun x50=>Gc x50 fun s51 s52 l53=>bO1 (Og n s51 z47) fun z54=>BT l21 z46 fun x55=>Gc x55 fun s56 s57 l58=>bO1 (Og n s57 z54) fun z59=>BT l21 z46 fun x60=>Gc x60 fun s61 s62 l63=>bO1 (WT n l63 z59) fun z64=>Al (IntKind.wrap .i64 (z46+1)) fun z65=>Gq n l1 z3 l21 z65 z64 else Al (IntKind.wrap .i64 (z3+1)) fun z66=>FG n l1 z66 z47)
def WT:Nat->LD->Int->Option (Int)
 | 0,_,_=>none
 | n+1,l1,z2=>
  FG n l1 (0:Int) z2
end
theorem cI (n:Nat):∀⦃l1 z2 r1⦄,WT n l1 z2=some r1->
    AW Tryz.prog inv 17 [.c (.ptr (.ext 0) 0),.d (.list true 15 l1)] [.cells [.d (.int .i64 z2)]] (.t []) [.cells [.d (.int .i64 r1)]] []:=by
 induction n using Nat.strongRecOn with | _ n ih=>
 obtain _ | n:=n
 ·intro l1 z2 r1 h
  cases (show (none:Option _)=some _ from h)
 intro l1 z2 r1 h
 rw[WT]at h
 refine AW.of Ab AO Bp Tryz.func17 rfl (by kernel_rfl) rfl rfl rfl (fun M hM hI=>?_)
 try cbv
 refine AB ?_
 try cbv
 refine BF (T:=Nat×Int×Int) [0,1,4] [.ext 0] 32 (fun t=>⟨[sE 0 0,sT 1 15 l1,sI 4 t.2.1],[(.ext 0,.cells [.d (.int .i64 t.2.2)])],32⟩)
   (fun t=>t.1<=n/\FG t.1 l1 t.2.1 t.2.2=some r1) (fun t=>t.1) (n,((0:Int),z2)) ⟨Nat.le_refl _,h⟩ (by cbv) ?_
 clear h
 rintro⟨m1,z3,z4⟩ ⟨hm1,h⟩
 replace hm1:m1<=n:=hm1
 obtain _ | m1:=m1
 ·replace h:FG 0 l1 z3 z4=some r1:=h
  rw[FG]at h
  cases h
 replace h:FG (m1+1) l1 z3 z4=some r1:=h
 rw[FG]at h
 try cbv
 refine AB ?_
 try cbv
 refine AH 18 [0,1,4,18] [.ext 0] 384 (fun m b=>m<=m1/\Gm m l1 z3 z4 b=some r1) ?_ ?_
 ·try cbv
  replace h:=AP M h
  obtain⟨z5,hz,h⟩:=h
  refine⟨z5,hz,?_⟩
  clear hz
  try cbv
  refine Aa (fun e=>?_) (fun e=>?_)
  ·replace h:=AJ e h
   clear e
   try cbv
   refine BJ (fun e=>?_) (fun e=>?_)
   ·replace h:=AJ e h
    clear e
    try cbv
    exact AA (m1,true) [0,1,4,18] [.ext 0] 384 ⟨by omega,h⟩ (by cbv)
   replace h:=AK (Int.not_le.2 e) h
   clear e
   try cbv
   exact AA (m1,false) [0,1,4,18] [.ext 0] 384 ⟨by omega,h⟩ (by cbv)
  replace h:=AK (Int.not_lt.2 e) h
  clear e
  try cbv
  exact AA (m1,false) [0,1,4,18] [.ext 0] 384 ⟨by omega,h⟩ (by cbv)
 clear h
 rintro⟨m2,b6⟩ ⟨hm2,h⟩
 try cbv
 replace hm2:m2<=m1:=hm2
 obtain _ | m2:=m2
 ·replace h:Gm 0 l1 z3 z4 b6=some r1:=h
  rw[Gm]at h
  cases h
 replace h:Gm (m2+1) l1 z3 z4 b6=some r1:=h
 rw[Gm]at h
 try cbv
 cases b6
 ·replace h:=Ar h
  try cbv
  obtain rfl:=Option.some.inj h
  refine AF ?_
  try cbv
  exact⟨[],rfl,rfl,⟨rfl,trivial⟩,trivial,trivial⟩
 replace h:=Aq h
 try cbv
 refine AB ?_
 try cbv
 refine AB ?_
 try cbv
 replace h:=Ae h
 obtain⟨x7,⟨hx0,hx⟩,h⟩:=h
 refine⟨x7,hx0,hx,?_⟩
 clear hx0 hx
 replace h:=FT h
 obtain⟨z8,s9,s10,l11,z12,s13,l14,z15,s16,l17,l18,l19,l20,l21,z22,rfl,h⟩:=h
 try cbv
 refine AB ?_
 try cbv
 replace h:=AG h
 obtain⟨z23,hr,h⟩:=h
 refine AD rfl rfl ?_
 try cbv
 refine AI hM hI [.ext 0] (UB _ hr) rfl (by simp) ⟨rfl,trivial⟩ ⟨trivial,trivial⟩ (by simp) ?_
 clear hr
 try cbv
 refine AB ?_
 try cbv
 replace h:=AG h
 obtain⟨z24,hr,h⟩:=h
 refine AD rfl rfl ?_
 try cbv
 refine AI hM hI [.ext 0] (UB _ hr) rfl (by simp) ⟨rfl,trivial⟩ ⟨trivial,trivial⟩ (by simp) ?_
 clear hr
 try cbv
 refine AB ?_
 try cbv
 replace h:=AG h
 obtain⟨z25,hr,h⟩:=h
 refine AD rfl rfl ?_
 try cbv
 refine AI hM hI [.ext 0] (bG _ hr) rfl (by simp) ⟨rfl,trivial⟩ ⟨trivial,trivial⟩ (by simp) ?_
 clear hr
 try cbv
 refine AB ?_
 try cbv
 replace h:=AG h
 obtain⟨z26,hr,h⟩:=h
 refine AD rfl rfl ?_
 try cbv
 refine AI hM hI [.ext 0] (ZA _ hr) rfl (by simp) ⟨rfl,trivial⟩ ⟨trivial,trivial⟩ (by simp) ?_
 clear hr
 try cbv
 refine AB ?_
 try cbv
 replace h:=AG h
 obtain⟨z27,hr,h⟩:=h
 refine AD rfl rfl ?_
 try cbv
 refine AI hM hI [.ext 0] (bH _ hr) rfl (by simp) ⟨rfl,trivial⟩ ⟨trivial,trivial⟩ (by simp) ?_
 clear hr
 try cbv
 refine AB ?_
 try cbv
 refine AB ?_
 try cbv
 refine BF (T:=Nat×Int×Int) [0,1,4,5,6] [.ext 0,.loc 512] 1248 (fun t=>⟨[sE 0 0,sT 1 15 l1,sI 4 z3,sL 5 512,sI 6 t.2.1],[(.ext 0,.cells [.d (.int .i64 t.2.2)]),(.loc 512,.cells [.d (.int .u8 z8),.d (.str s9),.d (.str s10),.d (.list false 1 l11),.d (.int .u8 z12),.d (.str s13),.d (.list true 3 l14),.d (.int .i64 z15),.d (.str s16),.d (.list false 1 l17),.d (.list true 8 l18),.d (.list true 15 l19),.d (.list true 15 l20),.d (.list true 3 l21),.d (.int .i64 z22)])],1248⟩)
   (fun t=>t.1<=m2/\Gn t.1 l1 z3 l18 l19 l20 l21 t.2.1 t.2.2=some r1) (fun t=>t.1) (m2,((0:Int),z27)) ⟨Nat.le_refl _,h⟩ (by cbv) ?_
 clear h
 rintro⟨m3,z28,z29⟩ ⟨hm3,h⟩
 replace hm3:m3<=m2:=hm3
 obtain _ | m3:=m3
 ·replace h:Gn 0 l1 z3 l18 l19 l20 l21 z28 z29=some r1:=h
  rw[Gn]at h
  cases h
 replace h:Gn (m3+1) l1 z3 l18 l19 l20 l21 z28 z29=some r1:=h
 rw[Gn]at h
 try cbv
 refine AB ?_
 try cbv
 refine AH 56 [0,1,4,5,6,56] [.ext 0,.loc 512] 1632 (fun m b=>m<=m3/\Gp m l1 z3 l18 l19 l20 l21 z28 z29 b=some r1) ?_ ?_
 ·try cbv
  replace h:=AP M h
  obtain⟨z30,hz,h⟩:=h
  refine⟨z30,hz,?_⟩
  clear hz
  try cbv
  refine Aa (fun e=>?_) (fun e=>?_)
  ·replace h:=AJ e h
   clear e
   try cbv
   refine BJ (fun e=>?_) (fun e=>?_)
   ·replace h:=AJ e h
    clear e
    try cbv
    exact AA (m3,true) [0,1,4,5,6,56] [.ext 0,.loc 512] 1632 ⟨by omega,h⟩ (by cbv)
   replace h:=AK (Int.not_le.2 e) h
   clear e
   try cbv
   exact AA (m3,false) [0,1,4,5,6,56] [.ext 0,.loc 512] 1632 ⟨by omega,h⟩ (by cbv)
  replace h:=AK (Int.not_lt.2 e) h
  clear e
  try cbv
  exact AA (m3,false) [0,1,4,5,6,56] [.ext 0,.loc 512] 1632 ⟨by omega,h⟩ (by cbv)
 clear h
 rintro⟨m4,b31⟩ ⟨hm4,h⟩
 try cbv
 replace hm4:m4<=m3:=hm4
 obtain _ | m4:=m4
 ·replace h:Gp 0 l1 z3 l18 l19 l20 l21 z28 z29 b31=some r1:=h
  rw[Gp]at h
  cases h
 replace h:Gp (m4+1) l1 z3 l18 l19 l20 l21 z28 z29 b31=some r1:=h
 rw[Gp]at h
 try cbv
 cases b31
 rotate_left
 ·replace h:=Aq h
  try cbv
  refine AB ?_
  try cbv
  replace h:=Ae h
  obtain⟨x32,⟨hx0,hx⟩,h⟩:=h
  refine⟨x32,hx0,hx,?_⟩
  clear hx0 hx
  replace h:=CB h
  obtain⟨z33,z34,s35,s36,s37,l38,l39,z40,rfl,h⟩:=h
  try cbv
  replace h:=AG h
  obtain⟨z41,hr,h⟩:=h
  refine AD rfl rfl ?_
  try cbv
  refine AI hM hI [.ext 0] (bI _ hr) rfl (by simp) ⟨rfl,trivial⟩ ⟨trivial,trivial⟩ (by simp) ?_
  clear hr
  try cbv
  replace h:=AN h
  obtain⟨z42,hz,h⟩:=h
  refine⟨z42,hz,?_⟩
  clear hz
  try cbv
  exact An (m4,(z42,z41)) [0,1,4,5,6] [.ext 0,.loc 512] 1248 ⟨by omega,h⟩ (Nat.lt_succ_of_le (by omega)) (by cbv)
 replace h:=Ar h
 try cbv
 refine AB ?_
 try cbv
 refine AH 70 [0,1,4,5,6,70] [.ext 0,.loc 512] 1792 (fun m b=>m<=m4/\FH m l1 z3 l19 l20 l21 z29 b=some r1) ?_ ?_
 ·try cbv
  refine Aa (fun e=>?_) (fun e=>?_)
  ·replace h:=AJ e h
   clear e
   try cbv
   exact AA (m4,true) [0,1,4,5,6,70] [.ext 0,.loc 512] 1792 ⟨by omega,h⟩ (by cbv)
  replace h:=AK (Int.not_lt.2 e) h
  clear e
  try cbv
  exact AA (m4,false) [0,1,4,5,6,70] [.ext 0,.loc 512] 1792 ⟨by omega,h⟩ (by cbv)
 clear h
 rintro⟨m5,b43⟩ ⟨hm5,h⟩
 try cbv
 replace hm5:m5<=m4:=hm5
 obtain _ | m5:=m5
 ·replace h:FH 0 l1 z3 l19 l20 l21 z29 b43=some r1:=h
  rw[FH]at h
  cases h
 replace h:FH (m5+1) l1 z3 l19 l20 l21 z29 b43=some r1:=h
 rw[FH]at h
 try cbv
 cases b43
 rotate_left
 ·replace h:=Aq h
  try cbv
  obtain rfl:=Option.some.inj h
  refine AF ?_
  try cbv
  exact⟨[],rfl,rfl,⟨rfl,trivial⟩,trivial,trivial⟩
 replace h:=Ar h
 try cbv
 refine AB ?_
 try cbv
 replace h:=AG h
 obtain⟨z44,hr,h⟩:=h
 refine AD rfl rfl ?_
 try cbv
 refine AI hM hI [.ext 0] ((ih _ (by omega)) hr) rfl (by simp) ⟨rfl,trivial⟩ ⟨trivial,trivial⟩ (by simp) ?_
 clear hr
 try cbv
 refine AB ?_
 try cbv
 replace h:=AG h
 obtain⟨z45,hr,h⟩:=h
 refine AD rfl rfl ?_
 try cbv
 refine AI hM hI [.ext 0] ((ih _ (by omega)) hr) rfl (by simp) ⟨rfl,trivial⟩ ⟨trivial,trivial⟩ (by simp) ?_
 clear hr
 try cbv
 refine AB ?_
 try cbv
 refine BF (T:=Nat×Int×Int) [0,1,4,5,6,7] [.ext 0,.loc 512] 2080 (fun t=>⟨[sE 0 0,sT 1 15 l1,sI 4 z3,sL 5 512,sI 6 z28,sI 7 t.2.1],[(.ext 0,.cells [.d (.int .i64 t.2.2)]),(.loc 512,.cells [.d (.int .u8 z8),.d (.str s9),.d (.str s10),.d (.list false 1 l11),.d (.int .u8 z12),.d (.str s13),.d (.list true 3 l14),.d (.int .i64 z15),.d (.str s16),.d (.list false 1 l17),.d (.list true 8 l18),.d (.list true 15 l19),.d (.list true 15 l20),.d (.list true 3 l21),.d (.int .i64 z22)])],2080⟩)
   (fun t=>t.1<=m5/\Gq t.1 l1 z3 l21 t.2.1 t.2.2=some r1) (fun t=>t.1) (m5,((0:Int),z45)) ⟨Nat.le_refl _,h⟩ (by cbv) ?_
 clear h
 rintro⟨m6,z46,z47⟩ ⟨hm6,h⟩
 replace hm6:m6<=m5:=hm6
 obtain _ | m6:=m6
 ·replace h:Gq 0 l1 z3 l21 z46 z47=some r1:=h
  rw[Gq]at h
  cases h
 replace h:Gq (m6+1) l1 z3 l21 z46 z47=some r1:=h
 rw[Gq]at h
 try cbv
 refine AB ?_
 try cbv
 refine AH 90 [0,1,4,5,6,7,90] [.ext 0,.loc 512] 2464 (fun m b=>m<=m6/\Gr m l1 z3 l21 z46 z47 b=some r1) ?_ ?_
 ·try cbv
  replace h:=AP M h
  obtain⟨z48,hz,h⟩:=h
  refine⟨z48,hz,?_⟩
  clear hz
  try cbv
  refine Aa (fun e=>?_) (fun e=>?_)
  ·replace h:=AJ e h
   clear e
   try cbv
   refine BJ (fun e=>?_) (fun e=>?_)
   ·replace h:=AJ e h
    clear e
    try cbv
    exact AA (m6,true) [0,1,4,5,6,7,90] [.ext 0,.loc 512] 2464 ⟨by omega,h⟩ (by cbv)
   replace h:=AK (Int.not_le.2 e) h
   clear e
   try cbv
   exact AA (m6,false) [0,1,4,5,6,7,90] [.ext 0,.loc 512] 2464 ⟨by omega,h⟩ (by cbv)
  replace h:=AK (Int.not_lt.2 e) h
  clear e
  try cbv
  exact AA (m6,false) [0,1,4,5,6,7,90] [.ext 0,.loc 512] 2464 ⟨by omega,h⟩ (by cbv)
 clear h
 rintro⟨m7,b49⟩ ⟨hm7,h⟩
 try cbv
 replace hm7:m7<=m6:=hm7
 obtain _ | m7:=m7
 ·replace h:Gr 0 l1 z3 l21 z46 z47 b49=some r1:=h
  rw[Gr]at h
  cases h
 replace h:Gr (m7+1) l1 z3 l21 z46 z47 b49=some r1:=h
 rw[Gr]at h
 try cbv
 cases b49
 ·replace h:=Ar h
  try cbv
  replace h:=AN h
  obtain⟨z66,hz,h⟩:=h
  refine⟨z66,hz,?_⟩
  clear hz
  try cbv
  exact An (m7,(z66,z47)) [0,1,4] [.ext 0] 32 ⟨by omega,h⟩ (Nat.lt_succ_of_le (by omega)) (by cbv)
 replace h:=Aq h
 try cbv
 refine AB ?_
 try cbv
 refine AB ?_
 try cbv
 replace h:=Ae h
 obtain⟨x50,⟨hx0,hx⟩,h⟩:=h
 refine⟨x50,hx0,hx,?_⟩
 clear hx0 hx
 replace h:=FU h
 obtain⟨s51,s52,l53,rfl,h⟩:=h
 try cbv
 replace h:=AG h
 obtain⟨z54,hr,h⟩:=h
 refine AD rfl rfl ?_
 try cbv
 refine AI hM hI [.ext 0] (UB _ hr) rfl (by simp) ⟨rfl,trivial⟩ ⟨trivial,trivial⟩ (by simp) ?_
 clear hr
 try cbv
 refine AB ?_
 try cbv
 replace h:=Ae h
 obtain⟨x55,⟨hx0,hx⟩,h⟩:=h
 refine⟨x55,hx0,hx,?_⟩
 clear hx0 hx
 replace h:=FU h
 obtain⟨s56,s57,l58,rfl,h⟩:=h
 try cbv
 replace h:=AG h
 obtain⟨z59,hr,h⟩:=h
 refine AD rfl rfl ?_
 try cbv
 refine AI hM hI [.ext 0] (UB _ hr) rfl (by simp) ⟨rfl,trivial⟩ ⟨trivial,trivial⟩ (by simp) ?_
 clear hr
 try cbv
 replace h:=Ae h
 obtain⟨x60,⟨hx0,hx⟩,h⟩:=h
 refine⟨x60,hx0,hx,?_⟩
 clear hx0 hx
 replace h:=FU h
 obtain⟨s61,s62,l63,rfl,h⟩:=h
 try cbv
 replace h:=AG h
 obtain⟨z64,hr,h⟩:=h
 refine AD rfl rfl ?_
 try cbv
 refine AI hM hI [.ext 0] ((ih _ (by omega)) hr) rfl (by simp) ⟨rfl,trivial⟩ ⟨trivial,trivial⟩ (by simp) ?_
 clear hr
 try cbv
 replace h:=AN h
 obtain⟨z65,hz,h⟩:=h
 refine⟨z65,hz,?_⟩
 clear hz
 try cbv
 exact An (m7,(z65,z64)) [0,1,4,5,6,7] [.ext 0,.loc 512] 2080 ⟨by omega,h⟩ (Nat.lt_succ_of_le (by omega)) (by cbv)
mutual
def Lw:Nat->LD->Int->Int->Option (Bool)
 | 0,_,_,_=>none
 | n+1,l1,z2,z3=>
  Ad l1 fun z4=>(if z2<z4 then (if (0:Int)<=z3 then Lx n l1 z2 z3 true else Lx n l1 z2 z3 false)else Lx n l1 z2 z3 false)
def Lx:Nat->LD->Int->Int->Bool->Option (Bool)
 | 0,_,_,_,_=>none
 | n+1,l1,z2,z3,b5=>
  (if b5=true then BT l1 z2 fun x6=>Bv x6 fun z7 s8 l9 z10 s11 l12 l13 z14 z15 s16 s17 s18 l19 l20 z21 z22=>bO1 (Og n s8 z3) fun z23=>bO1 (YT n l9 z23) fun z24=>bO1 (UC n z10 s11 l12 z24) fun z25=>bO1 (WT n l13 z25) fun z26=>bO1 (Vb n z14 z15 s16 s17 s18 l19 l20 z21 z26) fun z27=>Al (IntKind.wrap .i64 (z2+1)) fun z28=>Lw n l1 z28 z27 else (if z3<(0:Int)then some true else some false))
end
def F5 (n:Nat) (l1:LD):Option (Bool):=
 Lw n l1 (0:Int) (20000:Int)
theorem T5 (n:Nat):∀⦃l1 r1⦄,F5 n l1=some r1->
    AW Tryz.prog inv 5 [.d (.agg [.list true 16 l1])] [] (.v (.d (.bool r1))) [] []:=by
 intro l1 r1 h
 unfold F5 at h
 refine AW.of Ab AO Bp Tryz.func5 rfl (by kernel_rfl) rfl rfl rfl (fun M hM hI=>?_)
 try cbv
 refine AB ?_
 try cbv
 refine AB ?_
 try cbv
 refine AB ?_
 try cbv
 refine AB ?_
 try cbv
 refine BF (T:=Nat×Int×Int) [1,2,3,4] [.loc 0,.loc 96] 192 (fun t=>⟨[sL 1 0,sB 2 false,sL 3 96,sI 4 t.2.1],[(.loc 0,.cells [.d (.list true 16 l1)]),(.loc 96,.cells [.d (.int .i64 t.2.2)])],192⟩)
   (fun t=>t.1<=n/\Lw t.1 l1 t.2.1 t.2.2=some r1) (fun t=>t.1) (n,((0:Int),(20000:Int))) ⟨Nat.le_refl _,h⟩ (by cbv) ?_
 clear h
 rintro⟨m1,z2,z3⟩ ⟨hm1,h⟩
 replace hm1:m1<=n:=hm1
 obtain _ | m1:=m1
 ·replace h:Lw 0 l1 z2 z3=some r1:=h
  rw[Lw]at h
  cases h
 replace h:Lw (m1+1) l1 z2 z3=some r1:=h
 rw[Lw]at h
 try cbv
 refine AB ?_
 try cbv
 refine AH 19 [1,2,3,4,19] [.loc 0,.loc 96] 576 (fun m b=>m<=m1/\Lx m l1 z2 z3 b=some r1) ?_ ?_
 ·try cbv
  replace h:=AP M h
  obtain⟨z4,hz,h⟩:=h
  refine⟨z4,hz,?_⟩
  clear hz
  try cbv
  refine Aa (fun e=>?_) (fun e=>?_)
  ·replace h:=AJ e h
   clear e
   try cbv
   refine BJ (fun e=>?_) (fun e=>?_)
   ·replace h:=AJ e h
    clear e
    try cbv
    exact AA (m1,true) [1,2,3,4,19] [.loc 0,.loc 96] 576 ⟨by omega,h⟩ (by cbv)
   replace h:=AK (Int.not_le.2 e) h
   clear e
   try cbv
   exact AA (m1,false) [1,2,3,4,19] [.loc 0,.loc 96] 576 ⟨by omega,h⟩ (by cbv)
  replace h:=AK (Int.not_lt.2 e) h
  clear e
  try cbv
  exact AA (m1,false) [1,2,3,4,19] [.loc 0,.loc 96] 576 ⟨by omega,h⟩ (by cbv)
 clear h
 rintro⟨m2,b5⟩ ⟨hm2,h⟩
 try cbv
 replace hm2:m2<=m1:=hm2
 obtain _ | m2:=m2
 ·replace h:Lx 0 l1 z2 z3 b5=some r1:=h
  rw[Lx]at h
  cases h
 replace h:Lx (m2+1) l1 z2 z3 b5=some r1:=h
 rw[Lx]at h
 try cbv
 cases b5
 ·replace h:=Ar h
  try cbv
  refine AB ?_
  try cbv
  refine Aa (fun e=>?_) (fun e=>?_)
  ·replace h:=AJ e h
   clear e
   try cbv
   obtain rfl:=Option.some.inj h
   refine AF ?_
   try cbv
   exact⟨[],by trivial⟩
  replace h:=AK (Int.not_lt.2 e) h
  clear e
  try cbv
  obtain rfl:=Option.some.inj h
  refine AF ?_
  try cbv
  exact⟨[],by trivial⟩
 replace h:=Aq h
 try cbv
 refine AB ?_
 try cbv
 refine AB ?_
 try cbv
 replace h:=Ae h
 obtain⟨x6,⟨hx0,hx⟩,h⟩:=h
 refine⟨x6,hx0,hx,?_⟩
 clear hx0 hx
 replace h:=B4 h
 obtain⟨z7,s8,l9,z10,s11,l12,l13,z14,z15,s16,s17,s18,l19,l20,z21,z22,rfl,h⟩:=h
 try cbv
 refine AB ?_
 try cbv
 replace h:=AG h
 obtain⟨z23,hr,h⟩:=h
 refine AD rfl rfl ?_
 try cbv
 refine AI hM hI [.loc 96] (UB _ hr) rfl (by simp) ⟨rfl,trivial⟩ ⟨trivial,trivial⟩ (by simp) ?_
 clear hr
 try cbv
 refine AB ?_
 try cbv
 replace h:=AG h
 obtain⟨z24,hr,h⟩:=h
 refine AD rfl rfl ?_
 try cbv
 refine AI hM hI [.loc 96] (cH _ hr) rfl (by simp) ⟨rfl,trivial⟩ ⟨trivial,trivial⟩ (by simp) ?_
 clear hr
 try cbv
 refine AB ?_
 try cbv
 replace h:=AG h
 obtain⟨z25,hr,h⟩:=h
 refine AD rfl rfl ?_
 try cbv
 refine AI hM hI [.loc 96] (ZA _ hr) rfl (by simp) ⟨rfl,trivial⟩ ⟨trivial,trivial⟩ (by simp) ?_
 clear hr
 try cbv
 refine AB ?_
 try cbv
 replace h:=AG h
 obtain⟨z26,hr,h⟩:=h
 refine AD rfl rfl ?_
 try cbv
 refine AI hM hI [.loc 96] (cI _ hr) rfl (by simp) ⟨rfl,trivial⟩ ⟨trivial,trivial⟩ (by simp) ?_
 clear hr
 try cbv
 replace h:=AG h
 obtain⟨z27,hr,h⟩:=h
 refine AD rfl rfl ?_
 try cbv
 refine AI hM hI [.loc 96] (bI _ hr) rfl (by simp) ⟨rfl,trivial⟩ ⟨trivial,trivial⟩ (by simp) ?_
 clear hr
 try cbv
 replace h:=AN h
 obtain⟨z28,hz,h⟩:=h
 refine⟨z28,hz,?_⟩
 clear hz
 try cbv
 exact An (m2,(z28,z27)) [1,2,3,4] [.loc 0,.loc 96] 192 ⟨by omega,h⟩ (Nat.lt_succ_of_le (by omega)) (by cbv)
def Xj (n:Nat) (z1:Int) (s2:BA) (l3:LD) (b4:Bool):Option (Bool):=
 (if z1=(7:Int)then some true else (if b4=true then (if z1=(6:Int)then some true else some false)else some false))
theorem cJ (n:Nat):∀⦃z1 s2 l3 b4 r1⦄,Xj n z1 s2 l3 b4=some r1->
    AW Tryz.prog inv 37 [.d (.agg [.int .u8 z1,.str s2,.list true 3 l3,.bool b4])] [] (.v (.d (.bool r1))) [] []:=by
 intro z1 s2 l3 b4 r1 h
 unfold Xj at h
 refine AW.of Ab AO Bp Tryz.func37 rfl (by kernel_rfl) rfl rfl rfl (fun M hM hI=>?_)
 try cbv
 refine AB ?_
 try cbv
 refine AB ?_
 try cbv
 refine Ah (fun e=>?_) (fun e=>?_)
 ·replace h:=AJ e h
  clear e
  try cbv
  obtain rfl:=Option.some.inj h
  refine AF ?_
  try cbv
  exact⟨[],by trivial⟩
 replace h:=AK e h
 clear e
 try cbv
 cases b4
 ·replace h:=Ar h
  try cbv
  obtain rfl:=Option.some.inj h
  refine AF ?_
  try cbv
  exact⟨[],by trivial⟩
 replace h:=Aq h
 try cbv
 refine Ah (fun e=>?_) (fun e=>?_)
 ·replace h:=AJ e h
  clear e
  try cbv
  obtain rfl:=Option.some.inj h
  refine AF ?_
  try cbv
  exact⟨[],by trivial⟩
 replace h:=AK e h
 clear e
 try cbv
 obtain rfl:=Option.some.inj h
 refine AF ?_
 try cbv
 exact⟨[],by trivial⟩
def YV (n:Nat) (z1:Int) (s2:BA) (l3:LD) (b4:Bool) (l5:LD):Option (Int×BA×LD×Bool×LD):=
 some (z1,s2,l3,b4,l5)
theorem cK (n:Nat):∀⦃z1 s2 l3 b4 l5 r1 r2 r3 r4 r5⦄,YV n z1 s2 l3 b4 l5=some (r1,r2,r3,r4,r5)->
    AW Tryz.prog inv 38 [.d (.agg [.int .u8 z1,.str s2,.list true 3 l3,.bool b4]),.d (.agg [.list true 16 l5])] [] (.v (.c (.fn 61 [.loc 0,.loc 1]))) [] [.cells [.d (.int .u8 r1),.d (.str r2),.d (.list true 3 r3),.d (.bool r4)],.cells [.d (.list true 16 r5)]]:=by
 intro z1 s2 l3 b4 l5 r1 r2 r3 r4 r5 h
 unfold YV at h
 refine AW.of Ab AO Bp Tryz.func38 rfl (by kernel_rfl) rfl rfl rfl (fun M hM hI=>?_)
 try cbv
 refine AB ?_
 try cbv
 refine AB ?_
 try cbv
 obtain⟨rfl,rfl,rfl,rfl,rfl⟩:=IC h
 refine AF ?_
 try cbv
 exact⟨[.loc 0,.loc 32],rfl,rfl,trivial,⟨rfl,⟨rfl,trivial⟩⟩,trivial⟩
def UD (n:Nat) (z1:Int) (s2:BA) (l3:LD) (z4:Int) (s5:BA) (l6:LD) (l7:LD) (z8:Int) (z9:Int) (s10:BA) (s11:BA) (s12:BA) (l13:LD) (l14:LD) (z15:Int) (z16:Int) (s17:BA):Option (Bool×BA):=
 (if z1=(3:Int)then some (false,s17)else (if s2=s17 then some (true,s17)else some (false,s17)))
theorem Zd (n:Nat):∀⦃z1 s2 l3 z4 s5 l6 l7 z8 z9 s10 s11 s12 l13 l14 z15 z16 s17 r1 r2⦄,UD n z1 s2 l3 z4 s5 l6 l7 z8 z9 s10 s11 s12 l13 l14 z15 z16 s17=some (r1,r2)->
    AW Tryz.prog inv 107 [.d (.agg [.int .u8 z1,.str s2,.list true 4 l3,.int .u8 z4,.str s5,.list true 3 l6,.list true 15 l7,.int .u8 z8,.int .i64 z9,.str s10,.str s11,.str s12,.list false 1 l13,.list true 8 l14,.int .i64 z15,.int .i64 z16]),.c (.ptr (.ext 0) 0)] [.cells [.d (.str s17)]] (.v (.d (.bool r1))) [.cells [.d (.str r2)]] []:=by
 intro z1 s2 l3 z4 s5 l6 l7 z8 z9 s10 s11 s12 l13 l14 z15 z16 s17 r1 r2 h
 unfold UD at h
 refine AW.of Ab AO Bp Tryz.func107 rfl (by kernel_rfl) rfl rfl rfl (fun M hM hI=>?_)
 try cbv
 refine AB ?_
 try cbv
 refine AB ?_
 try cbv
 refine Ah (fun e=>?_) (fun e=>?_)
 ·replace h:=AJ e h
  clear e
  try cbv
  obtain⟨rfl,rfl⟩:=En h
  refine AF ?_
  try cbv
  exact⟨[],rfl,rfl,⟨rfl,trivial⟩,trivial,trivial⟩
 replace h:=AK e h
 clear e
 try cbv
 refine Bb (fun e=>?_) (fun e=>?_)
 ·replace h:=AJ (BC.1 e) h
  clear e
  try cbv
  obtain⟨rfl,rfl⟩:=En h
  refine AF ?_
  try cbv
  exact⟨[],rfl,rfl,⟨rfl,trivial⟩,trivial,trivial⟩
 replace h:=AK (BI.1 e) h
 clear e
 try cbv
 obtain⟨rfl,rfl⟩:=En h
 refine AF ?_
 try cbv
 exact⟨[],rfl,rfl,⟨rfl,trivial⟩,trivial,trivial⟩
mutual
def Et:Nat->LD->Int->Int->BA->Option (Int×BA)
 | 0,_,_,_,_=>none
 | n+1,l1,z3,z4,s5=>
  (if z4<z3 then FW n l1 z3 z4 s5 true else FW n l1 z3 z4 s5 false)
def FW:Nat->LD->Int->Int->BA->Bool->Option (Int×BA)
 | 0,_,_,_,_,_=>none
 | n+1,l1,z3,z4,s5,b6=>
  (if b6=true then BT l1 z4 fun x7=>Bv x7 fun z8 s9 l10 z11 s12 l13 l14 z15 z16 s17 s18 s19 l20 l21 z22 z23=>bO2 (UD n z8 s9 l10 z11 s12 l13 l14 z15 z16 s17 s18 s19 l20 l21 z22 z23 s5) fun b24 s25=>(if b24=true then some (z4,s25)else Al (IntKind.wrap .i64 (z4+1)) fun z26=>Et n l1 z3 z26 s25)else some ((-1:Int),s5))
end
def UE (n:Nat) (l1:LD) (s2:BA):Option (Int×BA):=
 Ad l1 fun z3=>Et n l1 z3 (0:Int) s2
theorem Ze (n:Nat):∀⦃l1 s2 r1 r2⦄,UE n l1 s2=some (r1,r2)->
    AW Tryz.prog inv 106 [.d (.list true 16 l1),.c (.fn 107 [.ext 0])] [.cells [.d (.str s2)]] (.v (.d (.int .i64 r1))) [.cells [.d (.str r2)]] []:=by
 intro l1 s2 r1 r2 h
 unfold UE at h
 refine AW.of Ab AO Bp Tryz.func106 rfl (by kernel_rfl) rfl rfl rfl (fun M hM hI=>?_)
 try cbv
 refine AB ?_
 try cbv
 refine AB ?_
 try cbv
 refine AB ?_
 try cbv
 replace h:=AP M h
 obtain⟨z3,hz,h⟩:=h
 refine⟨z3,hz,?_⟩
 clear hz
 try cbv
 refine BF (T:=Nat×Int×BA) [0,1,4,7,8] [.ext 0] 128 (fun t=>⟨[sT 0 16 l1,(1,.v (.c (.fn 107 [.ext 0]))),sI 4 0,sI 7 z3,sI 8 t.2.1],[(.ext 0,.cells [.d (.str t.2.2)])],128⟩)
   (fun t=>t.1<=n/\Et t.1 l1 z3 t.2.1 t.2.2=some (r1,r2)) (fun t=>t.1) (n,((0:Int),s2)) ⟨Nat.le_refl _,h⟩ (by cbv) ?_
 clear h
 rintro⟨m1,z4,s5⟩ ⟨hm1,h⟩
 replace hm1:m1<=n:=hm1
 obtain _ | m1:=m1
 ·replace h:Et 0 l1 z3 z4 s5=some (r1,r2):=h
  rw[Et]at h
  cases h
 replace h:Et (m1+1) l1 z3 z4 s5=some (r1,r2):=h
 rw[Et]at h
 try cbv
 refine AH 9 [0,1,4,7,8,9] [.ext 0] 160 (fun m b=>m<=m1/\FW m l1 z3 z4 s5 b=some (r1,r2)) ?_ ?_
 ·try cbv
  refine Aa (fun e=>?_) (fun e=>?_)
  ·replace h:=AJ e h
   clear e
   try cbv
   exact AA (m1,true) [0,1,4,7,8,9] [.ext 0] 160 ⟨by omega,h⟩ (by cbv)
  replace h:=AK (Int.not_lt.2 e) h
  clear e
  try cbv
  exact AA (m1,false) [0,1,4,7,8,9] [.ext 0] 160 ⟨by omega,h⟩ (by cbv)
 clear h
 rintro⟨m2,b6⟩ ⟨hm2,h⟩
 try cbv
 replace hm2:m2<=m1:=hm2
 obtain _ | m2:=m2
 ·replace h:FW 0 l1 z3 z4 s5 b6=some (r1,r2):=h
  rw[FW]at h
  cases h
 replace h:FW (m2+1) l1 z3 z4 s5 b6=some (r1,r2):=h
 rw[FW]at h
 try cbv
 refine AB ?_
 try cbv
 cases b6
 ·replace h:=Ar h
  try cbv
  refine AB ?_
  try cbv
  obtain⟨rfl,rfl⟩:=En h
  refine AF ?_
  try cbv
  exact⟨[],rfl,rfl,⟨rfl,trivial⟩,trivial,trivial⟩
 replace h:=Aq h
 try cbv
 refine AB ?_
 try cbv
 refine AB ?_
 try cbv
 refine AB ?_
 try cbv
 replace h:=Ae h
 obtain⟨x7,⟨hx0,hx⟩,h⟩:=h
 refine⟨x7,hx0,hx,?_⟩
 clear hx0 hx
 replace h:=B4 h
 obtain⟨z8,s9,l10,z11,s12,l13,l14,z15,z16,s17,s18,s19,l20,l21,z22,z23,rfl,h⟩:=h
 try cbv
 replace h:=DT h
 obtain⟨b24,s25,hr,h⟩:=h
 refine AD rfl rfl ?_
 try cbv
 refine AI hM hI [.ext 0] (Zd _ hr) rfl (by simp) ⟨rfl,trivial⟩ ⟨trivial,trivial⟩ (by simp) ?_
 clear hr
 try cbv
 cases b24
 ·replace h:=Ar h
  try cbv
  replace h:=AN h
  obtain⟨z26,hz,h⟩:=h
  refine⟨z26,hz,?_⟩
  clear hz
  try cbv
  exact An (m2,(z26,s25)) [0,1,4,7,8] [.ext 0] 128 ⟨by omega,h⟩ (Nat.lt_succ_of_le (by omega)) (by cbv)
 replace h:=Aq h
 try cbv
 refine AB ?_
 try cbv
 obtain⟨rfl,rfl⟩:=En h
 refine AF ?_
 try cbv
 exact⟨[],rfl,rfl,⟨rfl,trivial⟩,trivial,trivial⟩
def JF:Nat->LD->Int->Bool->Option (Int×BA×LD×Int×BA×LD×LD×Int×Int×BA×BA×BA×LD×LD×Int×Int×Bool)
 | 0,_,_,_=>none
 | n+1,l1,z3,b5=>
  (if b5=true then some ((0:Int),ByteArray.empty,([]:LD),(0:Int),ByteArray.empty,([]:LD),([]:LD),(0:Int),(0:Int),ByteArray.empty,ByteArray.empty,ByteArray.empty,([]:LD),([]:LD),(0:Int),(0:Int),false)else BT l1 z3 fun x6=>Bv x6 fun z7 s8 l9 z10 s11 l12 l13 z14 z15 s16 s17 s18 l19 l20 z21 z22=>some (z7,s8,l9,z10,s11,l12,l13,z14,z15,s16,s17,s18,l19,l20,z21,z22,true))
def XI (n:Nat) (l1:LD) (s2:BA):Option (Int×BA×LD×Int×BA×LD×LD×Int×Int×BA×BA×BA×LD×LD×Int×Int×Bool):=
 bO2 (UE n l1 s2) fun z3 s4=>(if z3<(0:Int)then JF n l1 z3 true else JF n l1 z3 false)
theorem cM (n:Nat):∀⦃l1 s2 r1 r2 r3 r4 r5 r6 r7 r8 r9 r10 r11 r12 r13 r14 r15 r16 r17⦄,XI n l1 s2=some (r1,r2,r3,r4,r5,r6,r7,r8,r9,r10,r11,r12,r13,r14,r15,r16,r17)->
    AW Tryz.prog inv 90 [.d (.agg [.list true 16 l1]),.d (.str s2)] [] (.t [.d (.agg [.int .u8 r1,.str r2,.list true 4 r3,.int .u8 r4,.str r5,.list true 3 r6,.list true 15 r7,.int .u8 r8,.int .i64 r9,.str r10,.str r11,.str r12,.list false 1 r13,.list true 8 r14,.int .i64 r15,.int .i64 r16]),.d (.bool r17)]) [] []:=by
 intro l1 s2 r1 r2 r3 r4 r5 r6 r7 r8 r9 r10 r11 r12 r13 r14 r15 r16 r17 h
 unfold XI at h
 refine AW.of Ab AO Bp Tryz.func90 rfl (by kernel_rfl) rfl rfl rfl (fun M hM hI=>?_)
 try cbv
 refine AB ?_
 try cbv
 refine AB ?_
 try cbv
 replace h:=DT h
 obtain⟨z3,s4,hr,h⟩:=h
 refine AD rfl rfl ?_
 try cbv
 refine AI hM hI [.loc 32] (Ze _ hr) rfl (by simp) ⟨rfl,trivial⟩ ⟨trivial,trivial⟩ (by simp) ?_
 clear hr
 try cbv
 refine AB ?_
 try cbv
 refine AH 12 [2,4,5,6,12] [.loc 0,.loc 64] 352 (fun m b=>m<=n/\JF m l1 z3 b=some (r1,r2,r3,r4,r5,r6,r7,r8,r9,r10,r11,r12,r13,r14,r15,r16,r17)) ?_ ?_
 ·try cbv
  refine Aa (fun e=>?_) (fun e=>?_)
  ·replace h:=AJ e h
   clear e
   try cbv
   exact AA (n,true) [2,4,5,6,12] [.loc 0,.loc 64] 352 ⟨by omega,h⟩ (by cbv)
  replace h:=AK (Int.not_lt.2 e) h
  clear e
  try cbv
  exact AA (n,false) [2,4,5,6,12] [.loc 0,.loc 64] 352 ⟨by omega,h⟩ (by cbv)
 clear h
 rintro⟨m1,b5⟩ ⟨hm1,h⟩
 try cbv
 replace hm1:m1<=n:=hm1
 obtain _ | m1:=m1
 ·replace h:JF 0 l1 z3 b5=some (r1,r2,r3,r4,r5,r6,r7,r8,r9,r10,r11,r12,r13,r14,r15,r16,r17):=h
  rw[JF]at h
  cases h
 replace h:JF (m1+1) l1 z3 b5=some (r1,r2,r3,r4,r5,r6,r7,r8,r9,r10,r11,r12,r13,r14,r15,r16,r17):=h
 rw[JF]at h
 try cbv
 cases b5
 ·replace h:=Ar h
  try cbv
  refine AB ?_
  try cbv
  replace h:=Ae h
  obtain⟨x6,⟨hx0,hx⟩,h⟩:=h
  refine⟨x6,hx0,hx,?_⟩
  clear hx0 hx
  replace h:=B4 h
  obtain⟨z7,s8,l9,z10,s11,l12,l13,z14,z15,s16,s17,s18,l19,l20,z21,z22,rfl,h⟩:=h
  try cbv
  obtain⟨rfl,rfl,rfl,rfl,rfl,rfl,rfl,rfl,rfl,rfl,rfl,rfl,rfl,rfl,rfl,rfl,rfl⟩:=V9 h
  refine AF ?_
  try cbv
  exact⟨[],by trivial⟩
 replace h:=Aq h
 try cbv
 refine AB ?_
 try cbv
 obtain⟨rfl,rfl,rfl,rfl,rfl,rfl,rfl,rfl,rfl,rfl,rfl,rfl,rfl,rfl,rfl,rfl,rfl⟩:=V9 h
 refine AF ?_
 try cbv
 exact⟨[],by trivial⟩
def Vc (n:Nat) (z1:Int):Option (Int):=
 some z1
theorem YW (n:Nat):∀⦃z1 r1⦄,Vc n z1=some r1->
    AW Tryz.prog inv 109 [.d (.int .i64 z1)] [] (.v (.d (.int .i64 r1))) [] []:=by
 intro z1 r1 h
 unfold Vc at h
 refine AW.of Ab AO Bp Tryz.func109 rfl (by kernel_rfl) rfl rfl rfl (fun M hM hI=>?_)
 try cbv
 refine AB ?_
 try cbv
 refine AB ?_
 try cbv
 obtain rfl:=Option.some.inj h
 refine AF ?_
 try cbv
 exact⟨[],by trivial⟩
mutual
def Eu:Nat->LD->Int->LD->Int->Option LD
 | 0,_,_,_,_=>none
 | n+1,l1,z2,l3,z4=>
  (if z4<z2 then Ew n l1 z2 l3 z4 true else Ew n l1 z2 l3 z4 false)
def Ew:Nat->LD->Int->LD->Int->Bool->Option LD
 | 0,_,_,_,_,_=>none
 | n+1,l1,z2,l3,z4,b5=>
  (if b5=true then BT l1 z4 fun x6=>Cl x6 fun z7 s8 l9=>bO3 (Mw n z7 s8 l9) fun z10 s11 l12=>D3 48 l3 ([.agg [.int .u8 z10,.str s11,.list true 3 l12]]) fun l13=>Al (IntKind.wrap .i64 (z4+1)) fun z14=>Eu n l1 z2 l13 z14 else some l3)
def UF:Nat->LD->Option LD
 | 0,_=>none
 | n+1,l1=>
  Ad l1 fun z2=>Eu n l1 z2 ([]:LD) (0:Int)
def Mw:Nat->Int->BA->LD->Option (Int×BA×LD)
 | 0,_,_,_=>none
 | n+1,z1,s2,l3=>
  bO1 (UF n l3) fun l4=>some (z1,s2,l4)
end
theorem Zf (n:Nat):(∀⦃l1 r1⦄,UF n l1=some r1->
    AW Tryz.prog inv 128 [.d (.list true 3 l1),.c (.fn 127 [.ext 0])] [.cells [.fn 127 [.ext 0]]] (.v (.d (.list true 3 r1))) [.cells [.fn 127 [.ext 0]]] [])/\
    (∀⦃z1 s2 l3 r1 r2 r3⦄,Mw n z1 s2 l3=some (r1,r2,r3)->
    AW Tryz.prog inv 127 [.d (.agg [.int .u8 z1,.str s2,.list true 3 l3]),.c (.ptr (.ext 0) 0)] [.cells [.fn 127 [.ext 0]]] (.v (.d (.agg [.int .u8 r1,.str r2,.list true 3 r3]))) [.cells [.fn 127 [.ext 0]]] []):=by
 induction n using Nat.strongRecOn with | _ n ih=>
 obtain _ | n:=n
 ·refine⟨?_,?_⟩
  ·intro l1 r1 h
   cases (show (none:Option _)=some _ from h)
  intro z1 s2 l3 r1 r2 r3 h
  cases (show (none:Option _)=some _ from h)
 refine⟨?_,?_⟩
 rotate_left
 ·intro z1 s2 l3 r1 r2 r3 h
  rw[Mw]at h
  refine AW.of Ab AO Bp Tryz.func127 rfl (by kernel_rfl) rfl rfl rfl (fun M hM hI=>?_)
  try cbv
  refine AB ?_
  try cbv
  refine AB ?_
  try cbv
  replace h:=AG h
  obtain⟨l4,hr,h⟩:=h
  refine AD rfl rfl ?_
  try cbv
  refine AI hM hI [.ext 0] ((ih _ (by omega)).1 hr) rfl (by simp) ⟨rfl,trivial⟩ ⟨trivial,trivial⟩ (by simp) ?_
  clear hr
  try cbv
  refine AB ?_
  try cbv
  obtain⟨rfl,rfl,rfl⟩:=Pd h
  refine AF ?_
  try cbv
  exact⟨[],rfl,rfl,⟨rfl,trivial⟩,trivial,trivial⟩
 intro l1 r1 h
 rw[UF]at h
 refine AW.of Ab AO Bp Tryz.func128 rfl (by kernel_rfl) rfl rfl rfl (fun M hM hI=>?_)
 try cbv
 refine AB ?_
 try cbv
 refine AB ?_
 try cbv
 refine AB ?_
 try cbv
 refine AB ?_
 try cbv
 replace h:=AP M h
 obtain⟨z2,hz,h⟩:=h
 refine⟨z2,hz,?_⟩
 clear hz
 try cbv
 refine D7 (T:=Nat×LD×Int) [.slot 5 true 3 28] [1,4,5,8,9,10] [.ext 0,.loc 160] 192 (fun t=>⟨[(1,.v (.c (.fn 127 [.ext 0]))),(4,.v (.c (.nils true 3))),(5,.v (.c (.lst (.loc 160) true 3 t.2.1))),sT 8 3 l1,sI 9 z2,sI 10 t.2.2],[(.ext 0,.cells [.fn 127 [.ext 0]]),(.loc 160,.tok t.2.1.length 3 28)],192⟩)
   (fun t=>t.1<=n/\Eu t.1 l1 z2 t.2.1 t.2.2=some r1) (fun t=>t.1) (n,(([]:LD),(0:Int))) ⟨Nat.le_refl _,h⟩ (by cbv) ?_
 clear h
 rintro⟨m1,l3,z4⟩ ⟨hm1,h⟩
 replace hm1:m1<=n:=hm1
 obtain _ | m1:=m1
 ·replace h:Eu 0 l1 z2 l3 z4=some r1:=h
  rw[Eu]at h
  cases h
 replace h:Eu (m1+1) l1 z2 l3 z4=some r1:=h
 rw[Eu]at h
 try cbv
 refine AH 11 [1,4,5,8,9,10,11] [.ext 0,.loc 160] 224 (fun m b=>m<=m1/\Ew m l1 z2 l3 z4 b=some r1) ?_ ?_
 ·try cbv
  refine Aa (fun e=>?_) (fun e=>?_)
  ·replace h:=AJ e h
   clear e
   try cbv
   exact AA (m1,true) [1,4,5,8,9,10,11] [.ext 0,.loc 160] 224 ⟨by omega,h⟩ (by cbv)
  replace h:=AK (Int.not_lt.2 e) h
  clear e
  try cbv
  exact AA (m1,false) [1,4,5,8,9,10,11] [.ext 0,.loc 160] 224 ⟨by omega,h⟩ (by cbv)
 clear h
 rintro⟨m2,b5⟩ ⟨hm2,h⟩
 try cbv
 replace hm2:m2<=m1:=hm2
 obtain _ | m2:=m2
 ·replace h:Ew 0 l1 z2 l3 z4 b5=some r1:=h
  rw[Ew]at h
  cases h
 replace h:Ew (m2+1) l1 z2 l3 z4 b5=some r1:=h
 rw[Ew]at h
 try cbv
 refine AB ?_
 try cbv
 cases b5
 ·replace h:=Ar h
  try cbv
  refine AB ?_
  try cbv
  obtain rfl:=Option.some.inj h
  refine AF ?_
  try cbv
  exact⟨[],rfl,rfl,⟨rfl,trivial⟩,trivial,trivial⟩
 replace h:=Aq h
 try cbv
 refine AB ?_
 try cbv
 refine AB ?_
 try cbv
 replace h:=Ae h
 obtain⟨x6,⟨hx0,hx⟩,h⟩:=h
 refine⟨x6,hx0,hx,?_⟩
 clear hx0 hx
 replace h:=DE h
 obtain⟨z7,s8,l9,rfl,h⟩:=h
 try cbv
 replace h:=D4 h
 obtain⟨z10,s11,l12,hr,h⟩:=h
 refine AD rfl rfl ?_
 try cbv
 refine AI hM hI [.ext 0] ((ih _ (by omega)).2 hr) rfl (by simp) ⟨rfl,trivial⟩ ⟨trivial,trivial⟩ (by simp) ?_
 clear hr
 try cbv
 refine⟨false,?_⟩
 try cbv
 refine⟨true,?_⟩
 try cbv
 replace h:=B2 h
 obtain⟨l13,hb,hz,h⟩:=h
 refine⟨false,?_⟩
 try cbv
 first | refine⟨rfl,(M.lock_iff _).2 hb,l13,hz,?_⟩ | refine⟨(M.lock_iff _).2 hb,l13,hz,?_⟩
 clear hb hz
 try cbv
 replace h:=AN h
 obtain⟨z14,hz,h⟩:=h
 refine⟨z14,hz,?_⟩
 clear hz
 try cbv
 exact An (m2,(l13,z14)) [1,4,5,8,9,10] [.ext 0,.loc 160] 192 ⟨by omega,h⟩ (Nat.lt_succ_of_le (by omega)) (by cbv)
theorem YX (n:Nat):∀⦃z1 s2 l3 r1 r2 r3⦄,Mw n z1 s2 l3=some (r1,r2,r3)->
  AW Tryz.prog inv 127 [.d (.agg [.int .u8 z1,.str s2,.list true 3 l3]),.c (.ptr (.ext 0) 0)] [.cells [.fn 127 [.ext 0]]] (.v (.d (.agg [.int .u8 r1,.str r2,.list true 3 r3]))) [.cells [.fn 127 [.ext 0]]] []:=(Zf n).2
def Gs:Nat->LD->Bool->Option LD
 | 0,_,_=>none
 | n+1,l1,b2=>
  (if b2=true then some ([]:LD)else D3 16 [] l1 fun l3=>some l3)
def UG (n:Nat) (l1:LD):Option LD:=
 (VL l1 (Gs n l1 true) (Gs n l1 false))
theorem Zg (n:Nat):∀⦃l1 r1⦄,UG n l1=some r1->
    AW Tryz.prog inv 130 [.d (.list false 1 l1)] [] (.v (.d (.list false 1 r1))) [] []:=by
 intro l1 r1 h
 unfold UG at h
 refine AW.of Ab AO Bp Tryz.func130 rfl (by kernel_rfl) rfl rfl rfl (fun M hM hI=>?_)
 try cbv
 refine AB ?_
 try cbv
 refine AB ?_
 try cbv
 refine AH 4 [0,2,4] [] 96 (fun m b=>m<=n/\Gs m l1 b=some r1) ?_ ?_
 ·try cbv
  replace h:=TM h
  obtain⟨h,hA⟩:=h
  refine TN ?_ (fun e=>?_)
  ·clear hA
   try cbv
   exact AA (n,false) [0,2,4] [] 96 ⟨by omega,h⟩ (by cbv)
  replace h:=hA e
  clear hA
  try cbv
  exact AA (n,true) [0,2,4] [] 96 ⟨by omega,h⟩ (by cbv)
 clear h
 rintro⟨m1,b2⟩ ⟨hm1,h⟩
 try cbv
 replace hm1:m1<=n:=hm1
 obtain _ | m1:=m1
 ·replace h:Gs 0 l1 b2=some r1:=h
  rw[Gs]at h
  cases h
 replace h:Gs (m1+1) l1 b2=some r1:=h
 rw[Gs]at h
 try cbv
 cases b2
 ·replace h:=Ar h
  try cbv
  refine AB ?_
  try cbv
  refine⟨false,?_⟩
  try cbv
  refine⟨true,?_⟩
  try cbv
  replace h:=B2 h
  obtain⟨l3,hb,hz,h⟩:=h
  refine⟨false,?_⟩
  try cbv
  refine⟨(M.lock_iff _).2 hb,l3,hz,false,?_⟩
  clear hb hz
  try cbv
  obtain rfl:=Option.some.inj h
  refine AF ?_
  try cbv
  exact⟨[],by trivial⟩
 replace h:=Aq h
 try cbv
 refine AB ?_
 try cbv
 obtain rfl:=Option.some.inj h
 refine AF ?_
 try cbv
 exact⟨[],by trivial⟩
def Vd (n:Nat) (s1:BA) (l2:LD):Option (BA×LD):=
 bO1 (UG n l2) fun l3=>some (s1,l3)
theorem Zh (n:Nat):∀⦃s1 l2 r1 r2⦄,Vd n s1 l2=some (r1,r2)->
    AW Tryz.prog inv 129 [.d (.agg [.str s1,.list false 1 l2])] [] (.v (.d (.agg [.str r1,.list false 1 r2]))) [] []:=by
 intro s1 l2 r1 r2 h
 unfold Vd at h
 refine AW.of Ab AO Bp Tryz.func129 rfl (by kernel_rfl) rfl rfl rfl (fun M hM hI=>?_)
 try cbv
 refine AB ?_
 try cbv
 refine AB ?_
 try cbv
 replace h:=AG h
 obtain⟨l3,hr,h⟩:=h
 refine AD rfl rfl ?_
 try cbv
 refine AE hM hI (Zg _ hr) rfl ?_
 clear hr
 try cbv
 refine AB ?_
 try cbv
 obtain⟨rfl,rfl⟩:=En h
 refine AF ?_
 try cbv
 exact⟨[],by trivial⟩
mutual
def Gt:Nat->LD->Int->LD->Int->Option LD
 | 0,_,_,_,_=>none
 | n+1,l1,z2,l3,z4=>
  (if z4<z2 then Gu n l1 z2 l3 z4 true else Gu n l1 z2 l3 z4 false)
def Gu:Nat->LD->Int->LD->Int->Bool->Option LD
 | 0,_,_,_,_,_=>none
 | n+1,l1,z2,l3,z4,b5=>
  (if b5=true then BT l1 z4 fun x6=>Cz x6 fun z7 z8 s9 s10 s11 l12 l13 z14=>bO8 (Ql n z7 z8 s9 s10 s11 l12 l13 z14) fun z15 z16 s17 s18 s19 l20 l21 z22=>D3 120 l3 ([.agg [.int .u8 z15,.int .i64 z16,.str s17,.str s18,.str s19,.list false 1 l20,.list true 8 l21,.int .i64 z22]]) fun l23=>Al (IntKind.wrap .i64 (z4+1)) fun z24=>Gt n l1 z2 l23 z24 else some l3)
def UH:Nat->LD->Option LD
 | 0,_=>none
 | n+1,l1=>
  Ad l1 fun z2=>Gt n l1 z2 ([]:LD) (0:Int)
def Ql:Nat->Int->Int->BA->BA->BA->LD->LD->Int->Option (Int×Int×BA×BA×BA×LD×LD×Int)
 | 0,_,_,_,_,_,_,_,_=>none
 | n+1,z1,z2,s3,s4,s5,l6,l7,z8=>
  bO2 (Vd n s5 l6) fun s9 l10=>bO1 (UH n l7) fun l11=>bO1 (Vc n z8) fun z12=>some (z1,z2,s3,s4,s9,l10,l11,z12)
end
theorem Zi (n:Nat):(∀⦃l1 r1⦄,UH n l1=some r1->
    AW Tryz.prog inv 132 [.d (.list true 8 l1),.c (.fn 131 [.ext 0,.ext 1,.ext 2])] [.cells [.fn 129 []],.cells [.fn 131 [.ext 0,.ext 1,.ext 2]],.cells [.fn 109 []]] (.v (.d (.list true 8 r1))) [.cells [.fn 129 []],.cells [.fn 131 [.ext 0,.ext 1,.ext 2]],.cells [.fn 109 []]] [])/\
    (∀⦃z1 z2 s3 s4 s5 l6 l7 z8 r1 r2 r3 r4 r5 r6 r7 r8⦄,Ql n z1 z2 s3 s4 s5 l6 l7 z8=some (r1,r2,r3,r4,r5,r6,r7,r8)->
    AW Tryz.prog inv 131 [.d (.agg [.int .u8 z1,.int .i64 z2,.str s3,.str s4,.str s5,.list false 1 l6,.list true 8 l7,.int .i64 z8]),.c (.ptr (.ext 0) 0),.c (.ptr (.ext 1) 0),.c (.ptr (.ext 2) 0)] [.cells [.fn 129 []],.cells [.fn 131 [.ext 0,.ext 1,.ext 2]],.cells [.fn 109 []]] (.v (.d (.agg [.int .u8 r1,.int .i64 r2,.str r3,.str r4,.str r5,.list false 1 r6,.list true 8 r7,.int .i64 r8]))) [.cells [.fn 129 []],.cells [.fn 131 [.ext 0,.ext 1,.ext 2]],.cells [.fn 109 []]] []):=by
 induction n using Nat.strongRecOn with | _ n ih=>
 obtain _ | n:=n
 ·refine⟨?_,?_⟩
  ·intro l1 r1 h
   cases (show (none:Option _)=some _ from h)
  intro z1 z2 s3 s4 s5 l6 l7 z8 r1 r2 r3 r4 r5 r6 r7 r8 h
  cases (show (none:Option _)=some _ from h)
 refine⟨?_,?_⟩
 rotate_left
 ·intro z1 z2 s3 s4 s5 l6 l7 z8 r1 r2 r3 r4 r5 r6 r7 r8 h
  rw[Ql]at h
  refine AW.of Ab AO Bp Tryz.func131 rfl (by kernel_rfl) rfl rfl rfl (fun M hM hI=>?_)
  try cbv
  refine AB ?_
  try cbv
  refine AB ?_
  try cbv
  replace h:=DT h
  obtain⟨s9,l10,hr,h⟩:=h
  first | refine .inr (.inl ⟨[],?_⟩) | refine .inl ⟨[],?_⟩
  try cbv
  refine AE hM hI (Zh _ hr) rfl ?_
  clear hr
  try cbv
  replace h:=AG h
  obtain⟨l11,hr,h⟩:=h
  first | refine .inr (.inr ⟨[.ext 0,.ext 1,.ext 2],?_⟩) | refine .inr ⟨[.ext 0,.ext 1,.ext 2],?_⟩
  try cbv
  refine AI hM hI [.ext 0,.ext 1,.ext 2] ((ih _ (by omega)).1 hr) rfl (by simp) ⟨rfl,⟨rfl,⟨rfl,trivial⟩⟩⟩ ⟨trivial,⟨trivial,⟨trivial,trivial⟩⟩⟩ (by simp) ?_
  try cbv
  first | refine⟨(rfl:(_:Option AQ)=_),?_⟩ | skip
  first | refine⟨(rfl:(_:Option AQ)=_),?_⟩ | skip
  first | refine⟨(rfl:(_:Option AQ)=_),?_⟩ | skip
  try cbv
  clear hr
  try cbv
  replace h:=AG h
  obtain⟨z12,hr,h⟩:=h
  first | refine .inr (.inl ⟨[],?_⟩) | refine .inl ⟨[],?_⟩
  try cbv
  refine AE hM hI (YW _ hr) rfl ?_
  clear hr
  try cbv
  refine drawn ?_ ?_
  ·show _=true
   kernel_rfl
  try cbv
  refine AB ?_
  try cbv
  obtain⟨rfl,rfl,rfl,rfl,rfl,rfl,rfl,rfl⟩:=Wv h
  refine AF ?_
  try cbv
  exact⟨[],rfl,rfl,⟨rfl,⟨rfl,⟨rfl,trivial⟩⟩⟩,trivial,trivial⟩
 intro l1 r1 h
 rw[UH]at h
 refine AW.of Ab AO Bp Tryz.func132 rfl (by kernel_rfl) rfl rfl rfl (fun M hM hI=>?_)
 try cbv
 refine AB ?_
 try cbv
 refine AB ?_
 try cbv
 refine AB ?_
 try cbv
 refine AB ?_
 try cbv
 replace h:=AP M h
 obtain⟨z2,hz,h⟩:=h
 refine⟨z2,hz,?_⟩
 clear hz
 try cbv
 refine D7 (T:=Nat×LD×Int) [.slot 5 true 8 43] [1,4,5,8,9,10] [.ext 0,.ext 1,.ext 2,.loc 160] 192 (fun t=>⟨[(1,.v (.c (.fn 131 [.ext 0,.ext 1,.ext 2]))),(4,.v (.c (.nils true 8))),(5,.v (.c (.lst (.loc 160) true 8 t.2.1))),sT 8 8 l1,sI 9 z2,sI 10 t.2.2],[(.ext 0,.cells [.fn 129 []]),(.ext 1,.cells [.fn 131 [.ext 0,.ext 1,.ext 2]]),(.ext 2,.cells [.fn 109 []]),(.loc 160,.tok t.2.1.length 8 43)],192⟩)
   (fun t=>t.1<=n/\Gt t.1 l1 z2 t.2.1 t.2.2=some r1) (fun t=>t.1) (n,(([]:LD),(0:Int))) ⟨Nat.le_refl _,h⟩ (by cbv) ?_
 clear h
 rintro⟨m1,l3,z4⟩ ⟨hm1,h⟩
 replace hm1:m1<=n:=hm1
 obtain _ | m1:=m1
 ·replace h:Gt 0 l1 z2 l3 z4=some r1:=h
  rw[Gt]at h
  cases h
 replace h:Gt (m1+1) l1 z2 l3 z4=some r1:=h
 rw[Gt]at h
 try cbv
 refine AH 11 [1,4,5,8,9,10,11] [.ext 0,.ext 1,.ext 2,.loc 160] 224 (fun m b=>m<=m1/\Gu m l1 z2 l3 z4 b=some r1) ?_ ?_
 ·try cbv
  refine Aa (fun e=>?_) (fun e=>?_)
  ·replace h:=AJ e h
   clear e
   try cbv
   exact AA (m1,true) [1,4,5,8,9,10,11] [.ext 0,.ext 1,.ext 2,.loc 160] 224 ⟨by omega,h⟩ (by cbv)
  replace h:=AK (Int.not_lt.2 e) h
  clear e
  try cbv
  exact AA (m1,false) [1,4,5,8,9,10,11] [.ext 0,.ext 1,.ext 2,.loc 160] 224 ⟨by omega,h⟩ (by cbv)
 clear h
 rintro⟨m2,b5⟩ ⟨hm2,h⟩
 try cbv
 replace hm2:m2<=m1:=hm2
 obtain _ | m2:=m2
 ·replace h:Gu 0 l1 z2 l3 z4 b5=some r1:=h
  rw[Gu]at h
  cases h
 replace h:Gu (m2+1) l1 z2 l3 z4 b5=some r1:=h
 rw[Gu]at h
 try cbv
 refine AB ?_
 try cbv
 cases b5
 ·replace h:=Ar h
  try cbv
  refine AB ?_
  try cbv
  obtain rfl:=Option.some.inj h
  refine AF ?_
  try cbv
  exact⟨[],rfl,rfl,⟨rfl,⟨rfl,⟨rfl,trivial⟩⟩⟩,trivial,trivial⟩
 replace h:=Aq h
 try cbv
 refine AB ?_
 try cbv
 refine AB ?_
 try cbv
 replace h:=Ae h
 obtain⟨x6,⟨hx0,hx⟩,h⟩:=h
 refine⟨x6,hx0,hx,?_⟩
 clear hx0 hx
 replace h:=CB h
 obtain⟨z7,z8,s9,s10,s11,l12,l13,z14,rfl,h⟩:=h
 try cbv
 replace h:=FR h
 obtain⟨z15,z16,s17,s18,s19,l20,l21,z22,hr,h⟩:=h
 refine AD rfl rfl ?_
 try cbv
 refine AI hM hI [.ext 0,.ext 1,.ext 2] ((ih _ (by omega)).2 hr) rfl (by simp) ⟨rfl,⟨rfl,⟨rfl,trivial⟩⟩⟩ ⟨trivial,⟨trivial,⟨trivial,trivial⟩⟩⟩ (by simp) ?_
 clear hr
 try cbv
 refine⟨false,?_⟩
 try cbv
 refine⟨true,?_⟩
 try cbv
 replace h:=B2 h
 obtain⟨l23,hb,hz,h⟩:=h
 refine⟨false,?_⟩
 try cbv
 first | refine⟨rfl,(M.lock_iff _).2 hb,l23,hz,?_⟩ | refine⟨(M.lock_iff _).2 hb,l23,hz,?_⟩
 clear hb hz
 try cbv
 replace h:=AN h
 obtain⟨z24,hz,h⟩:=h
 refine⟨z24,hz,?_⟩
 clear hz
 try cbv
 exact An (m2,(l23,z24)) [1,4,5,8,9,10] [.ext 0,.ext 1,.ext 2,.loc 160] 192 ⟨by omega,h⟩ (Nat.lt_succ_of_le (by omega)) (by cbv)
theorem Zj (n:Nat):∀⦃z1 z2 s3 s4 s5 l6 l7 z8 r1 r2 r3 r4 r5 r6 r7 r8⦄,Ql n z1 z2 s3 s4 s5 l6 l7 z8=some (r1,r2,r3,r4,r5,r6,r7,r8)->
  AW Tryz.prog inv 131 [.d (.agg [.int .u8 z1,.int .i64 z2,.str s3,.str s4,.str s5,.list false 1 l6,.list true 8 l7,.int .i64 z8]),.c (.ptr (.ext 0) 0),.c (.ptr (.ext 1) 0),.c (.ptr (.ext 2) 0)] [.cells [.fn 129 []],.cells [.fn 131 [.ext 0,.ext 1,.ext 2]],.cells [.fn 109 []]] (.v (.d (.agg [.int .u8 r1,.int .i64 r2,.str r3,.str r4,.str r5,.list false 1 r6,.list true 8 r7,.int .i64 r8]))) [.cells [.fn 129 []],.cells [.fn 131 [.ext 0,.ext 1,.ext 2]],.cells [.fn 109 []]] []:=(Zi n).2
def Gv:Nat->LD->Bool->Option (Unit)
 | 0,_,_=>none
 | n+1,l1,b3=>
  (if b3=true then BT l1 0 fun x4=>Gb x4 fun z5 s6 s7 l8 z9 s10 l11 z12 s13 l14 l15 l16 l17 l18 z19=>none else some ())
def IH:Nat->LD->Int->Option (Unit)
 | 0,_,_=>none
 | n+1,l1,z2=>
  (if (0:Int)<z2 then Gv n l1 true else Gv n l1 false)
def UI (n:Nat) (l1:LD):Option (Unit):=
 Ad l1 fun z2=>IH n l1 z2
theorem Zk (n:Nat):∀⦃l1⦄,UI n l1=some ()->
    AW Tryz.prog inv 134 [.d (.list true 15 l1),.c (.fn 135 [.ext 0,.ext 1,.ext 2,.ext 4,.ext 5,.ext 3])] [.cells [.fn 127 [.ext 0]],.cells [.fn 129 []],.cells [.fn 131 [.ext 1,.ext 2,.ext 3]],.cells [.fn 109 []],.cells [.fn 135 [.ext 0,.ext 1,.ext 2,.ext 4,.ext 5,.ext 3]],.cells [.fn 133 [.ext 4]]] (.v (.d (.list true 15 []))) [.cells [.fn 127 [.ext 0]],.cells [.fn 129 []],.cells [.fn 131 [.ext 1,.ext 2,.ext 3]],.cells [.fn 109 []],.cells [.fn 135 [.ext 0,.ext 1,.ext 2,.ext 4,.ext 5,.ext 3]],.cells [.fn 133 [.ext 4]]] []:=by
 intro l1 h
 unfold UI at h
 refine AW.of Ab AO Bp Tryz.func134 rfl (by kernel_rfl) rfl rfl rfl (fun M hM hI=>?_)
 try cbv
 refine AB ?_
 try cbv
 refine AB ?_
 try cbv
 refine AB ?_
 try cbv
 refine AB ?_
 try cbv
 replace h:=AP M h
 obtain⟨z2,hz,h⟩:=h
 refine⟨z2,hz,?_⟩
 clear hz
 try cbv
 refine BF (T:=Nat×Unit) [1,4,5,8,9,10] [.ext 0,.ext 1,.ext 2,.ext 3,.ext 4,.ext 5] 160 (fun t=>⟨[(1,.v (.c (.fn 135 [.ext 0,.ext 1,.ext 2,.ext 4,.ext 5,.ext 3]))),(4,.v (.c (.nils true 15))),(5,.v (.c (.nils true 15))),sT 8 15 l1,sI 9 z2,sI 10 0],[(.ext 0,.cells [.fn 127 [.ext 0]]),(.ext 1,.cells [.fn 129 []]),(.ext 2,.cells [.fn 131 [.ext 1,.ext 2,.ext 3]]),(.ext 3,.cells [.fn 109 []]),(.ext 4,.cells [.fn 135 [.ext 0,.ext 1,.ext 2,.ext 4,.ext 5,.ext 3]]),(.ext 5,.cells [.fn 133 [.ext 4]])],160⟩)
   (fun t=>t.1<=n/\IH t.1 l1 z2=some ()) (fun t=>t.1) (n,()) ⟨Nat.le_refl _,h⟩ (by cbv) ?_
 clear h
 rintro⟨m1,_⟩ ⟨hm1,h⟩
 replace hm1:m1<=n:=hm1
 obtain _ | m1:=m1
 ·replace h:IH 0 l1 z2=some ():=h
  rw[IH]at h
  cases h
 replace h:IH (m1+1) l1 z2=some ():=h
 rw[IH]at h
 try cbv
 refine AH 11 [1,4,5,8,9,10,11] [.ext 0,.ext 1,.ext 2,.ext 3,.ext 4,.ext 5] 192 (fun m b=>m<=m1/\Gv m l1 b=some ()) ?_ ?_
 ·try cbv
  refine Aa (fun e=>?_) (fun e=>?_)
  ·replace h:=AJ e h
   clear e
   try cbv
   exact AA (m1,true) [1,4,5,8,9,10,11] [.ext 0,.ext 1,.ext 2,.ext 3,.ext 4,.ext 5] 192 ⟨by omega,h⟩ (by cbv)
  replace h:=AK (Int.not_lt.2 e) h
  clear e
  try cbv
  exact AA (m1,false) [1,4,5,8,9,10,11] [.ext 0,.ext 1,.ext 2,.ext 3,.ext 4,.ext 5] 192 ⟨by omega,h⟩ (by cbv)
 clear h
 rintro⟨m2,b3⟩ ⟨hm2,h⟩
 try cbv
 replace hm2:m2<=m1:=hm2
 obtain _ | m2:=m2
 ·replace h:Gv 0 l1 b3=some ():=h
  rw[Gv]at h
  cases h
 replace h:Gv (m2+1) l1 b3=some ():=h
 rw[Gv]at h
 try cbv
 refine AB ?_
 try cbv
 cases b3
 ·replace h:=Ar h
  try cbv
  refine AB ?_
  try cbv
  skip
  refine AF ?_
  try cbv
  exact⟨[],rfl,rfl,⟨rfl,⟨rfl,⟨rfl,⟨rfl,⟨rfl,⟨rfl,trivial⟩⟩⟩⟩⟩⟩,trivial,trivial⟩
 replace h:=Aq h
 try cbv
 refine AB ?_
 try cbv
 refine AB ?_
 try cbv
 replace h:=Ae h
 obtain⟨x4,⟨hx0,hx⟩,h⟩:=h
 refine⟨x4,hx0,hx,?_⟩
 clear hx0 hx
 replace h:=FT h
 obtain⟨z5,s6,s7,l8,z9,s10,l11,z12,s13,l14,l15,l16,l17,l18,z19,rfl,h⟩:=h
 try cbv
 cases h
def XJ (n:Nat) (s1:BA) (z2:Int) (s3:BA) (l4:LD):Option (BA×Int×BA×LD):=
 bO3 (Mw n z2 s3 l4) fun z5 s6 l7=>some (s1,z5,s6,l7)
theorem Zl (n:Nat):∀⦃s1 z2 s3 l4 r1 r2 r3 r4⦄,XJ n s1 z2 s3 l4=some (r1,r2,r3,r4)->
    AW Tryz.prog inv 137 [.d (.agg [.str s1,.int .u8 z2,.str s3,.list true 3 l4]),.c (.ptr (.ext 0) 0)] [.cells [.fn 127 [.ext 0]]] (.v (.d (.agg [.str r1,.int .u8 r2,.str r3,.list true 3 r4]))) [.cells [.fn 127 [.ext 0]]] []:=by
 intro s1 z2 s3 l4 r1 r2 r3 r4 h
 unfold XJ at h
 refine AW.of Ab AO Bp Tryz.func137 rfl (by kernel_rfl) rfl rfl rfl (fun M hM hI=>?_)
 try cbv
 refine AB ?_
 try cbv
 refine AB ?_
 try cbv
 replace h:=D4 h
 obtain⟨z5,s6,l7,hr,h⟩:=h
 refine AD rfl rfl ?_
 try cbv
 refine AI hM hI [.ext 0] (YX _ hr) rfl (by simp) ⟨rfl,trivial⟩ ⟨trivial,trivial⟩ (by simp) ?_
 clear hr
 try cbv
 refine AB ?_
 try cbv
 obtain⟨rfl,rfl,rfl,rfl⟩:=D5 h
 refine AF ?_
 try cbv
 exact⟨[],rfl,rfl,⟨rfl,trivial⟩,trivial,trivial⟩
mutual
def Ex:Nat->LD->Int->LD->Int->Option LD
 | 0,_,_,_,_=>none
 | n+1,l1,z2,l3,z4=>
  (if z4<z2 then FX n l1 z2 l3 z4 true else FX n l1 z2 l3 z4 false)
def FX:Nat->LD->Int->LD->Int->Bool->Option LD
 | 0,_,_,_,_,_=>none
 | n+1,l1,z2,l3,z4,b5=>
  (if b5=true then BT l1 z4 fun x6=>B5 x6 fun s7 z8 s9 l10=>bO4 (XJ n s7 z8 s9 l10) fun s11 z12 s13 l14=>D3 64 l3 ([.agg [.str s11,.int .u8 z12,.str s13,.list true 3 l14]]) fun l15=>Al (IntKind.wrap .i64 (z4+1)) fun z16=>Ex n l1 z2 l15 z16 else some l3)
end
def UJ (n:Nat) (l1:LD):Option LD:=
 Ad l1 fun z2=>Ex n l1 z2 ([]:LD) (0:Int)
theorem Zm (n:Nat):∀⦃l1 r1⦄,UJ n l1=some r1->
    AW Tryz.prog inv 140 [.d (.list true 4 l1),.c (.fn 137 [.ext 0])] [.cells [.fn 127 [.ext 0]]] (.v (.d (.list true 4 r1))) [.cells [.fn 127 [.ext 0]]] []:=by
 intro l1 r1 h
 unfold UJ at h
 refine AW.of Ab AO Bp Tryz.func140 rfl (by kernel_rfl) rfl rfl rfl (fun M hM hI=>?_)
 try cbv
 refine AB ?_
 try cbv
 refine AB ?_
 try cbv
 refine AB ?_
 try cbv
 refine AB ?_
 try cbv
 replace h:=AP M h
 obtain⟨z2,hz,h⟩:=h
 refine⟨z2,hz,?_⟩
 clear hz
 try cbv
 refine D7 (T:=Nat×LD×Int) [.slot 5 true 4 67] [1,4,5,8,9,10] [.ext 0,.loc 160] 192 (fun t=>⟨[(1,.v (.c (.fn 137 [.ext 0]))),(4,.v (.c (.nils true 4))),(5,.v (.c (.lst (.loc 160) true 4 t.2.1))),sT 8 4 l1,sI 9 z2,sI 10 t.2.2],[(.ext 0,.cells [.fn 127 [.ext 0]]),(.loc 160,.tok t.2.1.length 4 67)],192⟩)
   (fun t=>t.1<=n/\Ex t.1 l1 z2 t.2.1 t.2.2=some r1) (fun t=>t.1) (n,(([]:LD),(0:Int))) ⟨Nat.le_refl _,h⟩ (by cbv) ?_
 clear h
 rintro⟨m1,l3,z4⟩ ⟨hm1,h⟩
 replace hm1:m1<=n:=hm1
 obtain _ | m1:=m1
 ·replace h:Ex 0 l1 z2 l3 z4=some r1:=h
  rw[Ex]at h
  cases h
 replace h:Ex (m1+1) l1 z2 l3 z4=some r1:=h
 rw[Ex]at h
 try cbv
 refine AH 11 [1,4,5,8,9,10,11] [.ext 0,.loc 160] 224 (fun m b=>m<=m1/\FX m l1 z2 l3 z4 b=some r1) ?_ ?_
 ·try cbv
  refine Aa (fun e=>?_) (fun e=>?_)
  ·replace h:=AJ e h
   clear e
   try cbv
   exact AA (m1,true) [1,4,5,8,9,10,11] [.ext 0,.loc 160] 224 ⟨by omega,h⟩ (by cbv)
  replace h:=AK (Int.not_lt.2 e) h
  clear e
  try cbv
  exact AA (m1,false) [1,4,5,8,9,10,11] [.ext 0,.loc 160] 224 ⟨by omega,h⟩ (by cbv)
 clear h
 rintro⟨m2,b5⟩ ⟨hm2,h⟩
 try cbv
 replace hm2:m2<=m1:=hm2
 obtain _ | m2:=m2
 ·replace h:FX 0 l1 z2 l3 z4 b5=some r1:=h
  rw[FX]at h
  cases h
 replace h:FX (m2+1) l1 z2 l3 z4 b5=some r1:=h
 rw[FX]at h
 try cbv
 refine AB ?_
 try cbv
 cases b5
 ·replace h:=Ar h
  try cbv
  refine AB ?_
  try cbv
  obtain rfl:=Option.some.inj h
  refine AF ?_
  try cbv
  exact⟨[],rfl,rfl,⟨rfl,trivial⟩,trivial,trivial⟩
 replace h:=Aq h
 try cbv
 refine AB ?_
 try cbv
 refine AB ?_
 try cbv
 replace h:=Ae h
 obtain⟨x6,⟨hx0,hx⟩,h⟩:=h
 refine⟨x6,hx0,hx,?_⟩
 clear hx0 hx
 replace h:=CQ h
 obtain⟨s7,z8,s9,l10,rfl,h⟩:=h
 try cbv
 replace h:=BR h
 obtain⟨s11,z12,s13,l14,hr,h⟩:=h
 refine AD rfl rfl ?_
 try cbv
 refine AI hM hI [.ext 0] (Zl _ hr) rfl (by simp) ⟨rfl,trivial⟩ ⟨trivial,trivial⟩ (by simp) ?_
 clear hr
 try cbv
 refine⟨false,?_⟩
 try cbv
 refine⟨true,?_⟩
 try cbv
 replace h:=B2 h
 obtain⟨l15,hb,hz,h⟩:=h
 refine⟨false,?_⟩
 try cbv
 first | refine⟨rfl,(M.lock_iff _).2 hb,l15,hz,?_⟩ | refine⟨(M.lock_iff _).2 hb,l15,hz,?_⟩
 clear hb hz
 try cbv
 replace h:=AN h
 obtain⟨z16,hz,h⟩:=h
 refine⟨z16,hz,?_⟩
 clear hz
 try cbv
 exact An (m2,(l15,z16)) [1,4,5,8,9,10] [.ext 0,.loc 160] 192 ⟨by omega,h⟩ (Nat.lt_succ_of_le (by omega)) (by cbv)
def UK (n:Nat) (z1:Int) (s2:BA) (l3:LD) (z4:Int) (s5:BA) (l6:LD) (l7:LD) (z8:Int) (z9:Int) (s10:BA) (s11:BA) (s12:BA) (l13:LD) (l14:LD) (z15:Int) (z16:Int):Option (Int×BA×LD×Int×BA×LD×Int×Int×BA×BA×BA×LD×LD×Int×Int):=
 bO1 (UJ n l3) fun l17=>bO3 (Mw n z4 s5 l6) fun z18 s19 l20=>bO0 (UI n l7) (bO8 (Ql n z8 z9 s10 s11 s12 l13 l14 z15) fun z21 z22 s23 s24 s25 l26 l27 z28=>bO1 (Vc n z16) fun z29=>some (z1,s2,l17,z18,s19,l20,z21,z22,s23,s24,s25,l26,l27,z28,z29))
theorem Zn (n:Nat):∀⦃z1 s2 l3 z4 s5 l6 l7 z8 z9 s10 s11 s12 l13 l14 z15 z16 r1 r2 r3 r4 r5 r6 r7 r8 r9 r10 r11 r12 r13 r14 r15⦄,UK n z1 s2 l3 z4 s5 l6 l7 z8 z9 s10 s11 s12 l13 l14 z15 z16=some (r1,r2,r3,r4,r5,r6,r7,r8,r9,r10,r11,r12,r13,r14,r15)->
    AW Tryz.prog inv 139 [.d (.agg [.int .u8 z1,.str s2,.list true 4 l3,.int .u8 z4,.str s5,.list true 3 l6,.list true 15 l7,.int .u8 z8,.int .i64 z9,.str s10,.str s11,.str s12,.list false 1 l13,.list true 8 l14,.int .i64 z15,.int .i64 z16]),.c (.ptr (.ext 0) 0),.c (.ptr (.ext 1) 0),.c (.ptr (.ext 2) 0),.c (.ptr (.ext 4) 0),.c (.ptr (.ext 5) 0)] [.cells [.fn 137 [.ext 1]],.cells [.fn 127 [.ext 1]],.cells [.fn 135 [.ext 1,.ext 3,.ext 4,.ext 2,.ext 6,.ext 5]],.cells [.fn 129 []],.cells [.fn 131 [.ext 3,.ext 4,.ext 5]],.cells [.fn 109 []],.cells [.fn 133 [.ext 2]]] (.v (.d (.agg [.int .u8 r1,.str r2,.list true 4 r3,.int .u8 r4,.str r5,.list true 3 r6,.list true 15 [],.int .u8 r7,.int .i64 r8,.str r9,.str r10,.str r11,.list false 1 r12,.list true 8 r13,.int .i64 r14,.int .i64 r15]))) [.cells [.fn 137 [.ext 1]],.cells [.fn 127 [.ext 1]],.cells [.fn 135 [.ext 1,.ext 3,.ext 4,.ext 2,.ext 6,.ext 5]],.cells [.fn 129 []],.cells [.fn 131 [.ext 3,.ext 4,.ext 5]],.cells [.fn 109 []],.cells [.fn 133 [.ext 2]]] []:=by
 intro z1 s2 l3 z4 s5 l6 l7 z8 z9 s10 s11 s12 l13 l14 z15 z16 r1 r2 r3 r4 r5 r6 r7 r8 r9 r10 r11 r12 r13 r14 r15 h
 unfold UK at h
 refine AW.of Ab AO Bp Tryz.func139 rfl (by kernel_rfl) rfl rfl rfl (fun M hM hI=>?_)
 try cbv
 refine AB ?_
 try cbv
 refine AB ?_
 try cbv
 replace h:=AG h
 obtain⟨l17,hr,h⟩:=h
 first | refine .inr (.inr ⟨[.ext 1],?_⟩) | refine .inr ⟨[.ext 1],?_⟩
 try cbv
 refine AI hM hI [.ext 1] (Zm _ hr) rfl (by simp) ⟨rfl,trivial⟩ ⟨trivial,trivial⟩ (by simp) ?_
 try cbv
 first | refine⟨(rfl:(_:Option AQ)=_),?_⟩ | skip
 try cbv
 clear hr
 try cbv
 replace h:=D4 h
 obtain⟨z18,s19,l20,hr,h⟩:=h
 first | refine .inr (.inr ⟨[.ext 1],?_⟩) | refine .inr ⟨[.ext 1],?_⟩
 try cbv
 refine AI hM hI [.ext 1] (YX _ hr) rfl (by simp) ⟨rfl,trivial⟩ ⟨trivial,trivial⟩ (by simp) ?_
 try cbv
 first | refine⟨(rfl:(_:Option AQ)=_),?_⟩ | skip
 try cbv
 clear hr
 try cbv
 replace h:=VM h
 obtain⟨hr,h⟩:=h
 first | refine .inr (.inr ⟨[.ext 1,.ext 3,.ext 4,.ext 5,.ext 2,.ext 6],?_⟩) | refine .inr ⟨[.ext 1,.ext 3,.ext 4,.ext 5,.ext 2,.ext 6],?_⟩
 try cbv
 refine AI hM hI [.ext 1,.ext 3,.ext 4,.ext 5,.ext 2,.ext 6] (Zk _ hr) rfl (by simp) ⟨rfl,⟨rfl,⟨rfl,⟨rfl,⟨rfl,⟨rfl,trivial⟩⟩⟩⟩⟩⟩ ⟨trivial,⟨trivial,⟨trivial,⟨trivial,⟨trivial,⟨trivial,trivial⟩⟩⟩⟩⟩⟩ (by simp) ?_
 try cbv
 first | refine⟨(rfl:(_:Option AQ)=_),?_⟩ | skip
 first | refine⟨(rfl:(_:Option AQ)=_),?_⟩ | skip
 first | refine⟨(rfl:(_:Option AQ)=_),?_⟩ | skip
 first | refine⟨(rfl:(_:Option AQ)=_),?_⟩ | skip
 first | refine⟨(rfl:(_:Option AQ)=_),?_⟩ | skip
 first | refine⟨(rfl:(_:Option AQ)=_),?_⟩ | skip
 try cbv
 clear hr
 try cbv
 replace h:=FR h
 obtain⟨z21,z22,s23,s24,s25,l26,l27,z28,hr,h⟩:=h
 first | refine .inr (.inr ⟨[.ext 3,.ext 4,.ext 5],?_⟩) | refine .inr ⟨[.ext 3,.ext 4,.ext 5],?_⟩
 try cbv
 refine AI hM hI [.ext 3,.ext 4,.ext 5] (Zj _ hr) rfl (by simp) ⟨rfl,⟨rfl,⟨rfl,trivial⟩⟩⟩ ⟨trivial,⟨trivial,⟨trivial,trivial⟩⟩⟩ (by simp) ?_
 try cbv
 first | refine⟨(rfl:(_:Option AQ)=_),?_⟩ | skip
 first | refine⟨(rfl:(_:Option AQ)=_),?_⟩ | skip
 first | refine⟨(rfl:(_:Option AQ)=_),?_⟩ | skip
 try cbv
 clear hr
 try cbv
 replace h:=AG h
 obtain⟨z29,hr,h⟩:=h
 first | refine .inr (.inl ⟨[],?_⟩) | refine .inl ⟨[],?_⟩
 try cbv
 refine AE hM hI (YW _ hr) rfl ?_
 clear hr
 try cbv
 refine drawn ?_ ?_
 ·show _=true
  kernel_rfl
 try cbv
 refine AB ?_
 try cbv
 obtain⟨rfl,rfl,rfl,rfl,rfl,rfl,rfl,rfl,rfl,rfl,rfl,rfl,rfl,rfl,rfl⟩:=Xw h
 refine AF ?_
 try cbv
 exact⟨[],rfl,rfl,⟨rfl,⟨rfl,⟨rfl,⟨rfl,⟨rfl,⟨rfl,⟨rfl,trivial⟩⟩⟩⟩⟩⟩⟩,trivial,trivial⟩
mutual
def FY:Nat->LD->Int->LD->Int->Option LD
 | 0,_,_,_,_=>none
 | n+1,l1,z2,l3,z4=>
  (if z4<z2 then FZ n l1 z2 l3 z4 true else FZ n l1 z2 l3 z4 false)
def FZ:Nat->LD->Int->LD->Int->Bool->Option LD
 | 0,_,_,_,_,_=>none
 | n+1,l1,z2,l3,z4,b5=>
  (if b5=true then BT l1 z4 fun x6=>Bv x6 fun z7 s8 l9 z10 s11 l12 l13 z14 z15 s16 s17 s18 l19 l20 z21 z22=>bO15 (UK n z7 s8 l9 z10 s11 l12 l13 z14 z15 s16 s17 s18 l19 l20 z21 z22) fun z23 s24 l25 z26 s27 l28 z29 z30 s31 s32 s33 l34 l35 z36 z37=>D3 248 l3 ([.agg [.int .u8 z23,.str s24,.list true 4 l25,.int .u8 z26,.str s27,.list true 3 l28,.list true 15 [],.int .u8 z29,.int .i64 z30,.str s31,.str s32,.str s33,.list false 1 l34,.list true 8 l35,.int .i64 z36,.int .i64 z37]]) fun l38=>Al (IntKind.wrap .i64 (z4+1)) fun z39=>FY n l1 z2 l38 z39 else some l3)
end
def Ve (n:Nat) (l1:LD):Option LD:=
 Ad l1 fun z2=>FY n l1 z2 ([]:LD) (0:Int)
theorem Zo (n:Nat):∀⦃l1 r1⦄,Ve n l1=some r1->
    AW Tryz.prog inv 138 [.d (.list true 16 l1),.c (.fn 139 [.ext 0,.ext 1,.ext 2,.ext 4,.ext 5])] [.cells [.fn 137 [.ext 1]],.cells [.fn 127 [.ext 1]],.cells [.fn 135 [.ext 1,.ext 3,.ext 4,.ext 2,.ext 6,.ext 5]],.cells [.fn 129 []],.cells [.fn 131 [.ext 3,.ext 4,.ext 5]],.cells [.fn 109 []],.cells [.fn 133 [.ext 2]]] (.v (.d (.list true 16 r1))) [.cells [.fn 137 [.ext 1]],.cells [.fn 127 [.ext 1]],.cells [.fn 135 [.ext 1,.ext 3,.ext 4,.ext 2,.ext 6,.ext 5]],.cells [.fn 129 []],.cells [.fn 131 [.ext 3,.ext 4,.ext 5]],.cells [.fn 109 []],.cells [.fn 133 [.ext 2]]] []:=by
 intro l1 r1 h
 unfold Ve at h
 refine AW.of Ab AO Bp Tryz.func138 rfl (by kernel_rfl) rfl rfl rfl (fun M hM hI=>?_)
 try cbv
 refine AB ?_
 try cbv
 refine AB ?_
 try cbv
 refine AB ?_
 try cbv
 refine AB ?_
 try cbv
 replace h:=AP M h
 obtain⟨z2,hz,h⟩:=h
 refine⟨z2,hz,?_⟩
 clear hz
 try cbv
 refine D7 (T:=Nat×LD×Int) [.slot 5 true 16 45] [1,4,5,8,9,10] [.ext 0,.ext 1,.ext 2,.ext 3,.ext 4,.ext 5,.ext 6,.loc 160] 192 (fun t=>⟨[(1,.v (.c (.fn 139 [.ext 0,.ext 1,.ext 2,.ext 4,.ext 5]))),(4,.v (.c (.nils true 16))),(5,.v (.c (.lst (.loc 160) true 16 t.2.1))),sT 8 16 l1,sI 9 z2,sI 10 t.2.2],[(.ext 0,.cells [.fn 137 [.ext 1]]),(.ext 1,.cells [.fn 127 [.ext 1]]),(.ext 2,.cells [.fn 135 [.ext 1,.ext 3,.ext 4,.ext 2,.ext 6,.ext 5]]),(.ext 3,.cells [.fn 129 []]),(.ext 4,.cells [.fn 131 [.ext 3,.ext 4,.ext 5]]),(.ext 5,.cells [.fn 109 []]),(.ext 6,.cells [.fn 133 [.ext 2]]),(.loc 160,.tok t.2.1.length 16 45)],192⟩)
   (fun t=>t.1<=n/\FY t.1 l1 z2 t.2.1 t.2.2=some r1) (fun t=>t.1) (n,(([]:LD),(0:Int))) ⟨Nat.le_refl _,h⟩ (by cbv) ?_
 clear h
 rintro⟨m1,l3,z4⟩ ⟨hm1,h⟩
 replace hm1:m1<=n:=hm1
 obtain _ | m1:=m1
 ·replace h:FY 0 l1 z2 l3 z4=some r1:=h
  rw[FY]at h
  cases h
 replace h:FY (m1+1) l1 z2 l3 z4=some r1:=h
 rw[FY]at h
 try cbv
 refine AH 11 [1,4,5,8,9,10,11] [.ext 0,.ext 1,.ext 2,.ext 3,.ext 4,.ext 5,.ext 6,.loc 160] 224 (fun m b=>m<=m1/\FZ m l1 z2 l3 z4 b=some r1) ?_ ?_
 ·try cbv
  refine Aa (fun e=>?_) (fun e=>?_)
  ·replace h:=AJ e h
   clear e
   try cbv
   exact AA (m1,true) [1,4,5,8,9,10,11] [.ext 0,.ext 1,.ext 2,.ext 3,.ext 4,.ext 5,.ext 6,.loc 160] 224 ⟨by omega,h⟩ (by cbv)
  replace h:=AK (Int.not_lt.2 e) h
  clear e
  try cbv
  exact AA (m1,false) [1,4,5,8,9,10,11] [.ext 0,.ext 1,.ext 2,.ext 3,.ext 4,.ext 5,.ext 6,.loc 160] 224 ⟨by omega,h⟩ (by cbv)
 clear h
 rintro⟨m2,b5⟩ ⟨hm2,h⟩
 try cbv
 replace hm2:m2<=m1:=hm2
 obtain _ | m2:=m2
 ·replace h:FZ 0 l1 z2 l3 z4 b5=some r1:=h
  rw[FZ]at h
  cases h
 replace h:FZ (m2+1) l1 z2 l3 z4 b5=some r1:=h
 rw[FZ]at h
 try cbv
 refine AB ?_
 try cbv
 cases b5
 ·replace h:=Ar h
  try cbv
  refine AB ?_
  try cbv
  obtain rfl:=Option.some.inj h
  refine AF ?_
  try cbv
  exact⟨[],rfl,rfl,⟨rfl,⟨rfl,⟨rfl,⟨rfl,⟨rfl,⟨rfl,⟨rfl,trivial⟩⟩⟩⟩⟩⟩⟩,trivial,trivial⟩
 replace h:=Aq h
 try cbv
 refine AB ?_
 try cbv
 refine AB ?_
 try cbv
 replace h:=Ae h
 obtain⟨x6,⟨hx0,hx⟩,h⟩:=h
 refine⟨x6,hx0,hx,?_⟩
 clear hx0 hx
 replace h:=B4 h
 obtain⟨z7,s8,l9,z10,s11,l12,l13,z14,z15,s16,s17,s18,l19,l20,z21,z22,rfl,h⟩:=h
 try cbv
 replace h:=TQ h
 obtain⟨z23,s24,l25,z26,s27,l28,z29,z30,s31,s32,s33,l34,l35,z36,z37,hr,h⟩:=h
 refine AD rfl rfl ?_
 try cbv
 refine AI hM hI [.ext 0,.ext 1,.ext 2,.ext 3,.ext 4,.ext 5,.ext 6] (Zn _ hr) rfl (by simp) ⟨rfl,⟨rfl,⟨rfl,⟨rfl,⟨rfl,⟨rfl,⟨rfl,trivial⟩⟩⟩⟩⟩⟩⟩ ⟨trivial,⟨trivial,⟨trivial,⟨trivial,⟨trivial,⟨trivial,⟨trivial,trivial⟩⟩⟩⟩⟩⟩⟩ (by simp) ?_
 clear hr
 try cbv
 refine⟨false,?_⟩
 try cbv
 refine⟨true,?_⟩
 try cbv
 replace h:=B2 h
 obtain⟨l38,hb,hz,h⟩:=h
 refine⟨false,?_⟩
 try cbv
 first | refine⟨rfl,(M.lock_iff _).2 hb,l38,hz,?_⟩ | refine⟨(M.lock_iff _).2 hb,l38,hz,?_⟩
 clear hb hz
 try cbv
 replace h:=AN h
 obtain⟨z39,hz,h⟩:=h
 refine⟨z39,hz,?_⟩
 clear hz
 try cbv
 exact An (m2,(l38,z39)) [1,4,5,8,9,10] [.ext 0,.ext 1,.ext 2,.ext 3,.ext 4,.ext 5,.ext 6,.loc 160] 192 ⟨by omega,h⟩ (Nat.lt_succ_of_le (by omega)) (by cbv)
def Vf (n:Nat) (l1:LD):Option LD:=
 bO1 (Ve n l1) fun l2=>some l2
theorem Zp (n:Nat):∀⦃l1 r1⦄,Vf n l1=some r1->
    AW Tryz.prog inv 108 [.d (.agg [.list true 16 l1]),.c (.fn 109 [])] [] (.v (.d (.agg [.list true 16 r1]))) [] []:=by
 intro l1 r1 h
 unfold Vf at h
 refine AW.of Ab AO Bp Tryz.func108 rfl (by kernel_rfl) rfl rfl rfl (fun M hM hI=>?_)
 try cbv
 refine AB ?_
 try cbv
 refine AB ?_
 try cbv
 refine AB ?_
 try cbv
 refine AB ?_
 try cbv
 refine AB ?_
 try cbv
 refine AB ?_
 try cbv
 refine AB ?_
 try cbv
 refine AB ?_
 try cbv
 refine AB ?_
 try cbv
 refine AB ?_
 try cbv
 refine AB ?_
 try cbv
 replace h:=AG h
 obtain⟨l2,hr,h⟩:=h
 refine AD rfl rfl ?_
 try cbv
 refine AI hM hI [.loc 576,.loc 96,.loc 160,.loc 256,.loc 128,.loc 32,.loc 416] (Zo _ hr) rfl (by simp) ⟨rfl,⟨rfl,⟨rfl,⟨rfl,⟨rfl,⟨rfl,⟨rfl,trivial⟩⟩⟩⟩⟩⟩⟩ ⟨trivial,⟨trivial,⟨trivial,⟨trivial,⟨trivial,⟨trivial,⟨trivial,trivial⟩⟩⟩⟩⟩⟩⟩ (by simp) ?_
 clear hr
 try cbv
 obtain rfl:=Option.some.inj h
 refine AF ?_
 try cbv
 exact⟨[],by trivial⟩
def YY (n:Nat) (l1:LD):Option LD:=
 bO1 (Vf n l1) fun l2=>some l2
theorem cN (n:Nat):∀⦃l1 r1⦄,YY n l1=some r1->
    AW Tryz.prog inv 91 [.d (.agg [.list true 16 l1])] [] (.v (.d (.agg [.list true 16 r1]))) [] []:=by
 intro l1 r1 h
 unfold YY at h
 refine AW.of Ab AO Bp Tryz.func91 rfl (by kernel_rfl) rfl rfl rfl (fun M hM hI=>?_)
 try cbv
 refine AB ?_
 try cbv
 refine AB ?_
 try cbv
 replace h:=AG h
 obtain⟨l2,hr,h⟩:=h
 refine AD rfl rfl ?_
 try cbv
 refine AE hM hI (Zp _ hr) rfl ?_
 clear hr
 try cbv
 obtain rfl:=Option.some.inj h
 refine AF ?_
 try cbv
 exact⟨[],by trivial⟩
def Fu:Nat->Int->BA->LD->Int->BA->LD->LD->Int->Int->BA->BA->BA->LD->LD->Int->Int->Bool->Option (LD×Bool)
 | 0,_,_,_,_,_,_,_,_,_,_,_,_,_,_,_,_,_=>none
 | n+1,z3,s4,l5,z6,s7,l8,l9,z10,z11,s12,s13,s14,l15,l16,z17,z18,b21=>
  (if b21=true then some (([]:LD),false)else bO1 (YY n ([.agg [.int .u8 z3,.str s4,.list true 4 l5,.int .u8 z6,.str s7,.list true 3 l8,.list true 15 l9,.int .u8 z10,.int .i64 z11,.str s12,.str s13,.str s14,.list false 1 l15,.list true 8 l16,.int .i64 z17,.int .i64 z18]])) fun l22=>BT l22 0 fun x23=>Bv x23 fun z24 s25 l26 z27 s28 l29 l30 z31 z32 s33 s34 s35 l36 l37 z38 z39=>some (l26,true))
def XK (n:Nat) (l1:LD) (s2:BA):Option (LD×Bool):=
 bO17 (XI n l1 s2) fun z3 s4 l5 z6 s7 l8 l9 z10 z11 s12 s13 s14 l15 l16 z17 z18 b19=>Ak (!b19) fun b20=>(if b20=true then Fu n z3 s4 l5 z6 s7 l8 l9 z10 z11 s12 s13 s14 l15 l16 z17 z18 true else (if z3=(1:Int)then Fu n z3 s4 l5 z6 s7 l8 l9 z10 z11 s12 s13 s14 l15 l16 z17 z18 false else (if z3=(2:Int)then Fu n z3 s4 l5 z6 s7 l8 l9 z10 z11 s12 s13 s14 l15 l16 z17 z18 false else Fu n z3 s4 l5 z6 s7 l8 l9 z10 z11 s12 s13 s14 l15 l16 z17 z18 true)))
theorem cO (n:Nat):∀⦃l1 s2 r1 r2⦄,XK n l1 s2=some (r1,r2)->
    AW Tryz.prog inv 62 [.d (.agg [.list true 16 l1]),.d (.str s2)] [] (.t [.d (.list true 4 r1),.d (.bool r2)]) [] []:=by
 intro l1 s2 r1 r2 h
 unfold XK at h
 refine AW.of Ab AO Bp Tryz.func62 rfl (by kernel_rfl) rfl rfl rfl (fun M hM hI=>?_)
 try cbv
 refine AB ?_
 try cbv
 refine AB ?_
 try cbv
 replace h:=TR h
 obtain⟨z3,s4,l5,z6,s7,l8,l9,z10,z11,s12,s13,s14,l15,l16,z17,z18,b19,hr,h⟩:=h
 refine AD rfl rfl ?_
 try cbv
 refine AE hM hI (cM _ hr) rfl ?_
 clear hr
 try cbv
 refine AB ?_
 try cbv
 refine AH 25 [4,5,6,25] [.loc 288] 768 (fun m b=>m<=n/\Fu m z3 s4 l5 z6 s7 l8 l9 z10 z11 s12 s13 s14 l15 l16 z17 z18 b=some (r1,r2)) ?_ ?_
 ·try cbv
  replace h:=AL h
  obtain⟨b20,hz,h⟩:=h
  refine⟨b20,AU hz,?_⟩
  clear hz
  try cbv
  cases b20
  rotate_left
  ·replace h:=Aq h
   try cbv
   exact AA (n,true) [4,5,6,25] [.loc 288] 768 ⟨by omega,h⟩ (by cbv)
  replace h:=Ar h
  try cbv
  refine Ah (fun e=>?_) (fun e=>?_)
  ·replace h:=AJ e h
   clear e
   try cbv
   exact AA (n,false) [4,5,6,25] [.loc 288] 768 ⟨by omega,h⟩ (by cbv)
  replace h:=AK e h
  clear e
  try cbv
  refine Ah (fun e=>?_) (fun e=>?_)
  ·replace h:=AJ e h
   clear e
   try cbv
   exact AA (n,false) [4,5,6,25] [.loc 288] 768 ⟨by omega,h⟩ (by cbv)
  replace h:=AK e h
  clear e
  try cbv
  exact AA (n,true) [4,5,6,25] [.loc 288] 768 ⟨by omega,h⟩ (by cbv)
 clear h
 rintro⟨m1,b21⟩ ⟨hm1,h⟩
 try cbv
 replace hm1:m1<=n:=hm1
 obtain _ | m1:=m1
 ·replace h:Fu 0 z3 s4 l5 z6 s7 l8 l9 z10 z11 s12 s13 s14 l15 l16 z17 z18 b21=some (r1,r2):=h
  rw[Fu]at h
  cases h
 replace h:Fu (m1+1) z3 s4 l5 z6 s7 l8 l9 z10 z11 s12 s13 s14 l15 l16 z17 z18 b21=some (r1,r2):=h
 rw[Fu]at h
 try cbv
 cases b21
 rotate_left
 ·replace h:=Aq h
  try cbv
  refine AB ?_
  try cbv
  obtain⟨rfl,rfl⟩:=En h
  refine AF ?_
  try cbv
  exact⟨[],by trivial⟩
 replace h:=Ar h
 try cbv
 refine AB ?_
 try cbv
 refine⟨false,?_⟩
 try cbv
 refine⟨true,?_⟩
 try cbv
 replace h:=AG h
 obtain⟨l22,hr,h⟩:=h
 refine AD rfl rfl ?_
 try cbv
 refine AE hM hI (cN _ hr) rfl ?_
 clear hr
 try cbv
 replace h:=Ae h
 obtain⟨x23,⟨hx0,hx⟩,h⟩:=h
 refine⟨x23,hx0,hx,?_⟩
 clear hx0 hx
 replace h:=B4 h
 obtain⟨z24,s25,l26,z27,s28,l29,l30,z31,z32,s33,s34,s35,l36,l37,z38,z39,rfl,h⟩:=h
 try cbv
 obtain⟨rfl,rfl⟩:=En h
 refine AF ?_
 try cbv
 exact⟨[],by trivial⟩
mutual
def Hh:Nat->Int->BA->LD->Bool->(List Az)->LD->Bool->Option ((((List Az)×LD) ⊕ ((List Az)×LD×Bool)))
 | 0,_,_,_,_,_,_,_=>none
 | n+1,z1,s2,l3,b4,cm5,l6,b7=>
  bO3 (Rk n z1 s2 l3 b4 cm5 l6) fun b8 cm9 l10=>(if b8=true then some (.inl (cm9,l10))else some (.inr (cm9,l10,b7)))
def Fv:Nat->(List Az)->LD->Bool->Int->BA->LD->Bool->LD->Bool->Option ((((List Az)×LD×Int×BA×LD×Bool×LD) ⊕ ((List Az)×LD×Bool×Int×BA×LD×Bool×LD)))
 | 0,_,_,_,_,_,_,_,_,_=>none
 | n+1,cm1,l2,b3,z4,s5,l6,b7,l8,b9=>
  (if b9=true then bO2 (XK n l8 s5) fun l10 b11=>Ad l10 fun z12=>Dz n z4 s5 l6 b7 l8 l10 z12 (0:Int) cm1 l2 b3 else Ad l6 fun z31=>Hi n z4 s5 l6 b7 l8 z31 (0:Int) cm1 l2 b3)
def Dz:Nat->Int->BA->LD->Bool->LD->LD->Int->Int->(List Az)->LD->Bool->Option ((((List Az)×LD×Int×BA×LD×Bool×LD) ⊕ ((List Az)×LD×Bool×Int×BA×LD×Bool×LD)))
 | 0,_,_,_,_,_,_,_,_,_,_,_=>none
 | n+1,z4,s5,l6,b7,l8,l10,z12,z13,cm14,l15,b16=>
  (if z13<z12 then JG n z4 s5 l6 b7 l8 l10 z12 z13 cm14 l15 b16 true else JG n z4 s5 l6 b7 l8 l10 z12 z13 cm14 l15 b16 false)
def JG:Nat->Int->BA->LD->Bool->LD->LD->Int->Int->(List Az)->LD->Bool->Bool->Option ((((List Az)×LD×Int×BA×LD×Bool×LD) ⊕ ((List Az)×LD×Bool×Int×BA×LD×Bool×LD)))
 | 0,_,_,_,_,_,_,_,_,_,_,_,_=>none
 | n+1,z4,s5,l6,b7,l8,l10,z12,z13,cm14,l15,b16,b17=>
  (if b17=true then BT l10 z13 fun x18=>B5 x18 fun s19 z20 s21 l22=>bS (Hh n z20 s21 l22 b7 cm14 l15 b16) (fun p28=>bO2 (some p28) fun cm23 l24=>some (.inl (cm23,l24,z4,s5,l6,b7,l8))) (fun p29=>bO3 (some p29) fun cm25 l26 b27=>Al (IntKind.wrap .i64 (z13+1)) fun z30=>Dz n z4 s5 l6 b7 l8 l10 z12 z30 cm25 l26 b27)else some (.inr (cm14,l15,b16,z4,s5,l6,b7,l8)))
def Hi:Nat->Int->BA->LD->Bool->LD->Int->Int->(List Az)->LD->Bool->Option ((((List Az)×LD×Int×BA×LD×Bool×LD) ⊕ ((List Az)×LD×Bool×Int×BA×LD×Bool×LD)))
 | 0,_,_,_,_,_,_,_,_,_,_=>none
 | n+1,z4,s5,l6,b7,l8,z31,z32,cm33,l34,b35=>
  (if z32<z31 then Hj n z4 s5 l6 b7 l8 z31 z32 cm33 l34 b35 true else Hj n z4 s5 l6 b7 l8 z31 z32 cm33 l34 b35 false)
def Hj:Nat->Int->BA->LD->Bool->LD->Int->Int->(List Az)->LD->Bool->Bool->Option ((((List Az)×LD×Int×BA×LD×Bool×LD) ⊕ ((List Az)×LD×Bool×Int×BA×LD×Bool×LD)))
 | 0,_,_,_,_,_,_,_,_,_,_,_=>none
 | n+1,z4,s5,l6,b7,l8,z31,z32,cm33,l34,b35,b36=>
  (if b36=true then BT l6 z32 fun x37=>Cl x37 fun z38 s39 l40=>(if z4=(8:Int)then Gw n z4 s5 l6 b7 l8 z31 z32 cm33 l34 b35 z38 s39 l40 true else Gw n z4 s5 l6 b7 l8 z31 z32 cm33 l34 b35 z38 s39 l40 false)else some (.inr (cm33,l34,b35,z4,s5,l6,b7,l8)))
def Gw:Nat->Int->BA->LD->Bool->LD->Int->Int->(List Az)->LD->Bool->Int->BA->LD->Bool->Option ((((List Az)×LD×Int×BA×LD×Bool×LD) ⊕ ((List Az)×LD×Bool×Int×BA×LD×Bool×LD)))
 | 0,_,_,_,_,_,_,_,_,_,_,_,_,_,_=>none
 | n+1,z4,s5,l6,b7,l8,z31,z32,cm33,l34,b35,z38,s39,l40,b41=>
  (if b41=true then DF n z4 s5 l6 b7 l8 z31 z32 cm33 l34 b35 z38 s39 l40 false true else (if z4=(9:Int)then JH n z4 s5 l6 b7 l8 z31 z32 cm33 l34 b35 z38 s39 l40 true else JH n z4 s5 l6 b7 l8 z31 z32 cm33 l34 b35 z38 s39 l40 false))
def JH:Nat->Int->BA->LD->Bool->LD->Int->Int->(List Az)->LD->Bool->Int->BA->LD->Bool->Option ((((List Az)×LD×Int×BA×LD×Bool×LD) ⊕ ((List Az)×LD×Bool×Int×BA×LD×Bool×LD)))
 | 0,_,_,_,_,_,_,_,_,_,_,_,_,_,_=>none
 | n+1,z4,s5,l6,b7,l8,z31,z32,cm33,l34,b35,z38,s39,l40,b42=>
  (if b42=true then Fw n z4 s5 l6 b7 l8 z31 z32 cm33 l34 b35 z38 s39 l40 true else (if z4=(11:Int)then JI n z4 s5 l6 b7 l8 z31 z32 cm33 l34 b35 z38 s39 l40 true else JI n z4 s5 l6 b7 l8 z31 z32 cm33 l34 b35 z38 s39 l40 false))
def JI:Nat->Int->BA->LD->Bool->LD->Int->Int->(List Az)->LD->Bool->Int->BA->LD->Bool->Option ((((List Az)×LD×Int×BA×LD×Bool×LD) ⊕ ((List Az)×LD×Bool×Int×BA×LD×Bool×LD)))
 | 0,_,_,_,_,_,_,_,_,_,_,_,_,_,_=>none
 | n+1,z4,s5,l6,b7,l8,z31,z32,cm33,l34,b35,z38,s39,l40,b43=>
  (if b43=true then Fw n z4 s5 l6 b7 l8 z31 z32 cm33 l34 b35 z38 s39 l40 true else (if z4=(12:Int)then Fw n z4 s5 l6 b7 l8 z31 z32 cm33 l34 b35 z38 s39 l40 true else Fw n z4 s5 l6 b7 l8 z31 z32 cm33 l34 b35 z38 s39 l40 false))
def Fw:Nat->Int->BA->LD->Bool->LD->Int->Int->(List Az)->LD->Bool->Int->BA->LD->Bool->Option ((((List Az)×LD×Int×BA×LD×Bool×LD) ⊕ ((List Az)×LD×Bool×Int×BA×LD×Bool×LD)))
 | 0,_,_,_,_,_,_,_,_,_,_,_,_,_,_=>none
 | n+1,z4,s5,l6,b7,l8,z31,z32,cm33,l34,b35,z38,s39,l40,b44=>
  (if b44=true then DF n z4 s5 l6 b7 l8 z31 z32 cm33 l34 b35 z38 s39 l40 false false else (if z4=(13:Int)then Fa n z4 s5 l6 b7 l8 z31 z32 cm33 l34 b35 z38 s39 l40 true else Fa n z4 s5 l6 b7 l8 z31 z32 cm33 l34 b35 z38 s39 l40 false))
def Fa:Nat->Int->BA->LD->Bool->LD->Int->Int->(List Az)->LD->Bool->Int->BA->LD->Bool->Option ((((List Az)×LD×Int×BA×LD×Bool×LD) ⊕ ((List Az)×LD×Bool×Int×BA×LD×Bool×LD)))
 | 0,_,_,_,_,_,_,_,_,_,_,_,_,_,_=>none
 | n+1,z4,s5,l6,b7,l8,z31,z32,cm33,l34,b35,z38,s39,l40,b45=>
  (if b45=true then DF n z4 s5 l6 b7 l8 z31 z32 cm33 l34 b35 z38 s39 l40 true true else DF n z4 s5 l6 b7 l8 z31 z32 cm33 l34 b35 z38 s39 l40 b7 b7)
def DF:Nat->Int->BA->LD->Bool->LD->Int->Int->(List Az)->LD->Bool->Int->BA->LD->Bool->Bool->Option ((((List Az)×LD×Int×BA×LD×Bool×LD) ⊕ ((List Az)×LD×Bool×Int×BA×LD×Bool×LD)))
 | 0,_,_,_,_,_,_,_,_,_,_,_,_,_,_,_=>none
 | n+1,z4,s5,l6,b7,l8,z31,z32,cm33,l34,b35,z38,s39,l40,b46,b47=>
  bS (Hh n z38 s39 l40 b46 cm33 l34 b35) (fun p61=>bO2 (some p61) fun cm48 l49=>some (.inl (cm48,l49,z4,s5,l6,b7,l8))) (fun p62=>bO3 (some p62) fun cm50 l51 b52=>Ak (!(b46==b47)) fun b53=>(if b53=true then bS (Hh n z38 s39 l40 b47 cm50 l51 b52) (fun p59=>bO2 (some p59) fun cm54 l55=>some (.inl (cm54,l55,z4,s5,l6,b7,l8))) (fun p60=>bO3 (some p60) fun cm56 l57 b58=>Fb n z4 s5 l6 b7 l8 z31 z32 cm56 l57 b58)else Fb n z4 s5 l6 b7 l8 z31 z32 cm50 l51 b52))
def Fb:Nat->Int->BA->LD->Bool->LD->Int->Int->(List Az)->LD->Bool->Option ((((List Az)×LD×Int×BA×LD×Bool×LD) ⊕ ((List Az)×LD×Bool×Int×BA×LD×Bool×LD)))
 | 0,_,_,_,_,_,_,_,_,_,_=>none
 | n+1,z4,s5,l6,b7,l8,z31,z32,cm63,l64,b65=>
  Al (IntKind.wrap .i64 (z32+1)) fun z66=>Hi n z4 s5 l6 b7 l8 z31 z66 cm63 l64 b65
def UL:Nat->(List Az)->LD->Bool->Int->BA->LD->Bool->LD->Option ((((List Az)×LD×Int×BA×LD×Bool×LD) ⊕ ((List Az)×LD×Bool×Int×BA×LD×Bool×LD)))
 | 0,_,_,_,_,_,_,_,_=>none
 | n+1,cm1,l2,b3,z4,s5,l6,b7,l8=>
  (if z4=(4:Int)then Fv n cm1 l2 b3 z4 s5 l6 b7 l8 true else Fv n cm1 l2 b3 z4 s5 l6 b7 l8 false)
def JJ:Nat->Int->BA->LD->Bool->(List Az)->LD->Bool->Option (Bool×(List Az)×LD)
 | 0,_,_,_,_,_,_,_=>none
 | n+1,z1,s2,l3,b4,cm5,l6,b7=>
  (if b7=true then W8 (CO cm5 s2 b4) fun cm8=>Al (Bx cm8 s2 b4) fun z9=>(if (1:Int)<z9 then Gx n z1 s2 l3 b4 l6 cm8 true else Gx n z1 s2 l3 b4 l6 cm8 false)else JK n z1 s2 l3 b4 l6 cm5)
def Gx:Nat->Int->BA->LD->Bool->LD->(List Az)->Bool->Option (Bool×(List Az)×LD)
 | 0,_,_,_,_,_,_,_=>none
 | n+1,z1,s2,l3,b4,l6,cm8,b10=>
  (if b10=true then some (false,cm8,l6)else JK n z1 s2 l3 b4 l6 cm8)
def JK:Nat->Int->BA->LD->Bool->LD->(List Az)->Option (Bool×(List Az)×LD)
 | 0,_,_,_,_,_,_=>none
 | n+1,z1,s2,l3,b4,l6,cm11=>
  bO1 (Xj n z1 s2 l3 b4) fun b12=>(if b12=true then some (true,cm11,l6)else bO5 (YV n z1 s2 l3 b4 l6) fun z13 s14 l15 b16 l17=>bS (UL n cm11 l6 false z13 s14 l15 b16 l17) (fun p33=>bO7 (some p33) fun cm18 l19 z20 s21 l22 b23 l24=>Da n cm18 l19 true) (fun p34=>bO8 (some p34) fun cm25 l26 b27 z28 s29 l30 b31 l32=>Da n cm25 l26 b27))
def Da:Nat->(List Az)->LD->Bool->Option (Bool×(List Az)×LD)
 | 0,_,_,_=>none
 | n+1,cm35,l36,b37=>
  some (b37,cm35,l36)
def Rk:Nat->Int->BA->LD->Bool->(List Az)->LD->Option (Bool×(List Az)×LD)
 | 0,_,_,_,_,_,_=>none
 | n+1,z1,s2,l3,b4,cm5,l6=>
  (if z1=(4:Int)then JJ n z1 s2 l3 b4 cm5 l6 true else JJ n z1 s2 l3 b4 cm5 l6 false)
end
theorem YZ (n:Nat):(∀⦃z1 s2 l3 b4 cm5 l6 b7 r⦄,Hh n z1 s2 l3 b4 cm5 l6 b7=some r->∀Q:Jump->List AQ->List AQ->Prop,(match r with | .inl (r1,r2)=>Q ((some (some 0))) [.cells [.fn 36 [.ext 1,.ext 3,.ext 0]],.cells [.map (.ext 2)],.map 94 3 r1,.cells [.d (.list true 16 r2)],.cells [.d (.bool true)]] [] | .inr (r1,r2,r3)=>Q (none) [.cells [.fn 36 [.ext 1,.ext 3,.ext 0]],.cells [.map (.ext 2)],.map 94 3 r1,.cells [.d (.list true 16 r2)],.cells [.d (.bool r3)]] [])->
    Dg Tryz.prog inv (Cm ()) [(3,.v (.c (.ptr (.ext 0) 0))),(7,.v (.c (.ptr (.ext 4) 0)))] [.d (.agg [.int .u8 z1,.str s2,.list true 3 l3,.bool b4])] [.cells [.fn 36 [.ext 1,.ext 3,.ext 0]],.cells [.map (.ext 2)],.map 94 3 cm5,.cells [.d (.list true 16 l6)],.cells [.d (.bool b7)]] Q)/\
    (∀⦃cm1 l2 b3 z4 s5 l6 b7 l8 r⦄,UL n cm1 l2 b3 z4 s5 l6 b7 l8=some r->∀Q:AV->List AQ->List AQ->Prop,(match r with | .inl (r1,r2,r3,r4,r5,r6,r7)=>Q (.t []) [.rndX (some 0),.cells [.fn 36 [.ext 2,.ext 4,.ext 1]],.cells [.map (.ext 3)],.map 94 3 r1,.cells [.d (.list true 16 r2)],.cells [.d (.bool true)],.cells [.d (.int .u8 r3),.d (.str r4),.d (.list true 3 r5),.d (.bool r6)],.cells [.d (.list true 16 r7)]] [] | .inr (r1,r2,r3,r4,r5,r6,r7,r8)=>Q (.t []) [.rnd Cm [(3,.v (.c (.ptr (.ext 1) 0))),(7,.v (.c (.ptr (.ext 5) 0)))],.cells [.fn 36 [.ext 2,.ext 4,.ext 1]],.cells [.map (.ext 3)],.map 94 3 r1,.cells [.d (.list true 16 r2)],.cells [.d (.bool r3)],.cells [.d (.int .u8 r4),.d (.str r5),.d (.list true 3 r6),.d (.bool r7)],.cells [.d (.list true 16 r8)]] [])->
    EU Tryz.prog inv 61 [.c (.yl (.ext 0)),.c (.ptr (.ext 6) 0),.c (.ptr (.ext 7) 0)] [.rnd Cm [(3,.v (.c (.ptr (.ext 1) 0))),(7,.v (.c (.ptr (.ext 5) 0)))],.cells [.fn 36 [.ext 2,.ext 4,.ext 1]],.cells [.map (.ext 3)],.map 94 3 cm1,.cells [.d (.list true 16 l2)],.cells [.d (.bool b3)],.cells [.d (.int .u8 z4),.d (.str s5),.d (.list true 3 l6),.d (.bool b7)],.cells [.d (.list true 16 l8)]] Q)/\
    (∀⦃z1 s2 l3 b4 cm5 l6 r1 r2 r3⦄,Rk n z1 s2 l3 b4 cm5 l6=some (r1,r2,r3)->
    AW Tryz.prog inv 36 [.d (.agg [.int .u8 z1,.str s2,.list true 3 l3,.bool b4]),.c (.ptr (.ext 0) 0),.c (.ptr (.ext 2) 0),.c (.ptr (.ext 3) 0)] [.cells [.map (.ext 1)],.map 94 3 cm5,.cells [.d (.list true 16 l6)],.cells [.fn 36 [.ext 0,.ext 2,.ext 3]]] (.v (.d (.bool r1))) [.cells [.map (.ext 1)],.map 94 3 r2,.cells [.d (.list true 16 r3)],.cells [.fn 36 [.ext 0,.ext 2,.ext 3]]] []):=by
 induction n using Nat.strongRecOn with | _ n ih=>
 obtain _ | n:=n
 ·refine⟨?_,?_,?_⟩
  ·intro z1 s2 l3 b4 cm5 l6 b7 r h Q hQ
   cases (show (none:Option _)=some _ from h)
  ·intro cm1 l2 b3 z4 s5 l6 b7 l8 r h Q hQ
   cases (show (none:Option _)=some _ from h)
  intro z1 s2 l3 b4 cm5 l6 r1 r2 r3 h
  cases (show (none:Option _)=some _ from h)
 refine⟨?_,?_,?_⟩
 ·intro z1 s2 l3 b4 cm5 l6 b7 r h Q hQ
  rw[Hh]at h
  refine Dg.dV Ab AO Bp rfl rfl rfl rfl rfl (by kernel_rfl) (fun M hM hI=>?_)
  try cbv
  refine AB ?_
  try cbv
  replace h:=D4 h
  obtain⟨b8,cm9,l10,hr,h⟩:=h
  refine AD rfl rfl ?_
  try cbv
  refine AI hM hI [.ext 1,.ext 2,.ext 3,.ext 0] ((ih _ (by omega)).2.2 hr) rfl (by simp) ⟨rfl,⟨rfl,⟨rfl,⟨rfl,trivial⟩⟩⟩⟩ ⟨trivial,⟨trivial,⟨trivial,⟨trivial,trivial⟩⟩⟩⟩ (by simp) ?_
  clear hr
  try cbv
  cases b8
  ·replace h:=Ar h
   try cbv
   obtain rfl:=Option.some.inj h
   refine⟨_,_,hQ,[],?_⟩
   try cbv
   exact⟨[],rfl,⟨rfl,⟨rfl,⟨rfl,⟨rfl,⟨rfl,trivial⟩⟩⟩⟩⟩,trivial,trivial⟩
  replace h:=Aq h
  try cbv
  refine AB ?_
  try cbv
  obtain rfl:=Option.some.inj h
  refine⟨_,_,hQ,[],?_⟩
  try cbv
  exact⟨[],rfl,⟨rfl,⟨rfl,⟨rfl,⟨rfl,⟨rfl,trivial⟩⟩⟩⟩⟩,trivial,trivial⟩
 ·intro cm1 l2 b3 z4 s5 l6 b7 l8 r h Q hQ
  rw[UL]at h
  refine EU.of Ab AO Bp Tryz.func61 rfl (by kernel_rfl) rfl rfl rfl (fun M hM hI=>?_)
  try cbv
  refine AB ?_
  try cbv
  refine Aw (T:=Nat×Bool) (fun t=>⟨[(0,.v (.c (.yl (.ext 0)))),sE 1 6,sE 2 7,sB 14 t.2],[(.ext 0,.rnd Cm [sE 3 1,sE 7 5]),(.ext 1,.cells [.fn 36 [.ext 2,.ext 4,.ext 1]]),(.ext 2,.cells [.map (.ext 3)]),(.ext 3,.map 94 3 cm1),(.ext 4,.cells [.d (.list true 16 l2)]),(.ext 5,.cells [.d (.bool b3)]),(.ext 6,.cells [.d (.int .u8 z4),.d (.str s5),.d (.list true 3 l6),.d (.bool b7)]),(.ext 7,.cells [.d (.list true 16 l8)])],128⟩) (fun t=>t.1<=n/\Fv t.1 cm1 l2 b3 z4 s5 l6 b7 l8 t.2=some r) ?_ ?_
  ·try cbv
   refine Ah (fun e=>?_) (fun e=>?_)
   ·replace h:=AJ e h
    clear e
    try cbv
    exact AA (n,true) [0,1,2,14] [.ext 0,.ext 1,.ext 2,.ext 3,.ext 4,.ext 5,.ext 6,.ext 7] 128 ⟨by omega,h⟩ (by cbv)
   replace h:=AK e h
   clear e
   try cbv
   exact AA (n,false) [0,1,2,14] [.ext 0,.ext 1,.ext 2,.ext 3,.ext 4,.ext 5,.ext 6,.ext 7] 128 ⟨by omega,h⟩ (by cbv)
  clear h
  rintro⟨m1,b9⟩ ⟨hm1,h⟩
  replace hm1:m1<=n:=hm1
  obtain _ | m1:=m1
  ·replace h:Fv 0 cm1 l2 b3 z4 s5 l6 b7 l8 b9=some r:=h
   rw[Fv]at h
   cases h
  replace h:Fv (m1+1) cm1 l2 b3 z4 s5 l6 b7 l8 b9=some r:=h
  rw[Fv]at h
  try cbv
  cases b9
  rotate_left
  ·replace h:=Aq h
   try cbv
   refine AB ?_
   try cbv
   replace h:=DT h
   obtain⟨l10,b11,hr,h⟩:=h
   refine AD rfl rfl ?_
   try cbv
   refine AE hM hI (cO _ hr) rfl ?_
   clear hr
   try cbv
   refine AB ?_
   try cbv
   refine AB ?_
   try cbv
   replace h:=AP M h
   obtain⟨z12,hz,h⟩:=h
   refine⟨z12,hz,?_⟩
   clear hz
   try cbv
   refine BF (T:=Nat×Int×List Az×LD×Bool) [0,1,23,24,25] [.ext 0,.ext 1,.ext 2,.ext 3,.ext 4,.ext 5,.ext 6,.ext 7] 544 (fun t=>⟨[(0,.v (.c (.yl (.ext 0)))),sE 1 6,sT 23 4 l10,sI 24 z12,sI 25 t.2.1],[(.ext 0,.rnd Cm [sE 3 1,sE 7 5]),(.ext 1,.cells [.fn 36 [.ext 2,.ext 4,.ext 1]]),(.ext 2,.cells [.map (.ext 3)]),(.ext 3,.map 94 3 t.2.2.1),(.ext 4,.cells [.d (.list true 16 t.2.2.2.1)]),(.ext 5,.cells [.d (.bool t.2.2.2.2)]),(.ext 6,.cells [.d (.int .u8 z4),.d (.str s5),.d (.list true 3 l6),.d (.bool b7)]),(.ext 7,.cells [.d (.list true 16 l8)])],544⟩)
     (fun t=>t.1<=m1/\Dz t.1 z4 s5 l6 b7 l8 l10 z12 t.2.1 t.2.2.1 t.2.2.2.1 t.2.2.2.2=some r) (fun t=>t.1) (m1,((0:Int),cm1,l2,b3)) ⟨Nat.le_refl _,h⟩ (by cbv) ?_
   clear h
   rintro⟨m2,z13,cm14,l15,b16⟩ ⟨hm2,h⟩
   replace hm2:m2<=m1:=hm2
   obtain _ | m2:=m2
   ·replace h:Dz 0 z4 s5 l6 b7 l8 l10 z12 z13 cm14 l15 b16=some r:=h
    rw[Dz]at h
    cases h
   replace h:Dz (m2+1) z4 s5 l6 b7 l8 l10 z12 z13 cm14 l15 b16=some r:=h
   rw[Dz]at h
   try cbv
   refine Aw (T:=Nat×Bool) (fun t=>⟨[(0,.v (.c (.yl (.ext 0)))),sE 1 6,sT 23 4 l10,sI 24 z12,sI 25 z13,sB 26 t.2],[(.ext 0,.rnd Cm [sE 3 1,sE 7 5]),(.ext 1,.cells [.fn 36 [.ext 2,.ext 4,.ext 1]]),(.ext 2,.cells [.map (.ext 3)]),(.ext 3,.map 94 3 cm14),(.ext 4,.cells [.d (.list true 16 l15)]),(.ext 5,.cells [.d (.bool b16)]),(.ext 6,.cells [.d (.int .u8 z4),.d (.str s5),.d (.list true 3 l6),.d (.bool b7)]),(.ext 7,.cells [.d (.list true 16 l8)])],576⟩) (fun t=>t.1<=m2/\JG t.1 z4 s5 l6 b7 l8 l10 z12 z13 cm14 l15 b16 t.2=some r) ?_ ?_
   ·try cbv
    refine Aa (fun e=>?_) (fun e=>?_)
    ·replace h:=AJ e h
     clear e
     try cbv
     exact AA (m2,true) [0,1,23,24,25,26] [.ext 0,.ext 1,.ext 2,.ext 3,.ext 4,.ext 5,.ext 6,.ext 7] 576 ⟨by omega,h⟩ (by cbv)
    replace h:=AK (Int.not_lt.2 e) h
    clear e
    try cbv
    exact AA (m2,false) [0,1,23,24,25,26] [.ext 0,.ext 1,.ext 2,.ext 3,.ext 4,.ext 5,.ext 6,.ext 7] 576 ⟨by omega,h⟩ (by cbv)
   clear h
   rintro⟨m3,b17⟩ ⟨hm3,h⟩
   replace hm3:m3<=m2:=hm3
   obtain _ | m3:=m3
   ·replace h:JG 0 z4 s5 l6 b7 l8 l10 z12 z13 cm14 l15 b16 b17=some r:=h
    rw[JG]at h
    cases h
   replace h:JG (m3+1) z4 s5 l6 b7 l8 l10 z12 z13 cm14 l15 b16 b17=some r:=h
   rw[JG]at h
   try cbv
   refine AB ?_
   try cbv
   cases b17
   ·replace h:=Ar h
    try cbv
    obtain rfl:=Option.some.inj h
    refine Ip hQ ?_
    try cbv
    exact⟨[],rfl,rfl,⟨rfl,⟨rfl,⟨rfl,⟨rfl,⟨rfl,⟨rfl,⟨rfl,⟨rfl,trivial⟩⟩⟩⟩⟩⟩⟩⟩,trivial,trivial⟩
   replace h:=Aq h
   try cbv
   refine AB ?_
   try cbv
   refine AB ?_
   try cbv
   replace h:=Ae h
   obtain⟨x18,⟨hx0,hx⟩,h⟩:=h
   refine⟨x18,hx0,hx,?_⟩
   clear hx0 hx
   replace h:=CQ h
   obtain⟨s19,z20,s21,l22,rfl,h⟩:=h
   try cbv
   refine AB ?_
   try cbv
   replace h:=OA h
   rcases h with⟨p28,hr,h⟩ | ⟨p29,hr,h⟩
   ·replace h:=DT h
    obtain⟨cm23,l24,hp,h⟩:=h
    obtain rfl:=Option.some.inj hp
    clear hp
    refine HJ hM hI [.ext 1,.ext 2,.ext 3,.ext 4,.ext 5] (sl0:=[(3,.v (.c (.ptr (.ext 0) 0))),(7,.v (.c (.ptr (.ext 4) 0)))]) rfl rfl rfl rfl ((ih _ (by omega)).1 hr (fun r p n=>r=(some (some 0))/\p=[.cells [.fn 36 [.ext 1,.ext 3,.ext 0]],.cells [.map (.ext 2)],.map 94 3 cm23,.cells [.d (.list true 16 l24)],.cells [.d (.bool true)]]/\n=[]) ⟨rfl,rfl,rfl⟩) rfl rfl rfl (by simp) ⟨rfl,⟨rfl,⟨rfl,⟨rfl,⟨rfl,trivial⟩⟩⟩⟩⟩ ⟨trivial,⟨trivial,⟨trivial,⟨trivial,⟨trivial,trivial⟩⟩⟩⟩⟩ (by simp) ?_
    clear hr
    try cbv
    refine⟨true,rfl,?_⟩
    try cbv
    obtain rfl:=Option.some.inj h
    refine Ip hQ ?_
    try cbv
    exact⟨[],rfl,rfl,⟨rfl,⟨rfl,⟨rfl,⟨rfl,⟨rfl,⟨rfl,⟨rfl,⟨rfl,trivial⟩⟩⟩⟩⟩⟩⟩⟩,trivial,trivial⟩
   replace h:=D4 h
   obtain⟨cm25,l26,b27,hp,h⟩:=h
   obtain rfl:=Option.some.inj hp
   clear hp
   refine HJ hM hI [.ext 1,.ext 2,.ext 3,.ext 4,.ext 5] (sl0:=[(3,.v (.c (.ptr (.ext 0) 0))),(7,.v (.c (.ptr (.ext 4) 0)))]) rfl rfl rfl rfl ((ih _ (by omega)).1 hr (fun r p n=>r=none/\p=[.cells [.fn 36 [.ext 1,.ext 3,.ext 0]],.cells [.map (.ext 2)],.map 94 3 cm25,.cells [.d (.list true 16 l26)],.cells [.d (.bool b27)]]/\n=[]) ⟨rfl,rfl,rfl⟩) rfl rfl rfl (by simp) ⟨rfl,⟨rfl,⟨rfl,⟨rfl,⟨rfl,trivial⟩⟩⟩⟩⟩ ⟨trivial,⟨trivial,⟨trivial,⟨trivial,⟨trivial,trivial⟩⟩⟩⟩⟩ (by simp) ?_
   clear hr
   try cbv
   refine⟨false,rfl,?_⟩
   try cbv
   replace h:=AN h
   obtain⟨z30,hz,h⟩:=h
   refine⟨z30,hz,?_⟩
   clear hz
   try cbv
   exact An (m3,(z30,cm25,l26,b27)) [0,1,23,24,25] [.ext 0,.ext 1,.ext 2,.ext 3,.ext 4,.ext 5,.ext 6,.ext 7] 544 ⟨by omega,h⟩ (Nat.lt_succ_of_le (by omega)) (by cbv)
  replace h:=Ar h
  try cbv
  refine AB ?_
  try cbv
  replace h:=AP M h
  obtain⟨z31,hz,h⟩:=h
  refine⟨z31,hz,?_⟩
  clear hz
  try cbv
  refine BF (T:=Nat×Int×List Az×LD×Bool) [0,1,40,41,42] [.ext 0,.ext 1,.ext 2,.ext 3,.ext 4,.ext 5,.ext 6,.ext 7] 288 (fun t=>⟨[(0,.v (.c (.yl (.ext 0)))),sE 1 6,sT 40 3 l6,sI 41 z31,sI 42 t.2.1],[(.ext 0,.rnd Cm [sE 3 1,sE 7 5]),(.ext 1,.cells [.fn 36 [.ext 2,.ext 4,.ext 1]]),(.ext 2,.cells [.map (.ext 3)]),(.ext 3,.map 94 3 t.2.2.1),(.ext 4,.cells [.d (.list true 16 t.2.2.2.1)]),(.ext 5,.cells [.d (.bool t.2.2.2.2)]),(.ext 6,.cells [.d (.int .u8 z4),.d (.str s5),.d (.list true 3 l6),.d (.bool b7)]),(.ext 7,.cells [.d (.list true 16 l8)])],288⟩)
    (fun t=>t.1<=m1/\Hi t.1 z4 s5 l6 b7 l8 z31 t.2.1 t.2.2.1 t.2.2.2.1 t.2.2.2.2=some r) (fun t=>t.1) (m1,((0:Int),cm1,l2,b3)) ⟨Nat.le_refl _,h⟩ (by cbv) ?_
  clear h
  rintro⟨m4,z32,cm33,l34,b35⟩ ⟨hm4,h⟩
  replace hm4:m4<=m1:=hm4
  obtain _ | m4:=m4
  ·replace h:Hi 0 z4 s5 l6 b7 l8 z31 z32 cm33 l34 b35=some r:=h
   rw[Hi]at h
   cases h
  replace h:Hi (m4+1) z4 s5 l6 b7 l8 z31 z32 cm33 l34 b35=some r:=h
  rw[Hi]at h
  try cbv
  refine Aw (T:=Nat×Bool) (fun t=>⟨[(0,.v (.c (.yl (.ext 0)))),sE 1 6,sT 40 3 l6,sI 41 z31,sI 42 z32,sB 43 t.2],[(.ext 0,.rnd Cm [sE 3 1,sE 7 5]),(.ext 1,.cells [.fn 36 [.ext 2,.ext 4,.ext 1]]),(.ext 2,.cells [.map (.ext 3)]),(.ext 3,.map 94 3 cm33),(.ext 4,.cells [.d (.list true 16 l34)]),(.ext 5,.cells [.d (.bool b35)]),(.ext 6,.cells [.d (.int .u8 z4),.d (.str s5),.d (.list true 3 l6),.d (.bool b7)]),(.ext 7,.cells [.d (.list true 16 l8)])],320⟩) (fun t=>t.1<=m4/\Hj t.1 z4 s5 l6 b7 l8 z31 z32 cm33 l34 b35 t.2=some r) ?_ ?_
  ·try cbv
   refine Aa (fun e=>?_) (fun e=>?_)
   ·replace h:=AJ e h
    clear e
    try cbv
    exact AA (m4,true) [0,1,40,41,42,43] [.ext 0,.ext 1,.ext 2,.ext 3,.ext 4,.ext 5,.ext 6,.ext 7] 320 ⟨by omega,h⟩ (by cbv)
   replace h:=AK (Int.not_lt.2 e) h
   clear e
   try cbv
   exact AA (m4,false) [0,1,40,41,42,43] [.ext 0,.ext 1,.ext 2,.ext 3,.ext 4,.ext 5,.ext 6,.ext 7] 320 ⟨by omega,h⟩ (by cbv)
  clear h
  rintro⟨m5,b36⟩ ⟨hm5,h⟩
  replace hm5:m5<=m4:=hm5
  obtain _ | m5:=m5
  ·replace h:Hj 0 z4 s5 l6 b7 l8 z31 z32 cm33 l34 b35 b36=some r:=h
   rw[Hj]at h
   cases h
  replace h:Hj (m5+1) z4 s5 l6 b7 l8 z31 z32 cm33 l34 b35 b36=some r:=h
  rw[Hj]at h
  try cbv
  refine AB ?_
  try cbv
  cases b36
  ·replace h:=Ar h
   try cbv
   obtain rfl:=Option.some.inj h
   refine Ip hQ ?_
   try cbv
   exact⟨[],rfl,rfl,⟨rfl,⟨rfl,⟨rfl,⟨rfl,⟨rfl,⟨rfl,⟨rfl,⟨rfl,trivial⟩⟩⟩⟩⟩⟩⟩⟩,trivial,trivial⟩
  replace h:=Aq h
  try cbv
  refine Aw (T:=Nat×(List Az)×LD×Bool) (fun t=>⟨[(0,.v (.c (.yl (.ext 0)))),sE 1 6,sT 40 3 l6,sI 41 z31,sI 42 z32],[(.ext 0,.rnd Cm [sE 3 1,sE 7 5]),(.ext 1,.cells [.fn 36 [.ext 2,.ext 4,.ext 1]]),(.ext 2,.cells [.map (.ext 3)]),(.ext 3,.map 94 3 t.2.1),(.ext 4,.cells [.d (.list true 16 t.2.2.1)]),(.ext 5,.cells [.d (.bool t.2.2.2)]),(.ext 6,.cells [.d (.int .u8 z4),.d (.str s5),.d (.list true 3 l6),.d (.bool b7)]),(.ext 7,.cells [.d (.list true 16 l8)])],1888⟩) (fun t=>t.1<=m5/\Fb t.1 z4 s5 l6 b7 l8 z31 z32 t.2.1 t.2.2.1 t.2.2.2=some r) ?_ ?_
  rotate_left
  ·clear h
   rintro⟨m12,cm63,l64,b65⟩ ⟨hm12,h⟩
   replace hm12:m12<=m5:=hm12
   obtain _ | m12:=m12
   ·replace h:Fb 0 z4 s5 l6 b7 l8 z31 z32 cm63 l64 b65=some r:=h
    rw[Fb]at h
    cases h
   replace h:Fb (m12+1) z4 s5 l6 b7 l8 z31 z32 cm63 l64 b65=some r:=h
   rw[Fb]at h
   try cbv
   replace h:=AN h
   obtain⟨z66,hz,h⟩:=h
   refine⟨z66,hz,?_⟩
   clear hz
   try cbv
   exact An (m12,(z66,cm63,l64,b65)) [0,1,40,41,42] [.ext 0,.ext 1,.ext 2,.ext 3,.ext 4,.ext 5,.ext 6,.ext 7] 288 ⟨by omega,h⟩ (Nat.lt_succ_of_le (by omega)) (by cbv)
  try cbv
  refine AB ?_
  try cbv
  replace h:=Ae h
  obtain⟨x37,⟨hx0,hx⟩,h⟩:=h
  refine⟨x37,hx0,hx,?_⟩
  clear hx0 hx
  replace h:=DE h
  obtain⟨z38,s39,l40,rfl,h⟩:=h
  try cbv
  refine AB ?_
  try cbv
  refine Aw (T:=Nat×Bool×Bool) (fun t=>⟨[(0,.v (.c (.yl (.ext 0)))),sE 1 6,sL 9 384,sL 10 608,sT 40 3 l6,sI 41 z31,sI 42 z32],[(.ext 0,.rnd Cm [sE 3 1,sE 7 5]),(.ext 1,.cells [.fn 36 [.ext 2,.ext 4,.ext 1]]),(.ext 2,.cells [.map (.ext 3)]),(.ext 3,.map 94 3 cm33),(.ext 4,.cells [.d (.list true 16 l34)]),(.ext 5,.cells [.d (.bool b35)]),(.ext 6,.cells [.d (.int .u8 z4),.d (.str s5),.d (.list true 3 l6),.d (.bool b7)]),(.ext 7,.cells [.d (.list true 16 l8)]),(.loc 384,.cells [.d (.int .u8 z38),.d (.str s39),.d (.list true 3 l40)]),(.loc 608,.cells [.d (.bool t.2.1),.d (.bool t.2.2)])],1152⟩) (fun t=>t.1<=m5/\DF t.1 z4 s5 l6 b7 l8 z31 z32 cm33 l34 b35 z38 s39 l40 t.2.1 t.2.2=some r) ?_ ?_
  rotate_left
  ·clear h
   rintro⟨m11,b46,b47⟩ ⟨hm11,h⟩
   replace hm11:m11<=m5:=hm11
   obtain _ | m11:=m11
   ·replace h:DF 0 z4 s5 l6 b7 l8 z31 z32 cm33 l34 b35 z38 s39 l40 b46 b47=some r:=h
    rw[DF]at h
    cases h
   replace h:DF (m11+1) z4 s5 l6 b7 l8 z31 z32 cm33 l34 b35 z38 s39 l40 b46 b47=some r:=h
   rw[DF]at h
   try cbv
   refine AB ?_
   try cbv
   first | refine⟨by decide,by decide,true,?_⟩ | refine⟨Int.NonNeg.mk _,true,?_⟩ | refine⟨Int.NonNeg.mk _,Int.NonNeg.mk _,true,?_⟩
   try cbv
   replace h:=OA h
   rcases h with⟨p61,hr,h⟩ | ⟨p62,hr,h⟩
   ·replace h:=DT h
    obtain⟨cm48,l49,hp,h⟩:=h
    obtain rfl:=Option.some.inj hp
    clear hp
    refine HJ hM hI [.ext 1,.ext 2,.ext 3,.ext 4,.ext 5] (sl0:=[(3,.v (.c (.ptr (.ext 0) 0))),(7,.v (.c (.ptr (.ext 4) 0)))]) rfl rfl rfl rfl ((ih _ (by omega)).1 hr (fun r p n=>r=(some (some 0))/\p=[.cells [.fn 36 [.ext 1,.ext 3,.ext 0]],.cells [.map (.ext 2)],.map 94 3 cm48,.cells [.d (.list true 16 l49)],.cells [.d (.bool true)]]/\n=[]) ⟨rfl,rfl,rfl⟩) rfl rfl rfl (by simp) ⟨rfl,⟨rfl,⟨rfl,⟨rfl,⟨rfl,trivial⟩⟩⟩⟩⟩ ⟨trivial,⟨trivial,⟨trivial,⟨trivial,⟨trivial,trivial⟩⟩⟩⟩⟩ (by simp) ?_
    clear hr
    try cbv
    refine⟨true,rfl,?_⟩
    try cbv
    obtain rfl:=Option.some.inj h
    refine Ip hQ ?_
    try cbv
    exact⟨[],rfl,rfl,⟨rfl,⟨rfl,⟨rfl,⟨rfl,⟨rfl,⟨rfl,⟨rfl,⟨rfl,trivial⟩⟩⟩⟩⟩⟩⟩⟩,trivial,trivial⟩
   replace h:=D4 h
   obtain⟨cm50,l51,b52,hp,h⟩:=h
   obtain rfl:=Option.some.inj hp
   clear hp
   refine HJ hM hI [.ext 1,.ext 2,.ext 3,.ext 4,.ext 5] (sl0:=[(3,.v (.c (.ptr (.ext 0) 0))),(7,.v (.c (.ptr (.ext 4) 0)))]) rfl rfl rfl rfl ((ih _ (by omega)).1 hr (fun r p n=>r=none/\p=[.cells [.fn 36 [.ext 1,.ext 3,.ext 0]],.cells [.map (.ext 2)],.map 94 3 cm50,.cells [.d (.list true 16 l51)],.cells [.d (.bool b52)]]/\n=[]) ⟨rfl,rfl,rfl⟩) rfl rfl rfl (by simp) ⟨rfl,⟨rfl,⟨rfl,⟨rfl,⟨rfl,trivial⟩⟩⟩⟩⟩ ⟨trivial,⟨trivial,⟨trivial,⟨trivial,⟨trivial,trivial⟩⟩⟩⟩⟩ (by simp) ?_
   clear hr
   try cbv
   refine⟨false,rfl,?_⟩
   try cbv
   first | refine⟨by decide,by decide,true,?_⟩ | refine⟨Int.NonNeg.mk _,true,?_⟩ | refine⟨Int.NonNeg.mk _,Int.NonNeg.mk _,true,?_⟩
   try cbv
   first | refine⟨by decide,by decide,true,?_⟩ | refine⟨Int.NonNeg.mk _,true,?_⟩ | refine⟨Int.NonNeg.mk _,Int.NonNeg.mk _,true,?_⟩
   try cbv
   replace h:=AL h
   obtain⟨b53,hz,h⟩:=h
   refine⟨b53,Qf hz,?_⟩
   clear hz
   try cbv
   cases b53
   ·replace h:=Ar h
    try cbv
    exact AA (m11,(cm50,l51,b52)) [0,1,40,41,42] [.ext 0,.ext 1,.ext 2,.ext 3,.ext 4,.ext 5,.ext 6,.ext 7] 1888 ⟨by omega,h⟩ (by cbv)
   replace h:=Aq h
   try cbv
   first | refine⟨by decide,by decide,true,?_⟩ | refine⟨Int.NonNeg.mk _,true,?_⟩ | refine⟨Int.NonNeg.mk _,Int.NonNeg.mk _,true,?_⟩
   try cbv
   replace h:=OA h
   rcases h with⟨p59,hr,h⟩ | ⟨p60,hr,h⟩
   ·replace h:=DT h
    obtain⟨cm54,l55,hp,h⟩:=h
    obtain rfl:=Option.some.inj hp
    clear hp
    refine HJ hM hI [.ext 1,.ext 2,.ext 3,.ext 4,.ext 5] (sl0:=[(3,.v (.c (.ptr (.ext 0) 0))),(7,.v (.c (.ptr (.ext 4) 0)))]) rfl rfl rfl rfl ((ih _ (by omega)).1 hr (fun r p n=>r=(some (some 0))/\p=[.cells [.fn 36 [.ext 1,.ext 3,.ext 0]],.cells [.map (.ext 2)],.map 94 3 cm54,.cells [.d (.list true 16 l55)],.cells [.d (.bool true)]]/\n=[]) ⟨rfl,rfl,rfl⟩) rfl rfl rfl (by simp) ⟨rfl,⟨rfl,⟨rfl,⟨rfl,⟨rfl,trivial⟩⟩⟩⟩⟩ ⟨trivial,⟨trivial,⟨trivial,⟨trivial,⟨trivial,trivial⟩⟩⟩⟩⟩ (by simp) ?_
    clear hr
    try cbv
    refine⟨true,rfl,?_⟩
    try cbv
    obtain rfl:=Option.some.inj h
    refine Ip hQ ?_
    try cbv
    exact⟨[],rfl,rfl,⟨rfl,⟨rfl,⟨rfl,⟨rfl,⟨rfl,⟨rfl,⟨rfl,⟨rfl,trivial⟩⟩⟩⟩⟩⟩⟩⟩,trivial,trivial⟩
   replace h:=D4 h
   obtain⟨cm56,l57,b58,hp,h⟩:=h
   obtain rfl:=Option.some.inj hp
   clear hp
   refine HJ hM hI [.ext 1,.ext 2,.ext 3,.ext 4,.ext 5] (sl0:=[(3,.v (.c (.ptr (.ext 0) 0))),(7,.v (.c (.ptr (.ext 4) 0)))]) rfl rfl rfl rfl ((ih _ (by omega)).1 hr (fun r p n=>r=none/\p=[.cells [.fn 36 [.ext 1,.ext 3,.ext 0]],.cells [.map (.ext 2)],.map 94 3 cm56,.cells [.d (.list true 16 l57)],.cells [.d (.bool b58)]]/\n=[]) ⟨rfl,rfl,rfl⟩) rfl rfl rfl (by simp) ⟨rfl,⟨rfl,⟨rfl,⟨rfl,⟨rfl,trivial⟩⟩⟩⟩⟩ ⟨trivial,⟨trivial,⟨trivial,⟨trivial,⟨trivial,trivial⟩⟩⟩⟩⟩ (by simp) ?_
   clear hr
   try cbv
   refine⟨false,rfl,?_⟩
   try cbv
   exact AA (m11,(cm56,l57,b58)) [0,1,40,41,42] [.ext 0,.ext 1,.ext 2,.ext 3,.ext 4,.ext 5,.ext 6,.ext 7] 1888 ⟨by omega,h⟩ (by cbv)
  try cbv
  refine AB ?_
  try cbv
  refine Aw (T:=Nat×Bool) (fun t=>⟨[(0,.v (.c (.yl (.ext 0)))),sE 1 6,sL 9 384,sL 10 608,sT 40 3 l6,sI 41 z31,sI 42 z32,sU 53 z4,sB 54 t.2],[(.ext 0,.rnd Cm [sE 3 1,sE 7 5]),(.ext 1,.cells [.fn 36 [.ext 2,.ext 4,.ext 1]]),(.ext 2,.cells [.map (.ext 3)]),(.ext 3,.map 94 3 cm33),(.ext 4,.cells [.d (.list true 16 l34)]),(.ext 5,.cells [.d (.bool b35)]),(.ext 6,.cells [.d (.int .u8 z4),.d (.str s5),.d (.list true 3 l6),.d (.bool b7)]),(.ext 7,.cells [.d (.list true 16 l8)]),(.loc 384,.cells [.d (.int .u8 z38),.d (.str s39),.d (.list true 3 l40)]),(.loc 608,.cells [.d (.bool b7),.d (.bool b7)])],832⟩) (fun t=>t.1<=m5/\Gw t.1 z4 s5 l6 b7 l8 z31 z32 cm33 l34 b35 z38 s39 l40 t.2=some r) ?_ ?_
  ·try cbv
   refine Ah (fun e=>?_) (fun e=>?_)
   ·replace h:=AJ e h
    clear e
    try cbv
    exact AA (m5,true) [0,1,9,10,40,41,42,53,54] [.ext 0,.ext 1,.ext 2,.ext 3,.ext 4,.ext 5,.ext 6,.ext 7,.loc 384,.loc 608] 832 ⟨by omega,h⟩ (by cbv)
   replace h:=AK e h
   clear e
   try cbv
   exact AA (m5,false) [0,1,9,10,40,41,42,53,54] [.ext 0,.ext 1,.ext 2,.ext 3,.ext 4,.ext 5,.ext 6,.ext 7,.loc 384,.loc 608] 832 ⟨by omega,h⟩ (by cbv)
  clear h
  rintro⟨m6,b41⟩ ⟨hm6,h⟩
  replace hm6:m6<=m5:=hm6
  obtain _ | m6:=m6
  ·replace h:Gw 0 z4 s5 l6 b7 l8 z31 z32 cm33 l34 b35 z38 s39 l40 b41=some r:=h
   rw[Gw]at h
   cases h
  replace h:Gw (m6+1) z4 s5 l6 b7 l8 z31 z32 cm33 l34 b35 z38 s39 l40 b41=some r:=h
  rw[Gw]at h
  try cbv
  cases b41
  rotate_left
  ·replace h:=Aq h
   try cbv
   exact AA (m6,(false,true)) [0,1,9,10,40,41,42] [.ext 0,.ext 1,.ext 2,.ext 3,.ext 4,.ext 5,.ext 6,.ext 7,.loc 384,.loc 608] 1152 ⟨by omega,h⟩ (by cbv)
  replace h:=Ar h
  try cbv
  refine Aw (T:=Nat×Bool) (fun t=>⟨[(0,.v (.c (.yl (.ext 0)))),sE 1 6,sL 9 384,sL 10 608,sT 40 3 l6,sI 41 z31,sI 42 z32,sU 53 z4,sB 57 t.2],[(.ext 0,.rnd Cm [sE 3 1,sE 7 5]),(.ext 1,.cells [.fn 36 [.ext 2,.ext 4,.ext 1]]),(.ext 2,.cells [.map (.ext 3)]),(.ext 3,.map 94 3 cm33),(.ext 4,.cells [.d (.list true 16 l34)]),(.ext 5,.cells [.d (.bool b35)]),(.ext 6,.cells [.d (.int .u8 z4),.d (.str s5),.d (.list true 3 l6),.d (.bool b7)]),(.ext 7,.cells [.d (.list true 16 l8)]),(.loc 384,.cells [.d (.int .u8 z38),.d (.str s39),.d (.list true 3 l40)]),(.loc 608,.cells [.d (.bool b7),.d (.bool b7)])],1024⟩) (fun t=>t.1<=m6/\Fw t.1 z4 s5 l6 b7 l8 z31 z32 cm33 l34 b35 z38 s39 l40 t.2=some r) ?_ ?_
  rotate_left
  ·clear h
   rintro⟨m9,b44⟩ ⟨hm9,h⟩
   replace hm9:m9<=m6:=hm9
   obtain _ | m9:=m9
   ·replace h:Fw 0 z4 s5 l6 b7 l8 z31 z32 cm33 l34 b35 z38 s39 l40 b44=some r:=h
    rw[Fw]at h
    cases h
   replace h:Fw (m9+1) z4 s5 l6 b7 l8 z31 z32 cm33 l34 b35 z38 s39 l40 b44=some r:=h
   rw[Fw]at h
   try cbv
   cases b44
   rotate_left
   ·replace h:=Aq h
    try cbv
    exact AA (m9,(false,false)) [0,1,9,10,40,41,42] [.ext 0,.ext 1,.ext 2,.ext 3,.ext 4,.ext 5,.ext 6,.ext 7,.loc 384,.loc 608] 1152 ⟨by omega,h⟩ (by cbv)
   replace h:=Ar h
   try cbv
   refine Aw (T:=Nat×Bool) (fun t=>⟨[(0,.v (.c (.yl (.ext 0)))),sE 1 6,sL 9 384,sL 10 608,sT 40 3 l6,sI 41 z31,sI 42 z32,sB 57 false,sB 62 t.2],[(.ext 0,.rnd Cm [sE 3 1,sE 7 5]),(.ext 1,.cells [.fn 36 [.ext 2,.ext 4,.ext 1]]),(.ext 2,.cells [.map (.ext 3)]),(.ext 3,.map 94 3 cm33),(.ext 4,.cells [.d (.list true 16 l34)]),(.ext 5,.cells [.d (.bool b35)]),(.ext 6,.cells [.d (.int .u8 z4),.d (.str s5),.d (.list true 3 l6),.d (.bool b7)]),(.ext 7,.cells [.d (.list true 16 l8)]),(.loc 384,.cells [.d (.int .u8 z38),.d (.str s39),.d (.list true 3 l40)]),(.loc 608,.cells [.d (.bool b7),.d (.bool b7)])],1088⟩) (fun t=>t.1<=m9/\Fa t.1 z4 s5 l6 b7 l8 z31 z32 cm33 l34 b35 z38 s39 l40 t.2=some r) ?_ ?_
   ·try cbv
    refine Ah (fun e=>?_) (fun e=>?_)
    ·replace h:=AJ e h
     clear e
     try cbv
     exact AA (m9,true) [0,1,9,10,40,41,42,57,62] [.ext 0,.ext 1,.ext 2,.ext 3,.ext 4,.ext 5,.ext 6,.ext 7,.loc 384,.loc 608] 1088 ⟨by omega,h⟩ (by cbv)
    replace h:=AK e h
    clear e
    try cbv
    exact AA (m9,false) [0,1,9,10,40,41,42,57,62] [.ext 0,.ext 1,.ext 2,.ext 3,.ext 4,.ext 5,.ext 6,.ext 7,.loc 384,.loc 608] 1088 ⟨by omega,h⟩ (by cbv)
   clear h
   rintro⟨m10,b45⟩ ⟨hm10,h⟩
   replace hm10:m10<=m9:=hm10
   obtain _ | m10:=m10
   ·replace h:Fa 0 z4 s5 l6 b7 l8 z31 z32 cm33 l34 b35 z38 s39 l40 b45=some r:=h
    rw[Fa]at h
    cases h
   replace h:Fa (m10+1) z4 s5 l6 b7 l8 z31 z32 cm33 l34 b35 z38 s39 l40 b45=some r:=h
   rw[Fa]at h
   try cbv
   cases b45
   ·replace h:=Ar h
    try cbv
    exact AA (m10,(b7,b7)) [0,1,9,10,40,41,42] [.ext 0,.ext 1,.ext 2,.ext 3,.ext 4,.ext 5,.ext 6,.ext 7,.loc 384,.loc 608] 1152 ⟨by omega,h⟩ (by cbv)
   replace h:=Aq h
   try cbv
   exact AA (m10,(true,true)) [0,1,9,10,40,41,42] [.ext 0,.ext 1,.ext 2,.ext 3,.ext 4,.ext 5,.ext 6,.ext 7,.loc 384,.loc 608] 1152 ⟨by omega,h⟩ (by cbv)
  try cbv
  refine Aw (T:=Nat×Bool) (fun t=>⟨[(0,.v (.c (.yl (.ext 0)))),sE 1 6,sL 9 384,sL 10 608,sT 40 3 l6,sI 41 z31,sI 42 z32,sU 53 z4,sB 57 t.2],[(.ext 0,.rnd Cm [sE 3 1,sE 7 5]),(.ext 1,.cells [.fn 36 [.ext 2,.ext 4,.ext 1]]),(.ext 2,.cells [.map (.ext 3)]),(.ext 3,.map 94 3 cm33),(.ext 4,.cells [.d (.list true 16 l34)]),(.ext 5,.cells [.d (.bool b35)]),(.ext 6,.cells [.d (.int .u8 z4),.d (.str s5),.d (.list true 3 l6),.d (.bool b7)]),(.ext 7,.cells [.d (.list true 16 l8)]),(.loc 384,.cells [.d (.int .u8 z38),.d (.str s39),.d (.list true 3 l40)]),(.loc 608,.cells [.d (.bool b7),.d (.bool b7)])],896⟩) (fun t=>t.1<=m6/\JH t.1 z4 s5 l6 b7 l8 z31 z32 cm33 l34 b35 z38 s39 l40 t.2=some r) ?_ ?_
  ·try cbv
   refine Ah (fun e=>?_) (fun e=>?_)
   ·replace h:=AJ e h
    clear e
    try cbv
    exact AA (m6,true) [0,1,9,10,40,41,42,53,57] [.ext 0,.ext 1,.ext 2,.ext 3,.ext 4,.ext 5,.ext 6,.ext 7,.loc 384,.loc 608] 896 ⟨by omega,h⟩ (by cbv)
   replace h:=AK e h
   clear e
   try cbv
   exact AA (m6,false) [0,1,9,10,40,41,42,53,57] [.ext 0,.ext 1,.ext 2,.ext 3,.ext 4,.ext 5,.ext 6,.ext 7,.loc 384,.loc 608] 896 ⟨by omega,h⟩ (by cbv)
  clear h
  rintro⟨m7,b42⟩ ⟨hm7,h⟩
  replace hm7:m7<=m6:=hm7
  obtain _ | m7:=m7
  ·replace h:JH 0 z4 s5 l6 b7 l8 z31 z32 cm33 l34 b35 z38 s39 l40 b42=some r:=h
   rw[JH]at h
   cases h
  replace h:JH (m7+1) z4 s5 l6 b7 l8 z31 z32 cm33 l34 b35 z38 s39 l40 b42=some r:=h
  rw[JH]at h
  try cbv
  cases b42
  rotate_left
  ·replace h:=Aq h
   try cbv
   exact AA (m7,true) [0,1,9,10,40,41,42,53,57] [.ext 0,.ext 1,.ext 2,.ext 3,.ext 4,.ext 5,.ext 6,.ext 7,.loc 384,.loc 608] 1024 ⟨by omega,h⟩ (by cbv)
  replace h:=Ar h
  try cbv
  refine Aw (T:=Nat×Bool) (fun t=>⟨[(0,.v (.c (.yl (.ext 0)))),sE 1 6,sL 9 384,sL 10 608,sT 40 3 l6,sI 41 z31,sI 42 z32,sU 53 z4,sB 57 t.2],[(.ext 0,.rnd Cm [sE 3 1,sE 7 5]),(.ext 1,.cells [.fn 36 [.ext 2,.ext 4,.ext 1]]),(.ext 2,.cells [.map (.ext 3)]),(.ext 3,.map 94 3 cm33),(.ext 4,.cells [.d (.list true 16 l34)]),(.ext 5,.cells [.d (.bool b35)]),(.ext 6,.cells [.d (.int .u8 z4),.d (.str s5),.d (.list true 3 l6),.d (.bool b7)]),(.ext 7,.cells [.d (.list true 16 l8)]),(.loc 384,.cells [.d (.int .u8 z38),.d (.str s39),.d (.list true 3 l40)]),(.loc 608,.cells [.d (.bool b7),.d (.bool b7)])],960⟩) (fun t=>t.1<=m7/\JI t.1 z4 s5 l6 b7 l8 z31 z32 cm33 l34 b35 z38 s39 l40 t.2=some r) ?_ ?_
  ·try cbv
   refine Ah (fun e=>?_) (fun e=>?_)
   ·replace h:=AJ e h
    clear e
    try cbv
    exact AA (m7,true) [0,1,9,10,40,41,42,53,57] [.ext 0,.ext 1,.ext 2,.ext 3,.ext 4,.ext 5,.ext 6,.ext 7,.loc 384,.loc 608] 960 ⟨by omega,h⟩ (by cbv)
   replace h:=AK e h
   clear e
   try cbv
   exact AA (m7,false) [0,1,9,10,40,41,42,53,57] [.ext 0,.ext 1,.ext 2,.ext 3,.ext 4,.ext 5,.ext 6,.ext 7,.loc 384,.loc 608] 960 ⟨by omega,h⟩ (by cbv)
  clear h
  rintro⟨m8,b43⟩ ⟨hm8,h⟩
  replace hm8:m8<=m7:=hm8
  obtain _ | m8:=m8
  ·replace h:JI 0 z4 s5 l6 b7 l8 z31 z32 cm33 l34 b35 z38 s39 l40 b43=some r:=h
   rw[JI]at h
   cases h
  replace h:JI (m8+1) z4 s5 l6 b7 l8 z31 z32 cm33 l34 b35 z38 s39 l40 b43=some r:=h
  rw[JI]at h
  try cbv
  cases b43
  ·replace h:=Ar h
   try cbv
   refine Ah (fun e=>?_) (fun e=>?_)
   ·replace h:=AJ e h
    clear e
    try cbv
    exact AA (m8,true) [0,1,9,10,40,41,42,53,57] [.ext 0,.ext 1,.ext 2,.ext 3,.ext 4,.ext 5,.ext 6,.ext 7,.loc 384,.loc 608] 1024 ⟨by omega,h⟩ (by cbv)
   replace h:=AK e h
   clear e
   try cbv
   exact AA (m8,false) [0,1,9,10,40,41,42,53,57] [.ext 0,.ext 1,.ext 2,.ext 3,.ext 4,.ext 5,.ext 6,.ext 7,.loc 384,.loc 608] 1024 ⟨by omega,h⟩ (by cbv)
  replace h:=Aq h
  try cbv
  exact AA (m8,true) [0,1,9,10,40,41,42,53,57] [.ext 0,.ext 1,.ext 2,.ext 3,.ext 4,.ext 5,.ext 6,.ext 7,.loc 384,.loc 608] 1024 ⟨by omega,h⟩ (by cbv)
 intro z1 s2 l3 b4 cm5 l6 r1 r2 r3 h
 rw[Rk]at h
 refine AW.Y4 Ab AO Bp Tryz.func36 rfl (by kernel_rfl) rfl rfl rfl (fun M hM hI=>?_)
 try cbv
 refine AB ?_
 try cbv
 refine Aw (T:=Nat×(List Az)) (fun t=>⟨[sE 2 2,sE 3 3,sL 4 0,sB 5 false],[(.ext 0,.cells [.map (.ext 1)]),(.ext 1,.map 94 3 t.2),(.ext 2,.cells [.d (.list true 16 l6)]),(.ext 3,.cells [.fn 36 [.ext 0,.ext 2,.ext 3]]),(.loc 0,.cells [.d (.int .u8 z1),.d (.str s2),.d (.list true 3 l3),.d (.bool b4)])],800⟩) (fun t=>t.1<=n/\JK t.1 z1 s2 l3 b4 l6 t.2=some (r1,r2,r3)) ?_ ?_
 ·try cbv
  refine Aw (T:=Nat×Bool) (fun t=>⟨[sE 1 0,sE 2 2,sE 3 3,sL 4 0,sB 5 false,sB 12 t.2],[(.ext 0,.cells [.map (.ext 1)]),(.ext 1,.map 94 3 cm5),(.ext 2,.cells [.d (.list true 16 l6)]),(.ext 3,.cells [.fn 36 [.ext 0,.ext 2,.ext 3]]),(.loc 0,.cells [.d (.int .u8 z1),.d (.str s2),.d (.list true 3 l3),.d (.bool b4)])],192⟩) (fun t=>t.1<=n/\JJ t.1 z1 s2 l3 b4 cm5 l6 t.2=some (r1,r2,r3)) ?_ ?_
  ·try cbv
   refine Ah (fun e=>?_) (fun e=>?_)
   ·replace h:=AJ e h
    clear e
    try cbv
    exact AA (n,true) [1,2,3,4,5,12] [.ext 0,.ext 1,.ext 2,.ext 3,.loc 0] 192 ⟨by omega,h⟩ (by cbv)
   replace h:=AK e h
   clear e
   try cbv
   exact AA (n,false) [1,2,3,4,5,12] [.ext 0,.ext 1,.ext 2,.ext 3,.loc 0] 192 ⟨by omega,h⟩ (by cbv)
  clear h
  rintro⟨m1,b7⟩ ⟨hm1,h⟩
  replace hm1:m1<=n:=hm1
  obtain _ | m1:=m1
  ·replace h:JJ 0 z1 s2 l3 b4 cm5 l6 b7=some (r1,r2,r3):=h
   rw[JJ]at h
   cases h
  replace h:JJ (m1+1) z1 s2 l3 b4 cm5 l6 b7=some (r1,r2,r3):=h
  rw[JJ]at h
  try cbv
  cases b7
  ·replace h:=Ar h
   try cbv
   exact AA (m1,cm5) [2,3,4,5] [.ext 0,.ext 1,.ext 2,.ext 3,.loc 0] 800 ⟨by omega,h⟩ (by cbv)
  replace h:=Aq h
  try cbv
  refine AB ?_
  try cbv
  refine AB ?_
  try cbv
  refine (M.lock_iff _).2 (.inr ⟨91,94,3,3,1,6,19,20,21,22,23,24,(M.lock_iff _).2 ⟨by kernel_rfl,⟨_,rfl,rfl,rfl⟩,⟨_,rfl,rfl,rfl⟩,⟨_,rfl,rfl,rfl⟩,⟨_,rfl,rfl,rfl⟩,⟨_,rfl,rfl,rfl⟩,⟨_,rfl,rfl,rfl⟩,⟨_,rfl,rfl,rfl⟩,by decide,by decide⟩,?_⟩)
  try cbv
  replace h:=Tl h
  obtain⟨cm8,hz,h⟩:=h
  refine⟨⟨(M.lock_iff _).2 (by rw[hM];exact⟨by kernel_rfl,by kernel_rfl,by rfl⟩),trivial⟩,(M.lock_iff _).2 ⟨rfl,rfl⟩,cm8,hz,?_⟩
  clear hz
  try cbv
  refine Aw (T:=Nat×Bool) (fun t=>⟨[sE 2 2,sE 3 3,sL 4 0,sB 5 false,sB 28 t.2],[(.ext 0,.cells [.map (.ext 1)]),(.ext 1,.map 94 3 cm8),(.ext 2,.cells [.d (.list true 16 l6)]),(.ext 3,.cells [.fn 36 [.ext 0,.ext 2,.ext 3]]),(.loc 0,.cells [.d (.int .u8 z1),.d (.str s2),.d (.list true 3 l3),.d (.bool b4)])],800⟩) (fun t=>t.1<=m1/\Gx t.1 z1 s2 l3 b4 l6 cm8 t.2=some (r1,r2,r3)) ?_ ?_
  ·try cbv
   replace h:=AN h
   obtain⟨z9,hz,h⟩:=h
   refine⟨⟨(M.lock_iff _).2 (by rw[hM];exact⟨by kernel_rfl,by kernel_rfl,by rfl⟩),trivial⟩,(M.lock_iff _).2 ⟨rfl,rfl⟩,z9,hz,?_⟩
   clear hz
   try cbv
   refine Aa (fun e=>?_) (fun e=>?_)
   ·replace h:=AJ e h
    clear e
    try cbv
    exact AA (m1,true) [2,3,4,5,28] [.ext 0,.ext 1,.ext 2,.ext 3,.loc 0] 800 ⟨by omega,h⟩ (by cbv)
   replace h:=AK (Int.not_lt.2 e) h
   clear e
   try cbv
   exact AA (m1,false) [2,3,4,5,28] [.ext 0,.ext 1,.ext 2,.ext 3,.loc 0] 800 ⟨by omega,h⟩ (by cbv)
  clear h
  rintro⟨m2,b10⟩ ⟨hm2,h⟩
  replace hm2:m2<=m1:=hm2
  obtain _ | m2:=m2
  ·replace h:Gx 0 z1 s2 l3 b4 l6 cm8 b10=some (r1,r2,r3):=h
   rw[Gx]at h
   cases h
  replace h:Gx (m2+1) z1 s2 l3 b4 l6 cm8 b10=some (r1,r2,r3):=h
  rw[Gx]at h
  try cbv
  cases b10
  ·replace h:=Ar h
   try cbv
   exact AA (m2,cm8) [2,3,4,5] [.ext 0,.ext 1,.ext 2,.ext 3,.loc 0] 800 ⟨by omega,h⟩ (by cbv)
  replace h:=Aq h
  try cbv
  refine AB ?_
  try cbv
  obtain⟨rfl,rfl,rfl⟩:=Pd h
  refine AF ?_
  try cbv
  exact⟨[],rfl,rfl,⟨rfl,⟨rfl,⟨rfl,⟨rfl,trivial⟩⟩⟩⟩,trivial,trivial⟩
 clear h
 rintro⟨m3,cm11⟩ ⟨hm3,h⟩
 replace hm3:m3<=n:=hm3
 obtain _ | m3:=m3
 ·replace h:JK 0 z1 s2 l3 b4 l6 cm11=some (r1,r2,r3):=h
  rw[JK]at h
  cases h
 replace h:JK (m3+1) z1 s2 l3 b4 l6 cm11=some (r1,r2,r3):=h
 rw[JK]at h
 try cbv
 refine AB ?_
 try cbv
 refine AB ?_
 try cbv
 replace h:=AG h
 obtain⟨b12,hr,h⟩:=h
 refine AD rfl rfl ?_
 try cbv
 refine AE hM hI (cJ _ hr) rfl ?_
 clear hr
 try cbv
 cases b12
 rotate_left
 ·replace h:=Aq h
  try cbv
  refine AB ?_
  try cbv
  obtain⟨rfl,rfl,rfl⟩:=Pd h
  refine AF ?_
  try cbv
  exact⟨[],rfl,rfl,⟨rfl,⟨rfl,⟨rfl,⟨rfl,trivial⟩⟩⟩⟩,trivial,trivial⟩
 replace h:=Ar h
 try cbv
 refine AB ?_
 try cbv
 refine Aw (T:=Nat×(List Az)×LD×Bool) (fun t=>⟨[sB 5 false,sL 7 864],[(.ext 0,.cells [.map (.ext 1)]),(.ext 1,.map 94 3 t.2.1),(.ext 2,.cells [.d (.list true 16 t.2.2.1)]),(.ext 3,.cells [.fn 36 [.ext 0,.ext 2,.ext 3]]),(.loc 864,.cells [.d (.bool t.2.2.2)])],1088⟩) (fun t=>t.1<=m3/\Da t.1 t.2.1 t.2.2.1 t.2.2.2=some (r1,r2,r3)) ?_ ?_
 ·try cbv
  refine AB ?_
  try cbv
  replace h:=Bk h
  obtain⟨z13,s14,l15,b16,l17,hr,h⟩:=h
  refine AD rfl rfl ?_
  try cbv
  refine AI hM hI [] (cK _ hr) rfl (by simp) trivial trivial (by simp) ?_
  clear hr
  try cbv
  replace h:=OA h
  rcases h with⟨p33,hr,h⟩ | ⟨p34,hr,h⟩
  ·replace h:=Il h
   obtain⟨cm18,l19,z20,s21,l22,b23,l24,hp,h⟩:=h
   obtain rfl:=Option.some.inj hp
   clear hp
   refine Lo hM hI [.loc 1024,.ext 3,.ext 0,.ext 1,.ext 2,.loc 864,.loc 992,.loc 993] [(3,.v (.c (.ptr (.ext 3) 0))),(7,.v (.c (.ptr (.loc 864) 0)))] rfl ⟨rfl,⟨rfl,trivial⟩⟩ ((ih _ (by omega)).2.1 hr (fun r p n=>r= .t []/\p=[.rndX (some 0),.cells [.fn 36 [.ext 2,.ext 4,.ext 1]],.cells [.map (.ext 3)],.map 94 3 cm18,.cells [.d (.list true 16 l19)],.cells [.d (.bool true)],.cells [.d (.int .u8 z20),.d (.str s21),.d (.list true 3 l22),.d (.bool b23)],.cells [.d (.list true 16 l24)]]/\n=[]) ⟨rfl,rfl,rfl⟩:AW _ _ _ _ _ (.t []) [.rndX (some 0),.cells [.fn 36 [.ext 2,.ext 4,.ext 1]],.cells [.map (.ext 3)],.map 94 3 cm18,.cells [.d (.list true 16 l19)],.cells [.d (.bool true)],.cells [.d (.int .u8 z20),.d (.str s21),.d (.list true 3 l22),.d (.bool b23)],.cells [.d (.list true 16 l24)]] []) rfl (by simp) ⟨rfl,⟨rfl,⟨rfl,⟨rfl,⟨rfl,⟨rfl,⟨rfl,⟨rfl,trivial⟩⟩⟩⟩⟩⟩⟩⟩ ⟨trivial,⟨trivial,⟨trivial,⟨trivial,⟨trivial,⟨trivial,⟨trivial,⟨trivial,trivial⟩⟩⟩⟩⟩⟩⟩⟩ (by simp) ?_
   clear hr
   try cbv
   exact AA (m3,(cm18,l19,true)) [5,7] [.ext 0,.ext 1,.ext 2,.ext 3,.loc 864] 1088 ⟨by omega,h⟩ (by cbv)
  replace h:=FR h
  obtain⟨cm25,l26,b27,z28,s29,l30,b31,l32,hp,h⟩:=h
  obtain rfl:=Option.some.inj hp
  clear hp
  refine Lo hM hI [.loc 1024,.ext 3,.ext 0,.ext 1,.ext 2,.loc 864,.loc 992,.loc 993] [(3,.v (.c (.ptr (.ext 3) 0))),(7,.v (.c (.ptr (.loc 864) 0)))] rfl ⟨rfl,⟨rfl,trivial⟩⟩ ((ih _ (by omega)).2.1 hr (fun r p n=>r= .t []/\p=[.rnd Cm [(3,.v (.c (.ptr (.ext 1) 0))),(7,.v (.c (.ptr (.ext 5) 0)))],.cells [.fn 36 [.ext 2,.ext 4,.ext 1]],.cells [.map (.ext 3)],.map 94 3 cm25,.cells [.d (.list true 16 l26)],.cells [.d (.bool b27)],.cells [.d (.int .u8 z28),.d (.str s29),.d (.list true 3 l30),.d (.bool b31)],.cells [.d (.list true 16 l32)]]/\n=[]) ⟨rfl,rfl,rfl⟩:AW _ _ _ _ _ (.t []) [.rnd Cm [(3,.v (.c (.ptr (.ext 1) 0))),(7,.v (.c (.ptr (.ext 5) 0)))],.cells [.fn 36 [.ext 2,.ext 4,.ext 1]],.cells [.map (.ext 3)],.map 94 3 cm25,.cells [.d (.list true 16 l26)],.cells [.d (.bool b27)],.cells [.d (.int .u8 z28),.d (.str s29),.d (.list true 3 l30),.d (.bool b31)],.cells [.d (.list true 16 l32)]] []) rfl (by simp) ⟨rfl,⟨rfl,⟨rfl,⟨rfl,⟨rfl,⟨rfl,⟨rfl,⟨rfl,trivial⟩⟩⟩⟩⟩⟩⟩⟩ ⟨trivial,⟨trivial,⟨trivial,⟨trivial,⟨trivial,⟨trivial,⟨trivial,⟨trivial,trivial⟩⟩⟩⟩⟩⟩⟩⟩ (by simp) ?_
  clear hr
  try cbv
  exact AA (m3,(cm25,l26,b27)) [5,7] [.ext 0,.ext 1,.ext 2,.ext 3,.loc 864] 1088 ⟨by omega,h⟩ (by cbv)
 clear h
 rintro⟨m4,cm35,l36,b37⟩ ⟨hm4,h⟩
 replace hm4:m4<=m3:=hm4
 obtain _ | m4:=m4
 ·replace h:Da 0 cm35 l36 b37=some (r1,r2,r3):=h
  rw[Da]at h
  cases h
 replace h:Da (m4+1) cm35 l36 b37=some (r1,r2,r3):=h
 rw[Da]at h
 try cbv
 refine AB ?_
 try cbv
 obtain⟨rfl,rfl,rfl⟩:=Pd h
 refine AF ?_
 try cbv
 exact⟨[],rfl,rfl,⟨rfl,⟨rfl,⟨rfl,⟨rfl,trivial⟩⟩⟩⟩,trivial,trivial⟩
theorem cQ (n:Nat):∀⦃z1 s2 l3 b4 cm5 l6 r1 r2 r3⦄,Rk n z1 s2 l3 b4 cm5 l6=some (r1,r2,r3)->
  AW Tryz.prog inv 36 [.d (.agg [.int .u8 z1,.str s2,.list true 3 l3,.bool b4]),.c (.ptr (.ext 0) 0),.c (.ptr (.ext 2) 0),.c (.ptr (.ext 3) 0)] [.cells [.map (.ext 1)],.map 94 3 cm5,.cells [.d (.list true 16 l6)],.cells [.fn 36 [.ext 0,.ext 2,.ext 3]]] (.v (.d (.bool r1))) [.cells [.map (.ext 1)],.map 94 3 r2,.cells [.d (.list true 16 r3)],.cells [.fn 36 [.ext 0,.ext 2,.ext 3]]] []:=(YZ n).2.2
def XL (n:Nat) (z1:Int):Option (Bool):=
 (if (97:Int)<=z1 then (if z1<=(122:Int)then some true else some false)else some false)
theorem Zq (n:Nat):∀⦃z1 r1⦄,XL n z1=some r1->
    AW Tryz.prog inv 68 [.d (.int .u8 z1)] [] (.v (.d (.bool r1))) [] []:=by
 intro z1 r1 h
 unfold XL at h
 refine AW.of Ab AO Bp Tryz.func68 rfl (by kernel_rfl) rfl rfl rfl (fun M hM hI=>?_)
 try cbv
 refine AB ?_
 try cbv
 refine AB ?_
 try cbv
 refine BJ (fun e=>?_) (fun e=>?_)
 ·replace h:=AJ e h
  clear e
  try cbv
  refine BJ (fun e=>?_) (fun e=>?_)
  ·replace h:=AJ e h
   clear e
   try cbv
   obtain rfl:=Option.some.inj h
   refine AF ?_
   try cbv
   exact⟨[],by trivial⟩
  replace h:=AK (Int.not_le.2 e) h
  clear e
  try cbv
  obtain rfl:=Option.some.inj h
  refine AF ?_
  try cbv
  exact⟨[],by trivial⟩
 replace h:=AK (Int.not_le.2 e) h
 clear e
 try cbv
 obtain rfl:=Option.some.inj h
 refine AF ?_
 try cbv
 exact⟨[],by trivial⟩
def XM (n:Nat) (z1:Int):Option (Bool):=
 (if (65:Int)<=z1 then (if z1<=(90:Int)then some true else some false)else some false)
theorem Zr (n:Nat):∀⦃z1 r1⦄,XM n z1=some r1->
    AW Tryz.prog inv 69 [.d (.int .u8 z1)] [] (.v (.d (.bool r1))) [] []:=by
 intro z1 r1 h
 unfold XM at h
 refine AW.of Ab AO Bp Tryz.func69 rfl (by kernel_rfl) rfl rfl rfl (fun M hM hI=>?_)
 try cbv
 refine AB ?_
 try cbv
 refine AB ?_
 try cbv
 refine BJ (fun e=>?_) (fun e=>?_)
 ·replace h:=AJ e h
  clear e
  try cbv
  refine BJ (fun e=>?_) (fun e=>?_)
  ·replace h:=AJ e h
   clear e
   try cbv
   obtain rfl:=Option.some.inj h
   refine AF ?_
   try cbv
   exact⟨[],by trivial⟩
  replace h:=AK (Int.not_le.2 e) h
  clear e
  try cbv
  obtain rfl:=Option.some.inj h
  refine AF ?_
  try cbv
  exact⟨[],by trivial⟩
 replace h:=AK (Int.not_le.2 e) h
 clear e
 try cbv
 obtain rfl:=Option.some.inj h
 refine AF ?_
 try cbv
 exact⟨[],by trivial⟩
def XN (n:Nat) (z1:Int):Option (Bool):=
 (if (48:Int)<=z1 then (if z1<=(57:Int)then some true else some false)else some false)
theorem Zs (n:Nat):∀⦃z1 r1⦄,XN n z1=some r1->
    AW Tryz.prog inv 74 [.d (.int .u8 z1)] [] (.v (.d (.bool r1))) [] []:=by
 intro z1 r1 h
 unfold XN at h
 refine AW.of Ab AO Bp Tryz.func74 rfl (by kernel_rfl) rfl rfl rfl (fun M hM hI=>?_)
 try cbv
 refine AB ?_
 try cbv
 refine AB ?_
 try cbv
 refine BJ (fun e=>?_) (fun e=>?_)
 ·replace h:=AJ e h
  clear e
  try cbv
  refine BJ (fun e=>?_) (fun e=>?_)
  ·replace h:=AJ e h
   clear e
   try cbv
   obtain rfl:=Option.some.inj h
   refine AF ?_
   try cbv
   exact⟨[],by trivial⟩
  replace h:=AK (Int.not_le.2 e) h
  clear e
  try cbv
  obtain rfl:=Option.some.inj h
  refine AF ?_
  try cbv
  exact⟨[],by trivial⟩
 replace h:=AK (Int.not_le.2 e) h
 clear e
 try cbv
 obtain rfl:=Option.some.inj h
 refine AF ?_
 try cbv
 exact⟨[],by trivial⟩
def Ya (n:Nat) (z1:Int):Option (Bool):=
 bO1 (XL n z1) fun b2=>(if b2=true then some true else bO1 (XM n z1) fun b3=>(if b3=true then some true else bO1 (XN n z1) fun b4=>(if b4=true then some true else (if z1=(95:Int)then some true else some false))))
theorem cS (n:Nat):∀⦃z1 r1⦄,Ya n z1=some r1->
    AW Tryz.prog inv 70 [.d (.int .u8 z1)] [] (.v (.d (.bool r1))) [] []:=by
 intro z1 r1 h
 unfold Ya at h
 refine AW.of Ab AO Bp Tryz.func70 rfl (by kernel_rfl) rfl rfl rfl (fun M hM hI=>?_)
 try cbv
 refine AB ?_
 try cbv
 refine AB ?_
 try cbv
 replace h:=AG h
 obtain⟨b2,hr,h⟩:=h
 refine AD rfl rfl ?_
 try cbv
 refine AE hM hI (Zq _ hr) rfl ?_
 clear hr
 try cbv
 cases b2
 rotate_left
 ·replace h:=Aq h
  try cbv
  obtain rfl:=Option.some.inj h
  refine AF ?_
  try cbv
  exact⟨[],by trivial⟩
 replace h:=Ar h
 try cbv
 replace h:=AG h
 obtain⟨b3,hr,h⟩:=h
 refine AD rfl rfl ?_
 try cbv
 refine AE hM hI (Zr _ hr) rfl ?_
 clear hr
 try cbv
 cases b3
 rotate_left
 ·replace h:=Aq h
  try cbv
  obtain rfl:=Option.some.inj h
  refine AF ?_
  try cbv
  exact⟨[],by trivial⟩
 replace h:=Ar h
 try cbv
 replace h:=AG h
 obtain⟨b4,hr,h⟩:=h
 refine AD rfl rfl ?_
 try cbv
 refine AE hM hI (Zs _ hr) rfl ?_
 clear hr
 try cbv
 cases b4
 ·replace h:=Ar h
  try cbv
  refine Ah (fun e=>?_) (fun e=>?_)
  ·replace h:=AJ e h
   clear e
   try cbv
   obtain rfl:=Option.some.inj h
   refine AF ?_
   try cbv
   exact⟨[],by trivial⟩
  replace h:=AK e h
  clear e
  try cbv
  obtain rfl:=Option.some.inj h
  refine AF ?_
  try cbv
  exact⟨[],by trivial⟩
 replace h:=Aq h
 try cbv
 obtain rfl:=Option.some.inj h
 refine AF ?_
 try cbv
 exact⟨[],by trivial⟩
mutual
def DV:Nat->BA->Int->Option (Int)
 | 0,_,_=>none
 | n+1,s1,z2=>
  Jh s1 fun z3=>(if z2<z3 then NX s1 z2 fun z4=>bO1 (Ya n z4) fun b5=>Dq n s1 z2 b5 else Dq n s1 z2 false)
def Dq:Nat->BA->Int->Bool->Option (Int)
 | 0,_,_,_=>none
 | n+1,s1,z2,b6=>
  (if b6=true then Al (IntKind.wrap .i64 (z2+1)) fun z7=>DV n s1 z7 else some z2)
end
def Hk (n:Nat) (s1:BA):Option (Int):=
 DV n s1 (0:Int)
theorem UM (n:Nat):∀⦃s1 r1⦄,Hk n s1=some r1->
    AW Tryz.prog inv 66 [.d (.str s1),.c (.fn 70 [])] [] (.v (.d (.int .i64 r1))) [] []:=by
 intro s1 r1 h
 unfold Hk at h
 refine AW.of Ab AO Bp Tryz.func66 rfl (by kernel_rfl) rfl rfl rfl (fun M hM hI=>?_)
 try cbv
 refine AB ?_
 try cbv
 refine AB ?_
 try cbv
 refine AB ?_
 try cbv
 refine BF (T:=Nat×Int) [0,1,4,5] [] 64 (fun t=>⟨[sS 0 s1,(1,.v (.c (.fn 70 []))),sI 4 0,sI 5 t.2],[],64⟩)
   (fun t=>t.1<=n/\DV t.1 s1 t.2=some r1) (fun t=>t.1) (n,(0:Int)) ⟨Nat.le_refl _,h⟩ (by cbv) ?_
 clear h
 rintro⟨m1,z2⟩ ⟨hm1,h⟩
 replace hm1:m1<=n:=hm1
 obtain _ | m1:=m1
 ·replace h:DV 0 s1 z2=some r1:=h
  rw[DV]at h
  cases h
 replace h:DV (m1+1) s1 z2=some r1:=h
 rw[DV]at h
 try cbv
 refine AB ?_
 try cbv
 refine AH 16 [0,1,4,5,16] [] 416 (fun m b=>m<=m1/\Dq m s1 z2 b=some r1) ?_ ?_
 ·try cbv
  replace h:=Bu M h
  obtain⟨z3,hz,h⟩:=h
  refine⟨z3,hz,?_⟩
  clear hz
  try cbv
  refine Aa (fun e=>?_) (fun e=>?_)
  ·replace h:=AJ e h
   clear e
   try cbv
   replace h:=Cg h
   obtain⟨z4,hz,h⟩:=h
   refine⟨z4,hz,?_⟩
   clear hz
   try cbv
   replace h:=AG h
   obtain⟨b5,hr,h⟩:=h
   refine AD rfl rfl ?_
   try cbv
   refine AE hM hI (cS _ hr) rfl ?_
   clear hr
   try cbv
   exact AA (m1,b5) [0,1,4,5,16] [] 416 ⟨by omega,h⟩ (by cbv)
  replace h:=AK (Int.not_lt.2 e) h
  clear e
  try cbv
  exact AA (m1,false) [0,1,4,5,16] [] 416 ⟨by omega,h⟩ (by cbv)
 clear h
 rintro⟨m2,b6⟩ ⟨hm2,h⟩
 try cbv
 replace hm2:m2<=m1:=hm2
 obtain _ | m2:=m2
 ·replace h:Dq 0 s1 z2 b6=some r1:=h
  rw[Dq]at h
  cases h
 replace h:Dq (m2+1) s1 z2 b6=some r1:=h
 rw[Dq]at h
 try cbv
 cases b6
 ·replace h:=Ar h
  try cbv
  refine AB ?_
  try cbv
  obtain rfl:=Option.some.inj h
  refine AF ?_
  try cbv
  exact⟨[],by trivial⟩
 replace h:=Aq h
 try cbv
 replace h:=AN h
 obtain⟨z7,hz,h⟩:=h
 refine⟨z7,hz,?_⟩
 clear hz
 try cbv
 exact An (m2,z7) [0,1,4,5] [] 64 ⟨by omega,h⟩ (Nat.lt_succ_of_le (by omega)) (by cbv)
mutual
def Hl:Nat->LD->Int->Int->LD->Option LD
 | 0,_,_,_,_=>none
 | n+1,l1,z2,z3,l4=>
  (if z3<z2 then JL n l1 z2 z3 l4 true else JL n l1 z2 z3 l4 false)
def JL:Nat->LD->Int->Int->LD->Bool->Option LD
 | 0,_,_,_,_,_=>none
 | n+1,l1,z2,z3,l4,b5=>
  (if b5=true then BT l1 z3 fun x6=>B7 x6 fun s7=>Al (IntKind.wrap .i64 (z3+1)) fun z8=>IE (.str s7) [.int .i64 z8] l4 fun l9=>Al (IntKind.wrap .i64 (z3+1)) fun z10=>Hl n l1 z2 z10 l9 else some l4)
end
def Yb (n:Nat):Option LD:=
 bO1 (To n Bc) fun l1=>Ad l1 fun z2=>Hl n l1 z2 (0:Int) ([]:LD)
theorem cT (n:Nat):∀⦃r1⦄,Yb n=some r1->
    AW Tryz.prog inv 96 [] [] (.v (.c (.ow (.loc 0)))) [] [.tree (.fmap false) true 2 r1 none]:=by
 intro r1 h
 unfold Yb at h
 refine AW.of Ab AO Bp Tryz.func96 rfl (by kernel_rfl) rfl rfl rfl (fun M hM hI=>?_)
 try cbv
 refine AB ?_
 try cbv
 refine AB ?_
 try cbv
 refine AB ?_
 try cbv
 refine AB ?_
 try cbv
 replace h:=AG h
 obtain⟨l1,hr,h⟩:=h
 refine AD rfl rfl ?_
 try cbv
 refine AE hM hI (ZU _ hr) rfl ?_
 clear hr
 try cbv
 replace h:=AP M h
 obtain⟨z2,hz,h⟩:=h
 refine⟨z2,hz,?_⟩
 clear hz
 try cbv
 refine FE (T:=Nat×Int×LD) [] [] [0,1,5,6,7] [.loc 32] 192 (fun t=>⟨[(0,.v (.c (.nilm))),(1,.v (.c (.ow (.loc 32)))),sF 5 1 l1,sI 6 z2,sI 7 t.2.1],[(.loc 32,.tree (.fmap false) true 2 t.2.2 none)],192⟩)
   (fun t=>t.1<=n/\Hl t.1 l1 z2 t.2.1 t.2.2=some r1) (fun t=>t.1) (n,((0:Int),([]:LD))) ⟨Nat.le_refl _,h⟩ (by cbv) ?_
 clear h
 rintro⟨m1,z3,l4⟩ ⟨hm1,h⟩
 replace hm1:m1<=n:=hm1
 obtain _ | m1:=m1
 ·replace h:Hl 0 l1 z2 z3 l4=some r1:=h
  rw[Hl]at h
  cases h
 replace h:Hl (m1+1) l1 z2 z3 l4=some r1:=h
 rw[Hl]at h
 try cbv
 refine AH 8 [0,1,5,6,7,8] [.loc 32] 224 (fun m b=>m<=m1/\JL m l1 z2 z3 l4 b=some r1) ?_ ?_
 ·try cbv
  refine Aa (fun e=>?_) (fun e=>?_)
  ·replace h:=AJ e h
   clear e
   try cbv
   exact AA (m1,true) [0,1,5,6,7,8] [.loc 32] 224 ⟨by omega,h⟩ (by cbv)
  replace h:=AK (Int.not_lt.2 e) h
  clear e
  try cbv
  exact AA (m1,false) [0,1,5,6,7,8] [.loc 32] 224 ⟨by omega,h⟩ (by cbv)
 clear h
 rintro⟨m2,b5⟩ ⟨hm2,h⟩
 try cbv
 replace hm2:m2<=m1:=hm2
 obtain _ | m2:=m2
 ·replace h:JL 0 l1 z2 z3 l4 b5=some r1:=h
  rw[JL]at h
  cases h
 replace h:JL (m2+1) l1 z2 z3 l4 b5=some r1:=h
 rw[JL]at h
 try cbv
 refine AB ?_
 try cbv
 cases b5
 ·replace h:=Ar h
  try cbv
  refine AB ?_
  try cbv
  obtain rfl:=Option.some.inj h
  refine AF ?_
  try cbv
  exact⟨[.loc 32],rfl,rfl,trivial,⟨rfl,trivial⟩,trivial⟩
 replace h:=Aq h
 try cbv
 refine AB ?_
 try cbv
 refine AB ?_
 try cbv
 replace h:=Ae h
 obtain⟨x6,⟨hx0,hx⟩,h⟩:=h
 refine⟨x6,hx0,hx,?_⟩
 clear hx0 hx
 replace h:=B3 h
 obtain⟨s7,rfl,h⟩:=h
 try cbv
 replace h:=AN h
 obtain⟨z8,hz,h⟩:=h
 refine⟨z8,hz,?_⟩
 clear hz
 try cbv
 replace h:=CW h
 obtain⟨l9,hz,h⟩:=h
 refine⟨l9,(M.lock_iff _).2 hz,?_⟩
 clear hz
 try cbv
 replace h:=AN h
 obtain⟨z10,hz,h⟩:=h
 refine⟨z10,hz,?_⟩
 clear hz
 try cbv
 refine EI (m2,(z10,l9)) [] [] [0,1,5,6,7] [.loc 32] 192 ⟨by omega,h⟩ (Nat.lt_succ_of_le (by omega)) ?_
 try cbv
def UN (n:Nat) (s1:BA):Option (Bool):=
 bO1 (Yb n) fun l2=>(findF false (.str s1) l2 (fun x3=>OC x3 fun z4=>(if (0:Int)<z4 then some true else some false)) (some false))
theorem Zt (n:Nat):∀⦃s1 r1⦄,UN n s1=some r1->
    AW Tryz.prog inv 71 [.d (.str s1)] [] (.v (.d (.bool r1))) [] []:=by
 intro s1 r1 h
 unfold UN at h
 refine AW.of Ab AO Bp Tryz.func71 rfl (by kernel_rfl) rfl rfl rfl (fun M hM hI=>?_)
 try cbv
 refine AB ?_
 try cbv
 refine AB ?_
 try cbv
 replace h:=AG h
 obtain⟨l2,hr,h⟩:=h
 refine AD rfl rfl ?_
 try cbv
 refine AI hM hI [] (cT _ hr) rfl (by simp) trivial trivial (by simp) ?_
 clear hr
 try cbv
 replace h:=Jy h
 rcases h with⟨x3,hz,h⟩ | ⟨hz,h⟩
 ·replace h:=Qi h
  obtain⟨z4,rfl,h⟩:=h
  refine⟨some _,(M.lock_iff _).2 hz,?_⟩
  clear hz
  try cbv
  refine Aa (fun e=>?_) (fun e=>?_)
  ·replace h:=AJ e h
   clear e
   try cbv
   obtain rfl:=Option.some.inj h
   refine AF ?_
   try cbv
   exact⟨[],by trivial⟩
  replace h:=AK (Int.not_lt.2 e) h
  clear e
  try cbv
  obtain rfl:=Option.some.inj h
  refine AF ?_
  try cbv
  exact⟨[],by trivial⟩
 refine⟨none,(M.lock_iff _).2 hz,?_⟩
 clear hz
 try cbv
 refine TL (by decide) ?_
 try cbv
 obtain rfl:=Option.some.inj h
 refine AF ?_
 try cbv
 exact⟨[],by trivial⟩
def Rl (n:Nat) (s1:BA):Option (Bool):=
 (if s1=ByteArray.empty then some false else Jh s1 fun z2=>(if z2<=(16:Int)then NX s1 (0:Int) fun z3=>bO1 (XM n z3) fun b4=>(if b4=true then bO1 (Hk n s1) fun z5=>Jh s1 fun z6=>(if z5=z6 then bO1 (UN n s1) fun b7=>Ak (!b7) fun b8=>some b8 else some false)else some false)else some false))
theorem Yc (n:Nat):∀⦃s1 r1⦄,Rl n s1=some r1->
    AW Tryz.prog inv 97 [.d (.str s1),.c (.fn 69 [])] [] (.v (.d (.bool r1))) [] []:=by
 intro s1 r1 h
 unfold Rl at h
 refine AW.of Ab AO Bp Tryz.func97 rfl (by kernel_rfl) rfl rfl rfl (fun M hM hI=>?_)
 try cbv
 refine AB ?_
 try cbv
 refine AB ?_
 try cbv
 refine Bb (fun e=>?_) (fun e=>?_)
 ·replace h:=AJ (BC.1 e) h
  clear e
  try cbv
  obtain rfl:=Option.some.inj h
  refine AF ?_
  try cbv
  exact⟨[],by trivial⟩
 replace h:=AK (BI.1 e) h
 clear e
 try cbv
 replace h:=Bu M h
 obtain⟨z2,hz,h⟩:=h
 refine⟨z2,hz,?_⟩
 clear hz
 try cbv
 refine BJ (fun e=>?_) (fun e=>?_)
 rotate_left
 ·replace h:=AK (Int.not_le.2 e) h
  clear e
  try cbv
  obtain rfl:=Option.some.inj h
  refine AF ?_
  try cbv
  exact⟨[],by trivial⟩
 replace h:=AJ e h
 clear e
 try cbv
 replace h:=Cg h
 obtain⟨z3,hz,h⟩:=h
 refine⟨z3,hz,?_⟩
 clear hz
 try cbv
 replace h:=AG h
 obtain⟨b4,hr,h⟩:=h
 refine AD rfl rfl ?_
 try cbv
 refine AE hM hI (Zr _ hr) rfl ?_
 clear hr
 try cbv
 cases b4
 ·replace h:=Ar h
  try cbv
  obtain rfl:=Option.some.inj h
  refine AF ?_
  try cbv
  exact⟨[],by trivial⟩
 replace h:=Aq h
 try cbv
 replace h:=AG h
 obtain⟨z5,hr,h⟩:=h
 refine AD rfl rfl ?_
 try cbv
 refine AE hM hI (UM _ hr) rfl ?_
 clear hr
 try cbv
 replace h:=Bu M h
 obtain⟨z6,hz,h⟩:=h
 refine⟨z6,hz,?_⟩
 clear hz
 try cbv
 refine Ah (fun e=>?_) (fun e=>?_)
 ·replace h:=AJ e h
  clear e
  try cbv
  replace h:=AG h
  obtain⟨b7,hr,h⟩:=h
  refine AD rfl rfl ?_
  try cbv
  refine AE hM hI (Zt _ hr) rfl ?_
  clear hr
  try cbv
  replace h:=AL h
  obtain⟨b8,hz,h⟩:=h
  refine⟨b8,AU hz,?_⟩
  clear hz
  try cbv
  obtain rfl:=Option.some.inj h
  refine AF ?_
  try cbv
  exact⟨[],by trivial⟩
 replace h:=AK e h
 clear e
 try cbv
 obtain rfl:=Option.some.inj h
 refine AF ?_
 try cbv
 exact⟨[],by trivial⟩
def Yd (n:Nat) (s1:BA):Option (Bool):=
 bO1 (Rl n s1) fun b2=>some b2
theorem bJ (n:Nat):∀⦃s1 r1⦄,Yd n s1=some r1->
    AW Tryz.prog inv 73 [.d (.str s1)] [] (.v (.d (.bool r1))) [] []:=by
 intro s1 r1 h
 unfold Yd at h
 refine AW.of Ab AO Bp Tryz.func73 rfl (by kernel_rfl) rfl rfl rfl (fun M hM hI=>?_)
 try cbv
 refine AB ?_
 try cbv
 refine AB ?_
 try cbv
 replace h:=AG h
 obtain⟨b2,hr,h⟩:=h
 refine AD rfl rfl ?_
 try cbv
 refine AE hM hI (Yc _ hr) rfl ?_
 clear hr
 try cbv
 obtain rfl:=Option.some.inj h
 refine AF ?_
 try cbv
 exact⟨[],by trivial⟩
mutual
def ZB:Nat->Int->BA->LD->Int->Option (Bool×Int)
 | 0,_,_,_,_=>none
 | n+1,z1,s2,l3,z4=>
  Al (IntKind.wrap .i64 (z4 - 1)) fun z5=>bO1 (UO n z1 s2 l3 z5) fun b6=>some (b6,z4)
def Hm:Nat->LD->Int->Int->Int->Option (Bool×Int)
 | 0,_,_,_,_=>none
 | n+1,l1,z2,z4,z5=>
  Ad l1 fun z6=>(if z4<z6 then (if z4<z2 then Gy n l1 z2 z4 z5 true else Gy n l1 z2 z4 z5 false)else Gy n l1 z2 z4 z5 false)
def Gy:Nat->LD->Int->Int->Int->Bool->Option (Bool×Int)
 | 0,_,_,_,_,_=>none
 | n+1,l1,z2,z4,z5,b7=>
  (if b7=true then BT l1 z4 fun x8=>Cl x8 fun z9 s10 l11=>bO2 (ZB n z9 s10 l11 z5) fun b12 z13=>Ak (!b12) fun b14=>(if b14=true then some (false,z13)else Al (IntKind.wrap .i64 (z4+1)) fun z15=>Hm n l1 z2 z15 z13)else Ad l1 fun z16=>(if z16<=z2 then some (true,z5)else some (false,z5)))
def Ye:Nat->LD->Int->Int->Option (Bool×Int)
 | 0,_,_,_=>none
 | n+1,l1,z2,z3=>
  Hm n l1 z2 (0:Int) z3
def Hn:Nat->Int->BA->LD->Int->Bool->Option (Bool)
 | 0,_,_,_,_,_=>none
 | n+1,z1,s2,l3,z4,b5=>
  (if z1=(1:Int)then Ho n z1 s2 l3 z4 b5 true else Ho n z1 s2 l3 z4 b5 false)
def Ho:Nat->Int->BA->LD->Int->Bool->Bool->Option (Bool)
 | 0,_,_,_,_,_,_=>none
 | n+1,z1,s2,l3,z4,b5,b6=>
  (if b6=true then Ef n z1 s2 l3 z4 b5 true else (if z1=(2:Int)then Hp n z1 s2 l3 z4 b5 true else Hp n z1 s2 l3 z4 b5 false))
def Hp:Nat->Int->BA->LD->Int->Bool->Bool->Option (Bool)
 | 0,_,_,_,_,_,_=>none
 | n+1,z1,s2,l3,z4,b5,b7=>
  (if b7=true then Ef n z1 s2 l3 z4 b5 true else (if z1=(3:Int)then Hq n z1 s2 l3 z4 b5 true else Hq n z1 s2 l3 z4 b5 false))
def Hq:Nat->Int->BA->LD->Int->Bool->Bool->Option (Bool)
 | 0,_,_,_,_,_,_=>none
 | n+1,z1,s2,l3,z4,b5,b8=>
  (if b8=true then Ef n z1 s2 l3 z4 b5 true else (if z1=(10:Int)then Ef n z1 s2 l3 z4 b5 true else Ef n z1 s2 l3 z4 b5 false))
def Ef:Nat->Int->BA->LD->Int->Bool->Bool->Option (Bool)
 | 0,_,_,_,_,_,_=>none
 | n+1,z1,s2,l3,z4,b5,b9=>
  (if b9=true then C6 n z1 l3 z4 (0:Int) b5 else (if z1=(4:Int)then JM n z1 s2 l3 z4 b5 true else JM n z1 s2 l3 z4 b5 false))
def JM:Nat->Int->BA->LD->Int->Bool->Bool->Option (Bool)
 | 0,_,_,_,_,_,_=>none
 | n+1,z1,s2,l3,z4,b5,b10=>
  (if b10=true then bO1 (Yd n s2) fun b11=>C6 n z1 l3 z4 (0:Int) b11 else C6 n z1 l3 z4 (1:Int) b5)
def C6:Nat->Int->LD->Int->Int->Bool->Option (Bool)
 | 0,_,_,_,_,_=>none
 | n+1,z1,l3,z4,z12,b13=>
  (if (0:Int)<z4 then (if (1:Int)<=z1 then (if z1<=(14:Int)then (if b13=true then Ad l3 fun z14=>(if z14=z12 then bO2 (Ye n l3 (1:Int) z4) fun b15 z16=>some b15 else some false)else some false)else some false)else some false)else some false)
def UO:Nat->Int->BA->LD->Int->Option (Bool)
 | 0,_,_,_,_=>none
 | n+1,z1,s2,l3,z4=>
  (if s2=ByteArray.empty then Hn n z1 s2 l3 z4 true else Hn n z1 s2 l3 z4 false)
end
theorem cU (n:Nat):(∀⦃z1 s2 l3 z4 r1 r2⦄,ZB n z1 s2 l3 z4=some (r1,r2)->
    AW Tryz.prog inv 93 [.d (.agg [.int .u8 z1,.str s2,.list true 3 l3]),.c (.ptr (.ext 0) 0)] [.cells [.d (.int .i64 z4)]] (.v (.d (.bool r1))) [.cells [.d (.int .i64 r2)]] [])/\
    (∀⦃l1 z2 z3 r1 r2⦄,Ye n l1 z2 z3=some (r1,r2)->
    AW Tryz.prog inv 92 [.d (.list true 3 l1),.d (.int .i64 z2),.c (.fn 93 [.ext 0])] [.cells [.d (.int .i64 z3)]] (.v (.d (.bool r1))) [.cells [.d (.int .i64 r2)]] [])/\
    (∀⦃z1 s2 l3 z4 r1⦄,UO n z1 s2 l3 z4=some r1->
    AW Tryz.prog inv 63 [.d (.agg [.int .u8 z1,.str s2,.list true 3 l3]),.d (.int .i64 z4)] [] (.v (.d (.bool r1))) [] []):=by
 induction n using Nat.strongRecOn with | _ n ih=>
 obtain _ | n:=n
 ·refine⟨?_,?_,?_⟩
  ·intro z1 s2 l3 z4 r1 r2 h
   cases (show (none:Option _)=some _ from h)
  ·intro l1 z2 z3 r1 r2 h
   cases (show (none:Option _)=some _ from h)
  intro z1 s2 l3 z4 r1 h
  cases (show (none:Option _)=some _ from h)
 refine⟨?_,?_,?_⟩
 ·intro z1 s2 l3 z4 r1 r2 h
  rw[ZB]at h
  refine AW.of Ab AO Bp Tryz.func93 rfl (by kernel_rfl) rfl rfl rfl (fun M hM hI=>?_)
  try cbv
  refine AB ?_
  try cbv
  refine AB ?_
  try cbv
  replace h:=AN h
  obtain⟨z5,hz,h⟩:=h
  refine⟨z5,hz,?_⟩
  clear hz
  try cbv
  replace h:=AG h
  obtain⟨b6,hr,h⟩:=h
  refine AD rfl rfl ?_
  try cbv
  refine AE hM hI ((ih _ (by omega)).2.2 hr) rfl ?_
  clear hr
  try cbv
  obtain⟨rfl,rfl⟩:=En h
  refine AF ?_
  try cbv
  exact⟨[],rfl,rfl,⟨rfl,trivial⟩,trivial,trivial⟩
 ·intro l1 z2 z3 r1 r2 h
  rw[Ye]at h
  refine AW.of Ab AO Bp Tryz.func92 rfl (by kernel_rfl) rfl rfl rfl (fun M hM hI=>?_)
  try cbv
  refine AB ?_
  try cbv
  refine AB ?_
  try cbv
  refine AB ?_
  try cbv
  refine BF (T:=Nat×Int×Int) [0,1,2,6,7] [.ext 0] 64 (fun t=>⟨[sT 0 3 l1,sI 1 z2,(2,.v (.c (.fn 93 [.ext 0]))),sB 6 false,sI 7 t.2.1],[(.ext 0,.cells [.d (.int .i64 t.2.2)])],64⟩)
    (fun t=>t.1<=n/\Hm t.1 l1 z2 t.2.1 t.2.2=some (r1,r2)) (fun t=>t.1) (n,((0:Int),z3)) ⟨Nat.le_refl _,h⟩ (by cbv) ?_
  clear h
  rintro⟨m1,z4,z5⟩ ⟨hm1,h⟩
  replace hm1:m1<=n:=hm1
  obtain _ | m1:=m1
  ·replace h:Hm 0 l1 z2 z4 z5=some (r1,r2):=h
   rw[Hm]at h
   cases h
  replace h:Hm (m1+1) l1 z2 z4 z5=some (r1,r2):=h
  rw[Hm]at h
  try cbv
  refine AB ?_
  try cbv
  refine Aw (T:=Nat×Bool) (fun t=>⟨[sT 0 3 l1,sI 1 z2,(2,.v (.c (.fn 93 [.ext 0]))),sB 6 false,sI 7 z4,sB 16 t.2],[(.ext 0,.cells [.d (.int .i64 z5)])],352⟩) (fun t=>t.1<=m1/\Gy t.1 l1 z2 z4 z5 t.2=some (r1,r2)) ?_ ?_
  ·try cbv
   replace h:=AP M h
   obtain⟨z6,hz,h⟩:=h
   refine⟨z6,hz,?_⟩
   clear hz
   try cbv
   refine Aa (fun e=>?_) (fun e=>?_)
   ·replace h:=AJ e h
    clear e
    try cbv
    refine Aa (fun e=>?_) (fun e=>?_)
    ·replace h:=AJ e h
     clear e
     try cbv
     exact AA (m1,true) [0,1,2,6,7,16] [.ext 0] 352 ⟨by omega,h⟩ (by cbv)
    replace h:=AK (Int.not_lt.2 e) h
    clear e
    try cbv
    exact AA (m1,false) [0,1,2,6,7,16] [.ext 0] 352 ⟨by omega,h⟩ (by cbv)
   replace h:=AK (Int.not_lt.2 e) h
   clear e
   try cbv
   exact AA (m1,false) [0,1,2,6,7,16] [.ext 0] 352 ⟨by omega,h⟩ (by cbv)
  clear h
  rintro⟨m2,b7⟩ ⟨hm2,h⟩
  replace hm2:m2<=m1:=hm2
  obtain _ | m2:=m2
  ·replace h:Gy 0 l1 z2 z4 z5 b7=some (r1,r2):=h
   rw[Gy]at h
   cases h
  replace h:Gy (m2+1) l1 z2 z4 z5 b7=some (r1,r2):=h
  rw[Gy]at h
  try cbv
  cases b7
  ·replace h:=Ar h
   try cbv
   refine AB ?_
   try cbv
   replace h:=AP M h
   obtain⟨z16,hz,h⟩:=h
   refine⟨z16,hz,?_⟩
   clear hz
   try cbv
   refine BJ (fun e=>?_) (fun e=>?_)
   ·replace h:=AJ e h
    clear e
    try cbv
    obtain⟨rfl,rfl⟩:=En h
    refine AF ?_
    try cbv
    exact⟨[],rfl,rfl,⟨rfl,trivial⟩,trivial,trivial⟩
   replace h:=AK (Int.not_le.2 e) h
   clear e
   try cbv
   obtain⟨rfl,rfl⟩:=En h
   refine AF ?_
   try cbv
   exact⟨[],rfl,rfl,⟨rfl,trivial⟩,trivial,trivial⟩
  replace h:=Aq h
  try cbv
  refine AB ?_
  try cbv
  refine AB ?_
  try cbv
  replace h:=Ae h
  obtain⟨x8,⟨hx0,hx⟩,h⟩:=h
  refine⟨x8,hx0,hx,?_⟩
  clear hx0 hx
  replace h:=DE h
  obtain⟨z9,s10,l11,rfl,h⟩:=h
  try cbv
  replace h:=DT h
  obtain⟨b12,z13,hr,h⟩:=h
  refine AD rfl rfl ?_
  try cbv
  refine AI hM hI [.ext 0] ((ih _ (by omega)).1 hr) rfl (by simp) ⟨rfl,trivial⟩ ⟨trivial,trivial⟩ (by simp) ?_
  clear hr
  try cbv
  replace h:=AL h
  obtain⟨b14,hz,h⟩:=h
  refine⟨b14,AU hz,?_⟩
  clear hz
  try cbv
  cases b14
  ·replace h:=Ar h
   try cbv
   replace h:=AN h
   obtain⟨z15,hz,h⟩:=h
   refine⟨z15,hz,?_⟩
   clear hz
   try cbv
   exact An (m2,(z15,z13)) [0,1,2,6,7] [.ext 0] 64 ⟨by omega,h⟩ (Nat.lt_succ_of_le (by omega)) (by cbv)
  replace h:=Aq h
  try cbv
  refine AB ?_
  try cbv
  obtain⟨rfl,rfl⟩:=En h
  refine AF ?_
  try cbv
  exact⟨[],rfl,rfl,⟨rfl,trivial⟩,trivial,trivial⟩
 intro z1 s2 l3 z4 r1 h
 rw[UO]at h
 refine AW.of Ab AO Bp Tryz.func63 rfl (by kernel_rfl) rfl rfl rfl (fun M hM hI=>?_)
 try cbv
 refine AB ?_
 try cbv
 refine Aw (T:=Nat×Bool) (fun t=>⟨[sL 2 0,sL 3 32,sB 4 false,sI 5 1,sB 6 t.2],[(.loc 0,.cells [.d (.int .u8 z1),.d (.str s2),.d (.list true 3 l3)]),(.loc 32,.cells [.d (.int .i64 z4)])],256⟩) (fun t=>t.1<=n/\Hn t.1 z1 s2 l3 z4 t.2=some r1) ?_ ?_
 ·try cbv
  refine Bb (fun e=>?_) (fun e=>?_)
  ·replace h:=AJ (BC.1 e) h
   clear e
   try cbv
   refine drawn ?_ ?_
   ·show _=true
    kernel_rfl
   try cbv
   exact AA (n,true) [2,3,4,5,6] [.loc 0,.loc 32] 256 ⟨by omega,h⟩ (by cbv)
  replace h:=AK (BI.1 e) h
  clear e
  try cbv
  refine drawn ?_ ?_
  ·show _=true
   kernel_rfl
  try cbv
  exact AA (n,false) [2,3,4,5,6] [.loc 0,.loc 32] 256 ⟨by omega,h⟩ (by cbv)
 clear h
 rintro⟨m1,b5⟩ ⟨hm1,h⟩
 replace hm1:m1<=n:=hm1
 obtain _ | m1:=m1
 ·replace h:Hn 0 z1 s2 l3 z4 b5=some r1:=h
  rw[Hn]at h
  cases h
 replace h:Hn (m1+1) z1 s2 l3 z4 b5=some r1:=h
 rw[Hn]at h
 try cbv
 refine Aw (T:=Nat×Int×Bool) (fun t=>⟨[sL 2 0,sL 3 32,sB 4 false,sI 5 t.2.1,sB 6 t.2.2],[(.loc 0,.cells [.d (.int .u8 z1),.d (.str s2),.d (.list true 3 l3)]),(.loc 32,.cells [.d (.int .i64 z4)])],800⟩) (fun t=>t.1<=m1/\C6 t.1 z1 l3 z4 t.2.1 t.2.2=some r1) ?_ ?_
 rotate_left
 ·clear h
  rintro⟨m7,z12,b13⟩ ⟨hm7,h⟩
  replace hm7:m7<=m1:=hm7
  obtain _ | m7:=m7
  ·replace h:C6 0 z1 l3 z4 z12 b13=some r1:=h
   rw[C6]at h
   cases h
  replace h:C6 (m7+1) z1 l3 z4 z12 b13=some r1:=h
  rw[C6]at h
  try cbv
  refine AB ?_
  try cbv
  refine Aa (fun e=>?_) (fun e=>?_)
  rotate_left
  ·replace h:=AK (Int.not_lt.2 e) h
   clear e
   try cbv
   obtain rfl:=Option.some.inj h
   refine AF ?_
   try cbv
   exact⟨[],by trivial⟩
  replace h:=AJ e h
  clear e
  try cbv
  refine BJ (fun e=>?_) (fun e=>?_)
  rotate_left
  ·replace h:=AK (Int.not_le.2 e) h
   clear e
   try cbv
   obtain rfl:=Option.some.inj h
   refine AF ?_
   try cbv
   exact⟨[],by trivial⟩
  replace h:=AJ e h
  clear e
  try cbv
  refine BJ (fun e=>?_) (fun e=>?_)
  rotate_left
  ·replace h:=AK (Int.not_le.2 e) h
   clear e
   try cbv
   obtain rfl:=Option.some.inj h
   refine AF ?_
   try cbv
   exact⟨[],by trivial⟩
  replace h:=AJ e h
  clear e
  try cbv
  cases b13
  ·replace h:=Ar h
   try cbv
   obtain rfl:=Option.some.inj h
   refine AF ?_
   try cbv
   exact⟨[],by trivial⟩
  replace h:=Aq h
  try cbv
  replace h:=AP M h
  obtain⟨z14,hz,h⟩:=h
  refine⟨z14,hz,?_⟩
  clear hz
  try cbv
  refine Ah (fun e=>?_) (fun e=>?_)
  ·replace h:=AJ e h
   clear e
   try cbv
   replace h:=DT h
   obtain⟨b15,z16,hr,h⟩:=h
   refine AD rfl rfl ?_
   try cbv
   refine AI hM hI [.loc 32] ((ih _ (by omega)).2.1 hr) rfl (by simp) ⟨rfl,trivial⟩ ⟨trivial,trivial⟩ (by simp) ?_
   clear hr
   try cbv
   obtain rfl:=Option.some.inj h
   refine AF ?_
   try cbv
   exact⟨[],by trivial⟩
  replace h:=AK e h
  clear e
  try cbv
  obtain rfl:=Option.some.inj h
  refine AF ?_
  try cbv
  exact⟨[],by trivial⟩
 try cbv
 refine AB ?_
 try cbv
 refine Aw (T:=Nat×Bool) (fun t=>⟨[sL 2 0,sL 3 32,sB 4 false,sI 5 1,sB 6 b5,sU 11 z1,sB 12 t.2],[(.loc 0,.cells [.d (.int .u8 z1),.d (.str s2),.d (.list true 3 l3)]),(.loc 32,.cells [.d (.int .i64 z4)])],576⟩) (fun t=>t.1<=m1/\Ef t.1 z1 s2 l3 z4 b5 t.2=some r1) ?_ ?_
 rotate_left
 ·clear h
  rintro⟨m5,b9⟩ ⟨hm5,h⟩
  replace hm5:m5<=m1:=hm5
  obtain _ | m5:=m5
  ·replace h:Ef 0 z1 s2 l3 z4 b5 b9=some r1:=h
   rw[Ef]at h
   cases h
  replace h:Ef (m5+1) z1 s2 l3 z4 b5 b9=some r1:=h
  rw[Ef]at h
  try cbv
  cases b9
  rotate_left
  ·replace h:=Aq h
   try cbv
   exact AA (m5,((0:Int),b5)) [2,3,4,5,6] [.loc 0,.loc 32] 800 ⟨by omega,h⟩ (by cbv)
  replace h:=Ar h
  try cbv
  refine Aw (T:=Nat×Bool) (fun t=>⟨[sL 2 0,sL 3 32,sB 4 false,sI 5 1,sB 6 b5,sB 17 t.2],[(.loc 0,.cells [.d (.int .u8 z1),.d (.str s2),.d (.list true 3 l3)]),(.loc 32,.cells [.d (.int .i64 z4)])],640⟩) (fun t=>t.1<=m5/\JM t.1 z1 s2 l3 z4 b5 t.2=some r1) ?_ ?_
  ·try cbv
   refine Ah (fun e=>?_) (fun e=>?_)
   ·replace h:=AJ e h
    clear e
    try cbv
    exact AA (m5,true) [2,3,4,5,6,17] [.loc 0,.loc 32] 640 ⟨by omega,h⟩ (by cbv)
   replace h:=AK e h
   clear e
   try cbv
   exact AA (m5,false) [2,3,4,5,6,17] [.loc 0,.loc 32] 640 ⟨by omega,h⟩ (by cbv)
  clear h
  rintro⟨m6,b10⟩ ⟨hm6,h⟩
  replace hm6:m6<=m5:=hm6
  obtain _ | m6:=m6
  ·replace h:JM 0 z1 s2 l3 z4 b5 b10=some r1:=h
   rw[JM]at h
   cases h
  replace h:JM (m6+1) z1 s2 l3 z4 b5 b10=some r1:=h
  rw[JM]at h
  try cbv
  cases b10
  ·replace h:=Ar h
   try cbv
   exact AA (m6,((1:Int),b5)) [2,3,4,5,6] [.loc 0,.loc 32] 800 ⟨by omega,h⟩ (by cbv)
  replace h:=Aq h
  try cbv
  replace h:=AG h
  obtain⟨b11,hr,h⟩:=h
  refine AD rfl rfl ?_
  try cbv
  refine AE hM hI (bJ _ hr) rfl ?_
  clear hr
  try cbv
  exact AA (m6,((0:Int),b11)) [2,3,4,5,6] [.loc 0,.loc 32] 800 ⟨by omega,h⟩ (by cbv)
 try cbv
 refine Aw (T:=Nat×Bool) (fun t=>⟨[sL 2 0,sL 3 32,sB 4 false,sI 5 1,sB 6 b5,sU 11 z1,sB 12 t.2],[(.loc 0,.cells [.d (.int .u8 z1),.d (.str s2),.d (.list true 3 l3)]),(.loc 32,.cells [.d (.int .i64 z4)])],384⟩) (fun t=>t.1<=m1/\Ho t.1 z1 s2 l3 z4 b5 t.2=some r1) ?_ ?_
 ·try cbv
  refine Ah (fun e=>?_) (fun e=>?_)
  ·replace h:=AJ e h
   clear e
   try cbv
   exact AA (m1,true) [2,3,4,5,6,11,12] [.loc 0,.loc 32] 384 ⟨by omega,h⟩ (by cbv)
  replace h:=AK e h
  clear e
  try cbv
  exact AA (m1,false) [2,3,4,5,6,11,12] [.loc 0,.loc 32] 384 ⟨by omega,h⟩ (by cbv)
 clear h
 rintro⟨m2,b6⟩ ⟨hm2,h⟩
 replace hm2:m2<=m1:=hm2
 obtain _ | m2:=m2
 ·replace h:Ho 0 z1 s2 l3 z4 b5 b6=some r1:=h
  rw[Ho]at h
  cases h
 replace h:Ho (m2+1) z1 s2 l3 z4 b5 b6=some r1:=h
 rw[Ho]at h
 try cbv
 cases b6
 rotate_left
 ·replace h:=Aq h
  try cbv
  exact AA (m2,true) [2,3,4,5,6,11,12] [.loc 0,.loc 32] 576 ⟨by omega,h⟩ (by cbv)
 replace h:=Ar h
 try cbv
 refine Aw (T:=Nat×Bool) (fun t=>⟨[sL 2 0,sL 3 32,sB 4 false,sI 5 1,sB 6 b5,sU 11 z1,sB 12 t.2],[(.loc 0,.cells [.d (.int .u8 z1),.d (.str s2),.d (.list true 3 l3)]),(.loc 32,.cells [.d (.int .i64 z4)])],448⟩) (fun t=>t.1<=m2/\Hp t.1 z1 s2 l3 z4 b5 t.2=some r1) ?_ ?_
 ·try cbv
  refine Ah (fun e=>?_) (fun e=>?_)
  ·replace h:=AJ e h
   clear e
   try cbv
   exact AA (m2,true) [2,3,4,5,6,11,12] [.loc 0,.loc 32] 448 ⟨by omega,h⟩ (by cbv)
  replace h:=AK e h
  clear e
  try cbv
  exact AA (m2,false) [2,3,4,5,6,11,12] [.loc 0,.loc 32] 448 ⟨by omega,h⟩ (by cbv)
 clear h
 rintro⟨m3,b7⟩ ⟨hm3,h⟩
 replace hm3:m3<=m2:=hm3
 obtain _ | m3:=m3
 ·replace h:Hp 0 z1 s2 l3 z4 b5 b7=some r1:=h
  rw[Hp]at h
  cases h
 replace h:Hp (m3+1) z1 s2 l3 z4 b5 b7=some r1:=h
 rw[Hp]at h
 try cbv
 cases b7
 rotate_left
 ·replace h:=Aq h
  try cbv
  exact AA (m3,true) [2,3,4,5,6,11,12] [.loc 0,.loc 32] 576 ⟨by omega,h⟩ (by cbv)
 replace h:=Ar h
 try cbv
 refine Aw (T:=Nat×Bool) (fun t=>⟨[sL 2 0,sL 3 32,sB 4 false,sI 5 1,sB 6 b5,sU 11 z1,sB 12 t.2],[(.loc 0,.cells [.d (.int .u8 z1),.d (.str s2),.d (.list true 3 l3)]),(.loc 32,.cells [.d (.int .i64 z4)])],512⟩) (fun t=>t.1<=m3/\Hq t.1 z1 s2 l3 z4 b5 t.2=some r1) ?_ ?_
 ·try cbv
  refine Ah (fun e=>?_) (fun e=>?_)
  ·replace h:=AJ e h
   clear e
   try cbv
   exact AA (m3,true) [2,3,4,5,6,11,12] [.loc 0,.loc 32] 512 ⟨by omega,h⟩ (by cbv)
  replace h:=AK e h
  clear e
  try cbv
  exact AA (m3,false) [2,3,4,5,6,11,12] [.loc 0,.loc 32] 512 ⟨by omega,h⟩ (by cbv)
 clear h
 rintro⟨m4,b8⟩ ⟨hm4,h⟩
 replace hm4:m4<=m3:=hm4
 obtain _ | m4:=m4
 ·replace h:Hq 0 z1 s2 l3 z4 b5 b8=some r1:=h
  rw[Hq]at h
  cases h
 replace h:Hq (m4+1) z1 s2 l3 z4 b5 b8=some r1:=h
 rw[Hq]at h
 try cbv
 cases b8
 ·replace h:=Ar h
  try cbv
  refine Ah (fun e=>?_) (fun e=>?_)
  ·replace h:=AJ e h
   clear e
   try cbv
   exact AA (m4,true) [2,3,4,5,6,11,12] [.loc 0,.loc 32] 576 ⟨by omega,h⟩ (by cbv)
  replace h:=AK e h
  clear e
  try cbv
  exact AA (m4,false) [2,3,4,5,6,11,12] [.loc 0,.loc 32] 576 ⟨by omega,h⟩ (by cbv)
 replace h:=Aq h
 try cbv
 exact AA (m4,true) [2,3,4,5,6,11,12] [.loc 0,.loc 32] 576 ⟨by omega,h⟩ (by cbv)
theorem cV (n:Nat):∀⦃z1 s2 l3 z4 r1⦄,UO n z1 s2 l3 z4=some r1->
  AW Tryz.prog inv 63 [.d (.agg [.int .u8 z1,.str s2,.list true 3 l3]),.d (.int .i64 z4)] [] (.v (.d (.bool r1))) [] []:=(cU n).2.2
def Si (n:Nat) (z1:Int) (s2:BA) (l3:LD):Option (Bool):=
 bO1 (UO n z1 s2 l3 (40:Int)) fun b4=>some b4
theorem cW (n:Nat):∀⦃z1 s2 l3 r1⦄,Si n z1 s2 l3=some r1->
    AW Tryz.prog inv 39 [.d (.agg [.int .u8 z1,.str s2,.list true 3 l3])] [] (.v (.d (.bool r1))) [] []:=by
 intro z1 s2 l3 r1 h
 unfold Si at h
 refine AW.of Ab AO Bp Tryz.func39 rfl (by kernel_rfl) rfl rfl rfl (fun M hM hI=>?_)
 try cbv
 refine AB ?_
 try cbv
 refine AB ?_
 try cbv
 replace h:=AG h
 obtain⟨b4,hr,h⟩:=h
 refine AD rfl rfl ?_
 try cbv
 refine AE hM hI (cV _ hr) rfl ?_
 clear hr
 try cbv
 obtain rfl:=Option.some.inj h
 refine AF ?_
 try cbv
 exact⟨[],by trivial⟩
def Vg (n:Nat) (l1:LD) (z2:Int) (s3:BA) (l4:LD) (b5:Bool):Option (Bool):=
 bO1 (Si n z2 s3 l4) fun b6=>(if b6=true then bO3 (Rk n z2 s3 l4 b5 ([]:List Az) l1) fun b7 cm8 l9=>Ak (!b7) fun b10=>some b10 else some false)
theorem bK (n:Nat):∀⦃l1 z2 s3 l4 b5 r1⦄,Vg n l1 z2 s3 l4 b5=some r1->
    AW Tryz.prog inv 21 [.d (.agg [.list true 16 l1]),.d (.agg [.int .u8 z2,.str s3,.list true 3 l4,.bool b5])] [] (.v (.d (.bool r1))) [] []:=by
 intro l1 z2 s3 l4 b5 r1 h
 unfold Vg at h
 refine AW.of Ab AO Bp Tryz.func21 rfl (by kernel_rfl) rfl rfl rfl (fun M hM hI=>?_)
 try cbv
 refine AB ?_
 try cbv
 refine AB ?_
 try cbv
 refine AB ?_
 try cbv
 refine AB ?_
 try cbv
 refine AB ?_
 try cbv
 replace h:=AG h
 obtain⟨b6,hr,h⟩:=h
 refine AD rfl rfl ?_
 try cbv
 refine AE hM hI (cW _ hr) rfl ?_
 clear hr
 try cbv
 cases b6
 ·replace h:=Ar h
  try cbv
  obtain rfl:=Option.some.inj h
  refine AF ?_
  try cbv
  exact⟨[],by trivial⟩
 replace h:=Aq h
 try cbv
 replace h:=D4 h
 obtain⟨b7,cm8,l9,hr,h⟩:=h
 refine AD rfl rfl ?_
 try cbv
 refine AI hM hI [.loc 128,.loc 96,.loc 0,.loc 192] (cQ _ hr) rfl (by simp) ⟨rfl,⟨rfl,⟨rfl,⟨rfl,trivial⟩⟩⟩⟩ ⟨trivial,⟨trivial,⟨trivial,⟨trivial,trivial⟩⟩⟩⟩ (by simp) ?_
 clear hr
 try cbv
 replace h:=AL h
 obtain⟨b10,hz,h⟩:=h
 refine⟨b10,AU hz,?_⟩
 clear hz
 try cbv
 obtain rfl:=Option.some.inj h
 refine AF ?_
 try cbv
 exact⟨[],by trivial⟩
def F9 (n:Nat) (l1:LD) (z2:Int) (s3:BA) (l4:LD):Option (Bool):=
 bO1 (Vg n l1 z2 s3 l4 false) fun b5=>some b5
theorem T9 (n:Nat):∀⦃l1 z2 s3 l4 r1⦄,F9 n l1 z2 s3 l4=some r1->
    AW Tryz.prog inv 9 [.d (.agg [.list true 16 l1]),.d (.agg [.int .u8 z2,.str s3,.list true 3 l4])] [] (.v (.d (.bool r1))) [] []:=by
 intro l1 z2 s3 l4 r1 h
 unfold F9 at h
 refine AW.of Ab AO Bp Tryz.func9 rfl (by kernel_rfl) rfl rfl rfl (fun M hM hI=>?_)
 try cbv
 refine AB ?_
 try cbv
 refine AB ?_
 try cbv
 replace h:=AG h
 obtain⟨b5,hr,h⟩:=h
 refine AD rfl rfl ?_
 try cbv
 refine AE hM hI (bK _ hr) rfl ?_
 clear hr
 try cbv
 obtain rfl:=Option.some.inj h
 refine AF ?_
 try cbv
 exact⟨[],by trivial⟩
mutual
def Hr:Nat->BA->LD->LD->LD->Int->Option (Int×LD×LD×LD)
 | 0,_,_,_,_,_=>none
 | n+1,s1,l2,l3,l4,z5=>
  Ad l2 fun z6=>(if z5<z6 then JN n s1 l2 l3 l4 z5 true else JN n s1 l2 l3 l4 z5 false)
def JN:Nat->BA->LD->LD->LD->Int->Bool->Option (Int×LD×LD×LD)
 | 0,_,_,_,_,_,_=>none
 | n+1,s1,l2,l3,l4,z5,b7=>
  (if b7=true then BT l2 z5 fun x8=>Bv x8 fun z9 s10 l11 z12 s13 l14 l15 z16 z17 s18 s19 s20 l21 l22 z23 z24=>(if z9=(3:Int)then Fx n s1 l2 l3 l4 z5 false else BT l2 z5 fun x25=>Bv x25 fun z26 s27 l28 z29 s30 l31 l32 z33 z34 s35 s36 s37 l38 l39 z40 z41=>(if s27=s1 then Fx n s1 l2 l3 l4 z5 true else Fx n s1 l2 l3 l4 z5 false))else some ((-1:Int),l2,l3,l4))
def Fx:Nat->BA->LD->LD->LD->Int->Bool->Option (Int×LD×LD×LD)
 | 0,_,_,_,_,_,_=>none
 | n+1,s1,l2,l3,l4,z5,b42=>
  (if b42=true then some (z5,l2,l3,l4)else Al (IntKind.wrap .i64 (z5+1)) fun z43=>Hr n s1 l2 l3 l4 z43)
end
def XO (n:Nat) (s1:BA) (l2:LD) (l3:LD) (l4:LD):Option (Int×LD×LD×LD):=
 Hr n s1 l2 l3 l4 (0:Int)
theorem bL (n:Nat):∀⦃s1 l2 l3 l4 r1 r2 r3 r4⦄,XO n s1 l2 l3 l4=some (r1,r2,r3,r4)->
    AW Tryz.prog inv 22 [.c (.ptr (.ext 0) 0),.d (.str s1)] [.cells [.d (.list true 16 l2),.ow (.ext 1),.ow (.ext 2)],.tree .row false 1 l3 none,.tree .row false 1 l4 none] (.v (.d (.int .i64 r1))) [.cells [.d (.list true 16 r2),.ow (.ext 1),.ow (.ext 2)],.tree .row false 1 r3 none,.tree .row false 1 r4 none] []:=by
 intro s1 l2 l3 l4 r1 r2 r3 r4 h
 unfold XO at h
 refine AW.of Ab AO Bp Tryz.func22 rfl (by kernel_rfl) rfl rfl rfl (fun M hM hI=>?_)
 try cbv
 refine AB ?_
 try cbv
 refine AB ?_
 try cbv
 refine AB ?_
 try cbv
 refine FE (T:=Nat×Int) [] [] [0,1,4,5] [.ext 0,.ext 1,.ext 2] 64 (fun t=>⟨[sE 0 0,sS 1 s1,sI 4 0,sI 5 t.2],[(.ext 0,.cells [.d (.list true 16 l2),.ow (.ext 1),.ow (.ext 2)]),(.ext 1,.tree .row false 1 l3 none),(.ext 2,.tree .row false 1 l4 none)],64⟩)
   (fun t=>t.1<=n/\Hr t.1 s1 l2 l3 l4 t.2=some (r1,r2,r3,r4)) (fun t=>t.1) (n,(0:Int)) ⟨Nat.le_refl _,h⟩ (by cbv) ?_
 clear h
 rintro⟨m1,z5⟩ ⟨hm1,h⟩
 replace hm1:m1<=n:=hm1
 obtain _ | m1:=m1
 ·replace h:Hr 0 s1 l2 l3 l4 z5=some (r1,r2,r3,r4):=h
  rw[Hr]at h
  cases h
 replace h:Hr (m1+1) s1 l2 l3 l4 z5=some (r1,r2,r3,r4):=h
 rw[Hr]at h
 try cbv
 refine AB ?_
 try cbv
 refine AH 13 [0,1,4,5,13] [.ext 0,.ext 1,.ext 2] 320 (fun m b=>m<=m1/\JN m s1 l2 l3 l4 z5 b=some (r1,r2,r3,r4)) ?_ ?_
 ·try cbv
  replace h:=AP M h
  obtain⟨z6,hz,h⟩:=h
  refine⟨z6,hz,?_⟩
  clear hz
  try cbv
  refine Aa (fun e=>?_) (fun e=>?_)
  ·replace h:=AJ e h
   clear e
   try cbv
   exact AA (m1,true) [0,1,4,5,13] [.ext 0,.ext 1,.ext 2] 320 ⟨by omega,h⟩ (by cbv)
  replace h:=AK (Int.not_lt.2 e) h
  clear e
  try cbv
  exact AA (m1,false) [0,1,4,5,13] [.ext 0,.ext 1,.ext 2] 320 ⟨by omega,h⟩ (by cbv)
 clear h
 rintro⟨m2,b7⟩ ⟨hm2,h⟩
 try cbv
 replace hm2:m2<=m1:=hm2
 obtain _ | m2:=m2
 ·replace h:JN 0 s1 l2 l3 l4 z5 b7=some (r1,r2,r3,r4):=h
  rw[JN]at h
  cases h
 replace h:JN (m2+1) s1 l2 l3 l4 z5 b7=some (r1,r2,r3,r4):=h
 rw[JN]at h
 try cbv
 cases b7
 ·replace h:=Ar h
  try cbv
  refine AB ?_
  try cbv
  obtain⟨rfl,rfl,rfl,rfl⟩:=D5 h
  refine AF ?_
  try cbv
  exact⟨[],rfl,rfl,⟨rfl,⟨rfl,⟨rfl,trivial⟩⟩⟩,trivial,trivial⟩
 replace h:=Aq h
 try cbv
 refine AB ?_
 try cbv
 refine AH 38 [0,1,4,5,38] [.ext 0,.ext 1,.ext 2] 1056 (fun m b=>m<=m2/\Fx m s1 l2 l3 l4 z5 b=some (r1,r2,r3,r4)) ?_ ?_
 ·try cbv
  replace h:=Ae h
  obtain⟨x8,⟨hx0,hx⟩,h⟩:=h
  refine⟨x8,hx0,hx,?_⟩
  clear hx0 hx
  replace h:=B4 h
  obtain⟨z9,s10,l11,z12,s13,l14,l15,z16,z17,s18,s19,s20,l21,l22,z23,z24,rfl,h⟩:=h
  try cbv
  refine Ah (fun e=>?_) (fun e=>?_)
  ·replace h:=AJ e h
   clear e
   try cbv
   exact AA (m2,false) [0,1,4,5,38] [.ext 0,.ext 1,.ext 2] 1056 ⟨by omega,h⟩ (by cbv)
  replace h:=AK e h
  clear e
  try cbv
  replace h:=Ae h
  obtain⟨x25,⟨hx0,hx⟩,h⟩:=h
  refine⟨x25,hx0,hx,?_⟩
  clear hx0 hx
  replace h:=B4 h
  obtain⟨z26,s27,l28,z29,s30,l31,l32,z33,z34,s35,s36,s37,l38,l39,z40,z41,rfl,h⟩:=h
  try cbv
  refine Bb (fun e=>?_) (fun e=>?_)
  ·replace h:=AJ (BC.1 e) h
   clear e
   try cbv
   exact AA (m2,true) [0,1,4,5,38] [.ext 0,.ext 1,.ext 2] 1056 ⟨by omega,h⟩ (by cbv)
  replace h:=AK (BI.1 e) h
  clear e
  try cbv
  exact AA (m2,false) [0,1,4,5,38] [.ext 0,.ext 1,.ext 2] 1056 ⟨by omega,h⟩ (by cbv)
 clear h
 rintro⟨m3,b42⟩ ⟨hm3,h⟩
 try cbv
 replace hm3:m3<=m2:=hm3
 obtain _ | m3:=m3
 ·replace h:Fx 0 s1 l2 l3 l4 z5 b42=some (r1,r2,r3,r4):=h
  rw[Fx]at h
  cases h
 replace h:Fx (m3+1) s1 l2 l3 l4 z5 b42=some (r1,r2,r3,r4):=h
 rw[Fx]at h
 try cbv
 cases b42
 ·replace h:=Ar h
  try cbv
  replace h:=AN h
  obtain⟨z43,hz,h⟩:=h
  refine⟨z43,hz,?_⟩
  clear hz
  try cbv
  refine EI (m3,z43) [] [] [0,1,4,5] [.ext 0,.ext 1,.ext 2] 64 ⟨by omega,h⟩ (Nat.lt_succ_of_le (by omega)) ?_
  try cbv
 replace h:=Aq h
 try cbv
 refine AB ?_
 try cbv
 obtain⟨rfl,rfl,rfl,rfl⟩:=D5 h
 refine AF ?_
 try cbv
 exact⟨[],rfl,rfl,⟨rfl,⟨rfl,⟨rfl,trivial⟩⟩⟩,trivial,trivial⟩
mutual
def Hs:Nat->Int->BA->LD->Bool->LD->LD->LD->Bool->Option (Bool×LD×LD×LD)
 | 0,_,_,_,_,_,_,_,_=>none
 | n+1,z1,s2,l3,b4,l5,l6,l7,b8=>
  (if b8=true then bO4 (XO n s2 l5 l6 l7) fun z9 l10 l11 l12=>(if z9<(0:Int)then JO n b4 z9 l10 l11 l12 true else JO n b4 z9 l10 l11 l12 false)else Ad l3 fun z18=>(if z18=(0:Int)then JP n z1 l3 b4 l5 l6 l7 true else JP n z1 l3 b4 l5 l6 l7 false))
def JO:Nat->Bool->Int->LD->LD->LD->Bool->Option (Bool×LD×LD×LD)
 | 0,_,_,_,_,_,_=>none
 | n+1,b4,z9,l10,l11,l12,b13=>
  (if b13=true then some (true,l10,l11,l12)else (if b4=true then FB (0<=z9/\z9.toNat<l12.length) (KT l12 (z9.toNat) fun x14=>CE x14 fun b15=>some (b15,l10,l11,l12))else FB (0<=z9/\z9.toNat<l11.length) (KT l11 (z9.toNat) fun x16=>CE x16 fun b17=>some (b17,l10,l11,l12))))
def JP:Nat->Int->LD->Bool->LD->LD->LD->Bool->Option (Bool×LD×LD×LD)
 | 0,_,_,_,_,_,_,_=>none
 | n+1,z1,l3,b4,l5,l6,l7,b19=>
  (if b19=true then (if z1=(7:Int)then some (false,l5,l6,l7)else (if z1=(6:Int)then Ak (!b4) fun b20=>some (b20,l5,l6,l7)else some (true,l5,l6,l7)))else BT l3 0 fun x21=>Cl x21 fun z22 s23 l24=>(if z1=(7:Int)then JQ n z1 b4 l5 l6 l7 z22 s23 l24 true else JQ n z1 b4 l5 l6 l7 z22 s23 l24 false))
def JQ:Nat->Int->Bool->LD->LD->LD->Int->BA->LD->Bool->Option (Bool×LD×LD×LD)
 | 0,_,_,_,_,_,_,_,_,_=>none
 | n+1,z1,b4,l5,l6,l7,z22,s23,l24,b25=>
  (if b25=true then some (false,l5,l6,l7)else (if z1=(6:Int)then JR n z1 b4 l5 l6 l7 z22 s23 l24 true else JR n z1 b4 l5 l6 l7 z22 s23 l24 false))
def JR:Nat->Int->Bool->LD->LD->LD->Int->BA->LD->Bool->Option (Bool×LD×LD×LD)
 | 0,_,_,_,_,_,_,_,_,_=>none
 | n+1,z1,b4,l5,l6,l7,z22,s23,l24,b26=>
  (if b26=true then Ak (!b4) fun b27=>(if b27=true then bO4 (Ly n z22 s23 l24 false l5 l6 l7) fun b28 l29 l30 l31=>some (b28,l29,l30,l31)else some (false,l5,l6,l7))else (if z1=(8:Int)then JS n z1 b4 l5 l6 l7 z22 s23 l24 true else JS n z1 b4 l5 l6 l7 z22 s23 l24 false))
def JS:Nat->Int->Bool->LD->LD->LD->Int->BA->LD->Bool->Option (Bool×LD×LD×LD)
 | 0,_,_,_,_,_,_,_,_,_=>none
 | n+1,z1,b4,l5,l6,l7,z22,s23,l24,b32=>
  (if b32=true then bO4 (Ly n z22 s23 l24 false l5 l6 l7) fun b33 l34 l35 l36=>(if b33=true then bO4 (Ly n z22 s23 l24 true l34 l35 l36) fun b37 l38 l39 l40=>some (b37,l38,l39,l40)else some (false,l34,l35,l36))else (if z1=(9:Int)then JT n z1 b4 l5 l6 l7 z22 s23 l24 true else JT n z1 b4 l5 l6 l7 z22 s23 l24 false))
def JT:Nat->Int->Bool->LD->LD->LD->Int->BA->LD->Bool->Option (Bool×LD×LD×LD)
 | 0,_,_,_,_,_,_,_,_,_=>none
 | n+1,z1,b4,l5,l6,l7,z22,s23,l24,b41=>
  (if b41=true then Fy n z1 b4 l5 l6 l7 z22 s23 l24 true else (if z1=(11:Int)then JU n z1 b4 l5 l6 l7 z22 s23 l24 true else JU n z1 b4 l5 l6 l7 z22 s23 l24 false))
def JU:Nat->Int->Bool->LD->LD->LD->Int->BA->LD->Bool->Option (Bool×LD×LD×LD)
 | 0,_,_,_,_,_,_,_,_,_=>none
 | n+1,z1,b4,l5,l6,l7,z22,s23,l24,b42=>
  (if b42=true then Fy n z1 b4 l5 l6 l7 z22 s23 l24 true else (if z1=(12:Int)then Fy n z1 b4 l5 l6 l7 z22 s23 l24 true else Fy n z1 b4 l5 l6 l7 z22 s23 l24 false))
def Fy:Nat->Int->Bool->LD->LD->LD->Int->BA->LD->Bool->Option (Bool×LD×LD×LD)
 | 0,_,_,_,_,_,_,_,_,_=>none
 | n+1,z1,b4,l5,l6,l7,z22,s23,l24,b43=>
  (if b43=true then bO4 (Ly n z22 s23 l24 false l5 l6 l7) fun b44 l45 l46 l47=>some (b44,l45,l46,l47)else (if z1=(13:Int)then Fc n b4 l5 l6 l7 z22 s23 l24 true else Fc n b4 l5 l6 l7 z22 s23 l24 false))
def Fc:Nat->Bool->LD->LD->LD->Int->BA->LD->Bool->Option (Bool×LD×LD×LD)
 | 0,_,_,_,_,_,_,_,_=>none
 | n+1,b4,l5,l6,l7,z22,s23,l24,b48=>
  (if b48=true then bO4 (Ly n z22 s23 l24 true l5 l6 l7) fun b49 l50 l51 l52=>some (b49,l50,l51,l52)else bO4 (Ly n z22 s23 l24 b4 l5 l6 l7) fun b53 l54 l55 l56=>some (b53,l54,l55,l56))
def Ly:Nat->Int->BA->LD->Bool->LD->LD->LD->Option (Bool×LD×LD×LD)
 | 0,_,_,_,_,_,_,_=>none
 | n+1,z1,s2,l3,b4,l5,l6,l7=>
  (if z1=(4:Int)then Hs n z1 s2 l3 b4 l5 l6 l7 true else Hs n z1 s2 l3 b4 l5 l6 l7 false)
end
theorem WU (n:Nat):∀⦃z1 s2 l3 b4 l5 l6 l7 r1 r2 r3 r4⦄,Ly n z1 s2 l3 b4 l5 l6 l7=some (r1,r2,r3,r4)->
    AW Tryz.prog inv 12 [.c (.ptr (.ext 0) 0),.d (.agg [.int .u8 z1,.str s2,.list true 3 l3]),.d (.bool b4)] [.cells [.d (.list true 16 l5),.ow (.ext 1),.ow (.ext 2)],.tree .row false 1 l6 none,.tree .row false 1 l7 none] (.v (.d (.bool r1))) [.cells [.d (.list true 16 r2),.ow (.ext 1),.ow (.ext 2)],.tree .row false 1 r3 none,.tree .row false 1 r4 none] []:=by
 induction n using Nat.strongRecOn with | _ n ih=>
 obtain _ | n:=n
 ·intro z1 s2 l3 b4 l5 l6 l7 r1 r2 r3 r4 h
  cases (show (none:Option _)=some _ from h)
 intro z1 s2 l3 b4 l5 l6 l7 r1 r2 r3 r4 h
 rw[Ly]at h
 refine AW.of Ab AO Bp Tryz.func12 rfl (by kernel_rfl) rfl rfl rfl (fun M hM hI=>?_)
 try cbv
 refine AB ?_
 try cbv
 refine AB ?_
 try cbv
 refine AH 11 [0,2,4,6,11] [.ext 0,.ext 1,.ext 2,.loc 0] 160 (fun m b=>m<=n/\Hs m z1 s2 l3 b4 l5 l6 l7 b=some (r1,r2,r3,r4)) ?_ ?_
 ·try cbv
  refine Ah (fun e=>?_) (fun e=>?_)
  ·replace h:=AJ e h
   clear e
   try cbv
   exact AA (n,true) [0,2,4,6,11] [.ext 0,.ext 1,.ext 2,.loc 0] 160 ⟨by omega,h⟩ (by cbv)
  replace h:=AK e h
  clear e
  try cbv
  exact AA (n,false) [0,2,4,6,11] [.ext 0,.ext 1,.ext 2,.loc 0] 160 ⟨by omega,h⟩ (by cbv)
 clear h
 rintro⟨m1,b8⟩ ⟨hm1,h⟩
 try cbv
 replace hm1:m1<=n:=hm1
 obtain _ | m1:=m1
 ·replace h:Hs 0 z1 s2 l3 b4 l5 l6 l7 b8=some (r1,r2,r3,r4):=h
  rw[Hs]at h
  cases h
 replace h:Hs (m1+1) z1 s2 l3 b4 l5 l6 l7 b8=some (r1,r2,r3,r4):=h
 rw[Hs]at h
 try cbv
 cases b8
 rotate_left
 ·replace h:=Aq h
  try cbv
  refine AB ?_
  try cbv
  replace h:=BR h
  obtain⟨z9,l10,l11,l12,hr,h⟩:=h
  refine AD rfl rfl ?_
  try cbv
  refine AI hM hI [.ext 0,.ext 1,.ext 2] (bL _ hr) rfl (by simp) ⟨rfl,⟨rfl,⟨rfl,trivial⟩⟩⟩ ⟨trivial,⟨trivial,⟨trivial,trivial⟩⟩⟩ (by simp) ?_
  clear hr
  try cbv
  refine AB ?_
  try cbv
  refine AH 17 [0,2,4,6,7,17] [.ext 0,.ext 1,.ext 2,.loc 0] 384 (fun m b=>m<=m1/\JO m b4 z9 l10 l11 l12 b=some (r1,r2,r3,r4)) ?_ ?_
  ·try cbv
   refine Aa (fun e=>?_) (fun e=>?_)
   ·replace h:=AJ e h
    clear e
    try cbv
    exact AA (m1,true) [0,2,4,6,7,17] [.ext 0,.ext 1,.ext 2,.loc 0] 384 ⟨by omega,h⟩ (by cbv)
   replace h:=AK (Int.not_lt.2 e) h
   clear e
   try cbv
   exact AA (m1,false) [0,2,4,6,7,17] [.ext 0,.ext 1,.ext 2,.loc 0] 384 ⟨by omega,h⟩ (by cbv)
  clear h
  rintro⟨m2,b13⟩ ⟨hm2,h⟩
  try cbv
  replace hm2:m2<=m1:=hm2
  obtain _ | m2:=m2
  ·replace h:JO 0 b4 z9 l10 l11 l12 b13=some (r1,r2,r3,r4):=h
   rw[JO]at h
   cases h
  replace h:JO (m2+1) b4 z9 l10 l11 l12 b13=some (r1,r2,r3,r4):=h
  rw[JO]at h
  try cbv
  cases b13
  rotate_left
  ·replace h:=Aq h
   try cbv
   refine AB ?_
   try cbv
   obtain⟨rfl,rfl,rfl,rfl⟩:=D5 h
   refine AF ?_
   try cbv
   exact⟨[],rfl,rfl,⟨rfl,⟨rfl,⟨rfl,trivial⟩⟩⟩,trivial,trivial⟩
  replace h:=Ar h
  try cbv
  refine AB ?_
  try cbv
  refine AB ?_
  try cbv
  cases b4
  ·replace h:=Ar h
   try cbv
   refine AB ?_
   try cbv
   refine Pj ?_
   try cbv
   replace h:=FC h
   obtain⟨hn,h⟩:=h
   refine⟨(M.lock_iff _).2 hn,?_⟩
   clear hn
   try cbv
   refine⟨[],?_⟩
   try cbv
   replace h:=GU h
   obtain⟨x16,hx,h⟩:=h
   replace h:=Cn h
   obtain⟨b17,rfl,h⟩:=h
   refine⟨_,hx,?_⟩
   clear hx
   try cbv
   refine⟨true,?_⟩
   try cbv
   obtain⟨rfl,rfl,rfl,rfl⟩:=D5 h
   refine AF ?_
   try cbv
   exact⟨[],rfl,rfl,⟨rfl,⟨rfl,⟨rfl,trivial⟩⟩⟩,trivial,trivial⟩
  replace h:=Aq h
  try cbv
  refine AB ?_
  try cbv
  refine Pj ?_
  try cbv
  replace h:=FC h
  obtain⟨hn,h⟩:=h
  refine⟨(M.lock_iff _).2 hn,?_⟩
  clear hn
  try cbv
  refine⟨[],?_⟩
  try cbv
  replace h:=GU h
  obtain⟨x14,hx,h⟩:=h
  replace h:=Cn h
  obtain⟨b15,rfl,h⟩:=h
  refine⟨_,hx,?_⟩
  clear hx
  try cbv
  refine⟨true,?_⟩
  try cbv
  obtain⟨rfl,rfl,rfl,rfl⟩:=D5 h
  refine AF ?_
  try cbv
  exact⟨[],rfl,rfl,⟨rfl,⟨rfl,⟨rfl,trivial⟩⟩⟩,trivial,trivial⟩
 replace h:=Ar h
 try cbv
 refine AB ?_
 try cbv
 refine AH 36 [0,2,4,6,36] [.ext 0,.ext 1,.ext 2,.loc 0] 288 (fun m b=>m<=m1/\JP m z1 l3 b4 l5 l6 l7 b=some (r1,r2,r3,r4)) ?_ ?_
 ·try cbv
  replace h:=AP M h
  obtain⟨z18,hz,h⟩:=h
  refine⟨z18,hz,?_⟩
  clear hz
  try cbv
  refine Ah (fun e=>?_) (fun e=>?_)
  ·replace h:=AJ e h
   clear e
   try cbv
   exact AA (m1,true) [0,2,4,6,36] [.ext 0,.ext 1,.ext 2,.loc 0] 288 ⟨by omega,h⟩ (by cbv)
  replace h:=AK e h
  clear e
  try cbv
  exact AA (m1,false) [0,2,4,6,36] [.ext 0,.ext 1,.ext 2,.loc 0] 288 ⟨by omega,h⟩ (by cbv)
 clear h
 rintro⟨m3,b19⟩ ⟨hm3,h⟩
 try cbv
 replace hm3:m3<=m1:=hm3
 obtain _ | m3:=m3
 ·replace h:JP 0 z1 l3 b4 l5 l6 l7 b19=some (r1,r2,r3,r4):=h
  rw[JP]at h
  cases h
 replace h:JP (m3+1) z1 l3 b4 l5 l6 l7 b19=some (r1,r2,r3,r4):=h
 rw[JP]at h
 try cbv
 cases b19
 rotate_left
 ·replace h:=Aq h
  try cbv
  refine AB ?_
  try cbv
  refine Ah (fun e=>?_) (fun e=>?_)
  ·replace h:=AJ e h
   clear e
   try cbv
   obtain⟨rfl,rfl,rfl,rfl⟩:=D5 h
   refine AF ?_
   try cbv
   exact⟨[],rfl,rfl,⟨rfl,⟨rfl,⟨rfl,trivial⟩⟩⟩,trivial,trivial⟩
  replace h:=AK e h
  clear e
  try cbv
  refine Ah (fun e=>?_) (fun e=>?_)
  ·replace h:=AJ e h
   clear e
   try cbv
   replace h:=AL h
   obtain⟨b20,hz,h⟩:=h
   refine⟨b20,AU hz,?_⟩
   clear hz
   try cbv
   obtain⟨rfl,rfl,rfl,rfl⟩:=D5 h
   refine AF ?_
   try cbv
   exact⟨[],rfl,rfl,⟨rfl,⟨rfl,⟨rfl,trivial⟩⟩⟩,trivial,trivial⟩
  replace h:=AK e h
  clear e
  try cbv
  obtain⟨rfl,rfl,rfl,rfl⟩:=D5 h
  refine AF ?_
  try cbv
  exact⟨[],rfl,rfl,⟨rfl,⟨rfl,⟨rfl,trivial⟩⟩⟩,trivial,trivial⟩
 replace h:=Ar h
 try cbv
 refine AB ?_
 try cbv
 replace h:=Ae h
 obtain⟨x21,⟨hx0,hx⟩,h⟩:=h
 refine⟨x21,hx0,hx,?_⟩
 clear hx0 hx
 replace h:=DE h
 obtain⟨z22,s23,l24,rfl,h⟩:=h
 try cbv
 refine AB ?_
 try cbv
 refine AB ?_
 try cbv
 refine AH 55 [0,2,6,8,54,55] [.ext 0,.ext 1,.ext 2,.loc 416] 608 (fun m b=>m<=m3/\JQ m z1 b4 l5 l6 l7 z22 s23 l24 b=some (r1,r2,r3,r4)) ?_ ?_
 ·try cbv
  refine Ah (fun e=>?_) (fun e=>?_)
  ·replace h:=AJ e h
   clear e
   try cbv
   exact AA (m3,true) [0,2,6,8,54,55] [.ext 0,.ext 1,.ext 2,.loc 416] 608 ⟨by omega,h⟩ (by cbv)
  replace h:=AK e h
  clear e
  try cbv
  exact AA (m3,false) [0,2,6,8,54,55] [.ext 0,.ext 1,.ext 2,.loc 416] 608 ⟨by omega,h⟩ (by cbv)
 clear h
 rintro⟨m4,b25⟩ ⟨hm4,h⟩
 try cbv
 replace hm4:m4<=m3:=hm4
 obtain _ | m4:=m4
 ·replace h:JQ 0 z1 b4 l5 l6 l7 z22 s23 l24 b25=some (r1,r2,r3,r4):=h
  rw[JQ]at h
  cases h
 replace h:JQ (m4+1) z1 b4 l5 l6 l7 z22 s23 l24 b25=some (r1,r2,r3,r4):=h
 rw[JQ]at h
 try cbv
 cases b25
 rotate_left
 ·replace h:=Aq h
  try cbv
  refine AB ?_
  try cbv
  obtain⟨rfl,rfl,rfl,rfl⟩:=D5 h
  refine AF ?_
  try cbv
  exact⟨[],rfl,rfl,⟨rfl,⟨rfl,⟨rfl,trivial⟩⟩⟩,trivial,trivial⟩
 replace h:=Ar h
 try cbv
 refine AH 57 [0,2,6,8,54,57] [.ext 0,.ext 1,.ext 2,.loc 416] 672 (fun m b=>m<=m4/\JR m z1 b4 l5 l6 l7 z22 s23 l24 b=some (r1,r2,r3,r4)) ?_ ?_
 ·try cbv
  refine Ah (fun e=>?_) (fun e=>?_)
  ·replace h:=AJ e h
   clear e
   try cbv
   exact AA (m4,true) [0,2,6,8,54,57] [.ext 0,.ext 1,.ext 2,.loc 416] 672 ⟨by omega,h⟩ (by cbv)
  replace h:=AK e h
  clear e
  try cbv
  exact AA (m4,false) [0,2,6,8,54,57] [.ext 0,.ext 1,.ext 2,.loc 416] 672 ⟨by omega,h⟩ (by cbv)
 clear h
 rintro⟨m5,b26⟩ ⟨hm5,h⟩
 try cbv
 replace hm5:m5<=m4:=hm5
 obtain _ | m5:=m5
 ·replace h:JR 0 z1 b4 l5 l6 l7 z22 s23 l24 b26=some (r1,r2,r3,r4):=h
  rw[JR]at h
  cases h
 replace h:JR (m5+1) z1 b4 l5 l6 l7 z22 s23 l24 b26=some (r1,r2,r3,r4):=h
 rw[JR]at h
 try cbv
 cases b26
 rotate_left
 ·replace h:=Aq h
  try cbv
  refine AB ?_
  try cbv
  replace h:=AL h
  obtain⟨b27,hz,h⟩:=h
  refine⟨b27,AU hz,?_⟩
  clear hz
  try cbv
  cases b27
  ·replace h:=Ar h
   try cbv
   obtain⟨rfl,rfl,rfl,rfl⟩:=D5 h
   refine AF ?_
   try cbv
   exact⟨[],rfl,rfl,⟨rfl,⟨rfl,⟨rfl,trivial⟩⟩⟩,trivial,trivial⟩
  replace h:=Aq h
  try cbv
  replace h:=BR h
  obtain⟨b28,l29,l30,l31,hr,h⟩:=h
  refine AD rfl rfl ?_
  try cbv
  refine AI hM hI [.ext 0,.ext 1,.ext 2] ((ih _ (by omega)) hr) rfl (by simp) ⟨rfl,⟨rfl,⟨rfl,trivial⟩⟩⟩ ⟨trivial,⟨trivial,⟨trivial,trivial⟩⟩⟩ (by simp) ?_
  clear hr
  try cbv
  obtain⟨rfl,rfl,rfl,rfl⟩:=D5 h
  refine AF ?_
  try cbv
  exact⟨[],rfl,rfl,⟨rfl,⟨rfl,⟨rfl,trivial⟩⟩⟩,trivial,trivial⟩
 replace h:=Ar h
 try cbv
 refine AH 66 [0,2,6,8,54,66] [.ext 0,.ext 1,.ext 2,.loc 416] 736 (fun m b=>m<=m5/\JS m z1 b4 l5 l6 l7 z22 s23 l24 b=some (r1,r2,r3,r4)) ?_ ?_
 ·try cbv
  refine Ah (fun e=>?_) (fun e=>?_)
  ·replace h:=AJ e h
   clear e
   try cbv
   exact AA (m5,true) [0,2,6,8,54,66] [.ext 0,.ext 1,.ext 2,.loc 416] 736 ⟨by omega,h⟩ (by cbv)
  replace h:=AK e h
  clear e
  try cbv
  exact AA (m5,false) [0,2,6,8,54,66] [.ext 0,.ext 1,.ext 2,.loc 416] 736 ⟨by omega,h⟩ (by cbv)
 clear h
 rintro⟨m6,b32⟩ ⟨hm6,h⟩
 try cbv
 replace hm6:m6<=m5:=hm6
 obtain _ | m6:=m6
 ·replace h:JS 0 z1 b4 l5 l6 l7 z22 s23 l24 b32=some (r1,r2,r3,r4):=h
  rw[JS]at h
  cases h
 replace h:JS (m6+1) z1 b4 l5 l6 l7 z22 s23 l24 b32=some (r1,r2,r3,r4):=h
 rw[JS]at h
 try cbv
 cases b32
 rotate_left
 ·replace h:=Aq h
  try cbv
  refine AB ?_
  try cbv
  replace h:=BR h
  obtain⟨b33,l34,l35,l36,hr,h⟩:=h
  refine AD rfl rfl ?_
  try cbv
  refine AI hM hI [.ext 0,.ext 1,.ext 2] ((ih _ (by omega)) hr) rfl (by simp) ⟨rfl,⟨rfl,⟨rfl,trivial⟩⟩⟩ ⟨trivial,⟨trivial,⟨trivial,trivial⟩⟩⟩ (by simp) ?_
  clear hr
  try cbv
  cases b33
  ·replace h:=Ar h
   try cbv
   obtain⟨rfl,rfl,rfl,rfl⟩:=D5 h
   refine AF ?_
   try cbv
   exact⟨[],rfl,rfl,⟨rfl,⟨rfl,⟨rfl,trivial⟩⟩⟩,trivial,trivial⟩
  replace h:=Aq h
  try cbv
  replace h:=BR h
  obtain⟨b37,l38,l39,l40,hr,h⟩:=h
  refine AD rfl rfl ?_
  try cbv
  refine AI hM hI [.ext 0,.ext 1,.ext 2] ((ih _ (by omega)) hr) rfl (by simp) ⟨rfl,⟨rfl,⟨rfl,trivial⟩⟩⟩ ⟨trivial,⟨trivial,⟨trivial,trivial⟩⟩⟩ (by simp) ?_
  clear hr
  try cbv
  obtain⟨rfl,rfl,rfl,rfl⟩:=D5 h
  refine AF ?_
  try cbv
  exact⟨[],rfl,rfl,⟨rfl,⟨rfl,⟨rfl,trivial⟩⟩⟩,trivial,trivial⟩
 replace h:=Ar h
 try cbv
 refine AH 76 [0,2,6,8,54,76] [.ext 0,.ext 1,.ext 2,.loc 416] 928 (fun m b=>m<=m6/\Fy m z1 b4 l5 l6 l7 z22 s23 l24 b=some (r1,r2,r3,r4)) ?_ ?_
 ·try cbv
  refine AH 76 [0,2,6,8,54,76] [.ext 0,.ext 1,.ext 2,.loc 416] 800 (fun m b=>m<=m6/\JT m z1 b4 l5 l6 l7 z22 s23 l24 b=some (r1,r2,r3,r4)) ?_ ?_
  ·try cbv
   refine Ah (fun e=>?_) (fun e=>?_)
   ·replace h:=AJ e h
    clear e
    try cbv
    exact AA (m6,true) [0,2,6,8,54,76] [.ext 0,.ext 1,.ext 2,.loc 416] 800 ⟨by omega,h⟩ (by cbv)
   replace h:=AK e h
   clear e
   try cbv
   exact AA (m6,false) [0,2,6,8,54,76] [.ext 0,.ext 1,.ext 2,.loc 416] 800 ⟨by omega,h⟩ (by cbv)
  clear h
  rintro⟨m7,b41⟩ ⟨hm7,h⟩
  try cbv
  replace hm7:m7<=m6:=hm7
  obtain _ | m7:=m7
  ·replace h:JT 0 z1 b4 l5 l6 l7 z22 s23 l24 b41=some (r1,r2,r3,r4):=h
   rw[JT]at h
   cases h
  replace h:JT (m7+1) z1 b4 l5 l6 l7 z22 s23 l24 b41=some (r1,r2,r3,r4):=h
  rw[JT]at h
  try cbv
  cases b41
  rotate_left
  ·replace h:=Aq h
   try cbv
   exact AA (m7,true) [0,2,6,8,54,76] [.ext 0,.ext 1,.ext 2,.loc 416] 928 ⟨by omega,h⟩ (by cbv)
  replace h:=Ar h
  try cbv
  refine AH 76 [0,2,6,8,54,76] [.ext 0,.ext 1,.ext 2,.loc 416] 864 (fun m b=>m<=m7/\JU m z1 b4 l5 l6 l7 z22 s23 l24 b=some (r1,r2,r3,r4)) ?_ ?_
  ·try cbv
   refine Ah (fun e=>?_) (fun e=>?_)
   ·replace h:=AJ e h
    clear e
    try cbv
    exact AA (m7,true) [0,2,6,8,54,76] [.ext 0,.ext 1,.ext 2,.loc 416] 864 ⟨by omega,h⟩ (by cbv)
   replace h:=AK e h
   clear e
   try cbv
   exact AA (m7,false) [0,2,6,8,54,76] [.ext 0,.ext 1,.ext 2,.loc 416] 864 ⟨by omega,h⟩ (by cbv)
  clear h
  rintro⟨m8,b42⟩ ⟨hm8,h⟩
  try cbv
  replace hm8:m8<=m7:=hm8
  obtain _ | m8:=m8
  ·replace h:JU 0 z1 b4 l5 l6 l7 z22 s23 l24 b42=some (r1,r2,r3,r4):=h
   rw[JU]at h
   cases h
  replace h:JU (m8+1) z1 b4 l5 l6 l7 z22 s23 l24 b42=some (r1,r2,r3,r4):=h
  rw[JU]at h
  try cbv
  cases b42
  ·replace h:=Ar h
   try cbv
   refine Ah (fun e=>?_) (fun e=>?_)
   ·replace h:=AJ e h
    clear e
    try cbv
    exact AA (m8,true) [0,2,6,8,54,76] [.ext 0,.ext 1,.ext 2,.loc 416] 928 ⟨by omega,h⟩ (by cbv)
   replace h:=AK e h
   clear e
   try cbv
   exact AA (m8,false) [0,2,6,8,54,76] [.ext 0,.ext 1,.ext 2,.loc 416] 928 ⟨by omega,h⟩ (by cbv)
  replace h:=Aq h
  try cbv
  exact AA (m8,true) [0,2,6,8,54,76] [.ext 0,.ext 1,.ext 2,.loc 416] 928 ⟨by omega,h⟩ (by cbv)
 clear h
 rintro⟨m9,b43⟩ ⟨hm9,h⟩
 try cbv
 replace hm9:m9<=m6:=hm9
 obtain _ | m9:=m9
 ·replace h:Fy 0 z1 b4 l5 l6 l7 z22 s23 l24 b43=some (r1,r2,r3,r4):=h
  rw[Fy]at h
  cases h
 replace h:Fy (m9+1) z1 b4 l5 l6 l7 z22 s23 l24 b43=some (r1,r2,r3,r4):=h
 rw[Fy]at h
 try cbv
 cases b43
 rotate_left
 ·replace h:=Aq h
  try cbv
  refine AB ?_
  try cbv
  replace h:=BR h
  obtain⟨b44,l45,l46,l47,hr,h⟩:=h
  refine AD rfl rfl ?_
  try cbv
  refine AI hM hI [.ext 0,.ext 1,.ext 2] ((ih _ (by omega)) hr) rfl (by simp) ⟨rfl,⟨rfl,⟨rfl,trivial⟩⟩⟩ ⟨trivial,⟨trivial,⟨trivial,trivial⟩⟩⟩ (by simp) ?_
  clear hr
  try cbv
  obtain⟨rfl,rfl,rfl,rfl⟩:=D5 h
  refine AF ?_
  try cbv
  exact⟨[],rfl,rfl,⟨rfl,⟨rfl,⟨rfl,trivial⟩⟩⟩,trivial,trivial⟩
 replace h:=Ar h
 try cbv
 refine AH 83 [0,2,6,8,83] [.ext 0,.ext 1,.ext 2,.loc 416] 992 (fun m b=>m<=m9/\Fc m b4 l5 l6 l7 z22 s23 l24 b=some (r1,r2,r3,r4)) ?_ ?_
 ·try cbv
  refine Ah (fun e=>?_) (fun e=>?_)
  ·replace h:=AJ e h
   clear e
   try cbv
   exact AA (m9,true) [0,2,6,8,83] [.ext 0,.ext 1,.ext 2,.loc 416] 992 ⟨by omega,h⟩ (by cbv)
  replace h:=AK e h
  clear e
  try cbv
  exact AA (m9,false) [0,2,6,8,83] [.ext 0,.ext 1,.ext 2,.loc 416] 992 ⟨by omega,h⟩ (by cbv)
 clear h
 rintro⟨m10,b48⟩ ⟨hm10,h⟩
 try cbv
 replace hm10:m10<=m9:=hm10
 obtain _ | m10:=m10
 ·replace h:Fc 0 b4 l5 l6 l7 z22 s23 l24 b48=some (r1,r2,r3,r4):=h
  rw[Fc]at h
  cases h
 replace h:Fc (m10+1) b4 l5 l6 l7 z22 s23 l24 b48=some (r1,r2,r3,r4):=h
 rw[Fc]at h
 try cbv
 cases b48
 ·replace h:=Ar h
  try cbv
  refine AB ?_
  try cbv
  replace h:=BR h
  obtain⟨b53,l54,l55,l56,hr,h⟩:=h
  refine AD rfl rfl ?_
  try cbv
  refine AI hM hI [.ext 0,.ext 1,.ext 2] ((ih _ (by omega)) hr) rfl (by simp) ⟨rfl,⟨rfl,⟨rfl,trivial⟩⟩⟩ ⟨trivial,⟨trivial,⟨trivial,trivial⟩⟩⟩ (by simp) ?_
  clear hr
  try cbv
  obtain⟨rfl,rfl,rfl,rfl⟩:=D5 h
  refine AF ?_
  try cbv
  exact⟨[],rfl,rfl,⟨rfl,⟨rfl,⟨rfl,trivial⟩⟩⟩,trivial,trivial⟩
 replace h:=Aq h
 try cbv
 refine AB ?_
 try cbv
 replace h:=BR h
 obtain⟨b49,l50,l51,l52,hr,h⟩:=h
 refine AD rfl rfl ?_
 try cbv
 refine AI hM hI [.ext 0,.ext 1,.ext 2] ((ih _ (by omega)) hr) rfl (by simp) ⟨rfl,⟨rfl,⟨rfl,trivial⟩⟩⟩ ⟨trivial,⟨trivial,⟨trivial,trivial⟩⟩⟩ (by simp) ?_
 clear hr
 try cbv
 obtain⟨rfl,rfl,rfl,rfl⟩:=D5 h
 refine AF ?_
 try cbv
 exact⟨[],rfl,rfl,⟨rfl,⟨rfl,⟨rfl,trivial⟩⟩⟩,trivial,trivial⟩
mutual
def Fz:Nat->Int->LD->LD->LD->Option (Bool×LD×LD×LD)
 | 0,_,_,_,_=>none
 | n+1,z4,l5,l6,l7=>
  Ad l5 fun z8=>(if z4<z8 then JV n z4 l5 l6 l7 true else JV n z4 l5 l6 l7 false)
def JV:Nat->Int->LD->LD->LD->Bool->Option (Bool×LD×LD×LD)
 | 0,_,_,_,_,_=>none
 | n+1,z4,l5,l6,l7,b9=>
  (if b9=true then BT l5 z4 fun x10=>Bv x10 fun z11 s12 l13 z14 s15 l16 l17 z18 z19 s20 s21 s22 l23 l24 z25 z26=>(if z11=(3:Int)then Eg n z4 l13 true l5 l6 l7 else bO4 (XO n s12 l5 l6 l7) fun z27 l28 l29 l30=>(if z27=z4 then Eg n z4 l13 false l28 l29 l30 else Eg n z4 l13 true l28 l29 l30))else some (true,l5,l6,l7))
def Eg:Nat->Int->LD->Bool->LD->LD->LD->Option (Bool×LD×LD×LD)
 | 0,_,_,_,_,_,_=>none
 | n+1,z4,l13,b31,l32,l33,l34=>
  (if b31=true then Ht n z4 l32 l33 l34 else Gz n z4 l13 (0:Int) l32 l33 l34)
def Gz:Nat->Int->LD->Int->LD->LD->LD->Option (Bool×LD×LD×LD)
 | 0,_,_,_,_,_,_=>none
 | n+1,z4,l13,z35,l36,l37,l38=>
  Ad l13 fun z39=>(if z35<z39 then JW n z4 l13 z35 l36 l37 l38 true else JW n z4 l13 z35 l36 l37 l38 false)
def JW:Nat->Int->LD->Int->LD->LD->LD->Bool->Option (Bool×LD×LD×LD)
 | 0,_,_,_,_,_,_,_=>none
 | n+1,z4,l13,z35,l36,l37,l38,b40=>
  (if b40=true then FB (0<=z4/\z4.toNat<l37.length) (KT l37 (z4.toNat) fun x41=>CE x41 fun b42=>(if b42=true then BT l13 z35 fun x43=>B5 x43 fun s44 z45 s46 l47=>bO4 (Ly n z45 s46 l47 false l36 l37 l38) fun b48 l49 l50 l51=>Ak (!b48) fun b52=>(if b52=true then Eh n z4 l13 z35 true l49 l50 l51 else FB (0<=z4/\z4.toNat<l51.length) (KT l51 (z4.toNat) fun x53=>CE x53 fun b54=>(if b54=true then BT l13 z35 fun x55=>B5 x55 fun s56 z57 s58 l59=>bO4 (Ly n z57 s58 l59 true l49 l50 l51) fun b60 l61 l62 l63=>Ak (!b60) fun b64=>Eh n z4 l13 z35 b64 l61 l62 l63 else Eh n z4 l13 z35 false l49 l50 l51)))else FB (0<=z4/\z4.toNat<l38.length) (KT l38 (z4.toNat) fun x65=>CE x65 fun b66=>(if b66=true then BT l13 z35 fun x67=>B5 x67 fun s68 z69 s70 l71=>bO4 (Ly n z69 s70 l71 true l36 l37 l38) fun b72 l73 l74 l75=>Ak (!b72) fun b76=>Eh n z4 l13 z35 b76 l73 l74 l75 else Eh n z4 l13 z35 false l36 l37 l38))))else Ht n z4 l36 l37 l38)
def Eh:Nat->Int->LD->Int->Bool->LD->LD->LD->Option (Bool×LD×LD×LD)
 | 0,_,_,_,_,_,_,_=>none
 | n+1,z4,l13,z35,b77,l78,l79,l80=>
  (if b77=true then some (false,l78,l79,l80)else Al (IntKind.wrap .i64 (z35+1)) fun z81=>Gz n z4 l13 z81 l78 l79 l80)
def Ht:Nat->Int->LD->LD->LD->Option (Bool×LD×LD×LD)
 | 0,_,_,_,_=>none
 | n+1,z4,l82,l83,l84=>
  Al (IntKind.wrap .i64 (z4+1)) fun z85=>Fz n z85 l82 l83 l84
end
def Xk (n:Nat) (l1:LD) (l2:LD) (l3:LD):Option (Bool×LD×LD×LD):=
 Fz n (0:Int) l1 l2 l3
theorem bM (n:Nat):∀⦃l1 l2 l3 r1 r2 r3 r4⦄,Xk n l1 l2 l3=some (r1,r2,r3,r4)->
    AW Tryz.prog inv 11 [.c (.ptr (.ext 0) 0)] [.cells [.d (.list true 16 l1),.ow (.ext 1),.ow (.ext 2)],.tree .row false 1 l2 none,.tree .row false 1 l3 none] (.v (.d (.bool r1))) [.cells [.d (.list true 16 r2),.ow (.ext 1),.ow (.ext 2)],.tree .row false 1 r3 none,.tree .row false 1 r4 none] []:=by
 intro l1 l2 l3 r1 r2 r3 r4 h
 unfold Xk at h
 refine AW.of Ab AO Bp Tryz.func11 rfl (by kernel_rfl) rfl rfl rfl (fun M hM hI=>?_)
 try cbv
 refine AB ?_
 try cbv
 refine AB ?_
 try cbv
 refine AB ?_
 try cbv
 refine FE (T:=Nat×Int×LD×LD×LD) [] [] [0,2,3] [.ext 0,.ext 1,.ext 2] 64 (fun t=>⟨[sE 0 0,sB 2 false,sI 3 t.2.1],[(.ext 0,.cells [.d (.list true 16 t.2.2.1),.ow (.ext 1),.ow (.ext 2)]),(.ext 1,.tree .row false 1 t.2.2.2.1 none),(.ext 2,.tree .row false 1 t.2.2.2.2 none)],64⟩)
   (fun t=>t.1<=n/\Fz t.1 t.2.1 t.2.2.1 t.2.2.2.1 t.2.2.2.2=some (r1,r2,r3,r4)) (fun t=>t.1) (n,((0:Int),l1,l2,l3)) ⟨Nat.le_refl _,h⟩ (by cbv) ?_
 clear h
 rintro⟨m1,z4,l5,l6,l7⟩ ⟨hm1,h⟩
 replace hm1:m1<=n:=hm1
 obtain _ | m1:=m1
 ·replace h:Fz 0 z4 l5 l6 l7=some (r1,r2,r3,r4):=h
  rw[Fz]at h
  cases h
 replace h:Fz (m1+1) z4 l5 l6 l7=some (r1,r2,r3,r4):=h
 rw[Fz]at h
 try cbv
 refine AB ?_
 try cbv
 refine AH 13 [0,2,3,13] [.ext 0,.ext 1,.ext 2] 320 (fun m b=>m<=m1/\JV m z4 l5 l6 l7 b=some (r1,r2,r3,r4)) ?_ ?_
 ·try cbv
  replace h:=AP M h
  obtain⟨z8,hz,h⟩:=h
  refine⟨z8,hz,?_⟩
  clear hz
  try cbv
  refine Aa (fun e=>?_) (fun e=>?_)
  ·replace h:=AJ e h
   clear e
   try cbv
   exact AA (m1,true) [0,2,3,13] [.ext 0,.ext 1,.ext 2] 320 ⟨by omega,h⟩ (by cbv)
  replace h:=AK (Int.not_lt.2 e) h
  clear e
  try cbv
  exact AA (m1,false) [0,2,3,13] [.ext 0,.ext 1,.ext 2] 320 ⟨by omega,h⟩ (by cbv)
 clear h
 rintro⟨m2,b9⟩ ⟨hm2,h⟩
 try cbv
 replace hm2:m2<=m1:=hm2
 obtain _ | m2:=m2
 ·replace h:JV 0 z4 l5 l6 l7 b9=some (r1,r2,r3,r4):=h
  rw[JV]at h
  cases h
 replace h:JV (m2+1) z4 l5 l6 l7 b9=some (r1,r2,r3,r4):=h
 rw[JV]at h
 try cbv
 cases b9
 ·replace h:=Ar h
  try cbv
  refine AB ?_
  try cbv
  obtain⟨rfl,rfl,rfl,rfl⟩:=D5 h
  refine AF ?_
  try cbv
  exact⟨[],rfl,rfl,⟨rfl,⟨rfl,⟨rfl,trivial⟩⟩⟩,trivial,trivial⟩
 replace h:=Aq h
 try cbv
 refine Aw (T:=Nat×LD×LD×LD) (fun t=>⟨[sE 0 0,sB 2 false,sI 3 z4],[(.ext 0,.cells [.d (.list true 16 t.2.1),.ow (.ext 1),.ow (.ext 2)]),(.ext 1,.tree .row false 1 t.2.2.1 none),(.ext 2,.tree .row false 1 t.2.2.2 none)],1184⟩) (fun t=>t.1<=m2/\Ht t.1 z4 t.2.1 t.2.2.1 t.2.2.2=some (r1,r2,r3,r4)) ?_ ?_
 rotate_left
 ·clear h
  rintro⟨m7,l82,l83,l84⟩ ⟨hm7,h⟩
  replace hm7:m7<=m2:=hm7
  obtain _ | m7:=m7
  ·replace h:Ht 0 z4 l82 l83 l84=some (r1,r2,r3,r4):=h
   rw[Ht]at h
   cases h
  replace h:Ht (m7+1) z4 l82 l83 l84=some (r1,r2,r3,r4):=h
  rw[Ht]at h
  try cbv
  replace h:=AN h
  obtain⟨z85,hz,h⟩:=h
  refine⟨z85,hz,?_⟩
  clear hz
  try cbv
  refine EI (m7,(z85,l82,l83,l84)) [] [] [0,2,3] [.ext 0,.ext 1,.ext 2] 64 ⟨by omega,h⟩ (Nat.lt_succ_of_le (by omega)) ?_
  try cbv
 try cbv
 refine AB ?_
 try cbv
 replace h:=Ae h
 obtain⟨x10,⟨hx0,hx⟩,h⟩:=h
 refine⟨x10,hx0,hx,?_⟩
 clear hx0 hx
 replace h:=B4 h
 obtain⟨z11,s12,l13,z14,s15,l16,l17,z18,z19,s20,s21,s22,l23,l24,z25,z26,rfl,h⟩:=h
 try cbv
 refine AB ?_
 try cbv
 refine Aw (T:=Nat×Bool×LD×LD×LD) (fun t=>⟨[sE 0 0,sB 2 false,sI 3 z4,sL 4 576,sB 34 t.2.1],[(.ext 0,.cells [.d (.list true 16 t.2.2.1),.ow (.ext 1),.ow (.ext 2)]),(.ext 1,.tree .row false 1 t.2.2.2.1 none),(.ext 2,.tree .row false 1 t.2.2.2.2 none),(.loc 576,.cells [.d (.int .u8 z11),.d (.str s12),.d (.list true 4 l13),.d (.int .u8 z14),.d (.str s15),.d (.list true 3 l16),.d (.list true 15 l17),.d (.int .u8 z18),.d (.int .i64 z19),.d (.str s20),.d (.str s21),.d (.str s22),.d (.list false 1 l23),.d (.list true 8 l24),.d (.int .i64 z25),.d (.int .i64 z26)])],992⟩) (fun t=>t.1<=m2/\Eg t.1 z4 l13 t.2.1 t.2.2.1 t.2.2.2.1 t.2.2.2.2=some (r1,r2,r3,r4)) ?_ ?_
 ·try cbv
  refine Ah (fun e=>?_) (fun e=>?_)
  ·replace h:=AJ e h
   clear e
   try cbv
   exact AA (m2,(true,l5,l6,l7)) [0,2,3,4,34] [.ext 0,.ext 1,.ext 2,.loc 576] 992 ⟨by omega,h⟩ (by cbv)
  replace h:=AK e h
  clear e
  try cbv
  replace h:=BR h
  obtain⟨z27,l28,l29,l30,hr,h⟩:=h
  refine AD rfl rfl ?_
  try cbv
  refine AI hM hI [.ext 0,.ext 1,.ext 2] (bL _ hr) rfl (by simp) ⟨rfl,⟨rfl,⟨rfl,trivial⟩⟩⟩ ⟨trivial,⟨trivial,⟨trivial,trivial⟩⟩⟩ (by simp) ?_
  clear hr
  try cbv
  refine Ah (fun e=>?_) (fun e=>?_)
  ·replace h:=AJ e h
   clear e
   try cbv
   exact AA (m2,(false,l28,l29,l30)) [0,2,3,4,34] [.ext 0,.ext 1,.ext 2,.loc 576] 992 ⟨by omega,h⟩ (by cbv)
  replace h:=AK e h
  clear e
  try cbv
  exact AA (m2,(true,l28,l29,l30)) [0,2,3,4,34] [.ext 0,.ext 1,.ext 2,.loc 576] 992 ⟨by omega,h⟩ (by cbv)
 clear h
 rintro⟨m3,b31,l32,l33,l34⟩ ⟨hm3,h⟩
 replace hm3:m3<=m2:=hm3
 obtain _ | m3:=m3
 ·replace h:Eg 0 z4 l13 b31 l32 l33 l34=some (r1,r2,r3,r4):=h
  rw[Eg]at h
  cases h
 replace h:Eg (m3+1) z4 l13 b31 l32 l33 l34=some (r1,r2,r3,r4):=h
 rw[Eg]at h
 try cbv
 cases b31
 rotate_left
 ·replace h:=Aq h
  try cbv
  exact AA (m3,(l32,l33,l34)) [0,2,3] [.ext 0,.ext 1,.ext 2] 1184 ⟨by omega,h⟩ (by cbv)
 replace h:=Ar h
 try cbv
 refine AB ?_
 try cbv
 refine FE (T:=Nat×Int×LD×LD×LD) [] [] [0,2,3,4,5] [.ext 0,.ext 1,.ext 2,.loc 576] 1024 (fun t=>⟨[sE 0 0,sB 2 false,sI 3 z4,sL 4 576,sI 5 t.2.1],[(.ext 0,.cells [.d (.list true 16 t.2.2.1),.ow (.ext 1),.ow (.ext 2)]),(.ext 1,.tree .row false 1 t.2.2.2.1 none),(.ext 2,.tree .row false 1 t.2.2.2.2 none),(.loc 576,.cells [.d (.int .u8 z11),.d (.str s12),.d (.list true 4 l13),.d (.int .u8 z14),.d (.str s15),.d (.list true 3 l16),.d (.list true 15 l17),.d (.int .u8 z18),.d (.int .i64 z19),.d (.str s20),.d (.str s21),.d (.str s22),.d (.list false 1 l23),.d (.list true 8 l24),.d (.int .i64 z25),.d (.int .i64 z26)])],1024⟩)
   (fun t=>t.1<=m3/\Gz t.1 z4 l13 t.2.1 t.2.2.1 t.2.2.2.1 t.2.2.2.2=some (r1,r2,r3,r4)) (fun t=>t.1) (m3,((0:Int),l32,l33,l34)) ⟨Nat.le_refl _,h⟩ (by cbv) ?_
 clear h
 rintro⟨m4,z35,l36,l37,l38⟩ ⟨hm4,h⟩
 replace hm4:m4<=m3:=hm4
 obtain _ | m4:=m4
 ·replace h:Gz 0 z4 l13 z35 l36 l37 l38=some (r1,r2,r3,r4):=h
  rw[Gz]at h
  cases h
 replace h:Gz (m4+1) z4 l13 z35 l36 l37 l38=some (r1,r2,r3,r4):=h
 rw[Gz]at h
 try cbv
 refine AB ?_
 try cbv
 refine AH 39 [0,2,3,4,5,39] [.ext 0,.ext 1,.ext 2,.loc 576] 1184 (fun m b=>m<=m4/\JW m z4 l13 z35 l36 l37 l38 b=some (r1,r2,r3,r4)) ?_ ?_
 ·try cbv
  replace h:=AP M h
  obtain⟨z39,hz,h⟩:=h
  refine⟨z39,hz,?_⟩
  clear hz
  try cbv
  refine Aa (fun e=>?_) (fun e=>?_)
  ·replace h:=AJ e h
   clear e
   try cbv
   exact AA (m4,true) [0,2,3,4,5,39] [.ext 0,.ext 1,.ext 2,.loc 576] 1184 ⟨by omega,h⟩ (by cbv)
  replace h:=AK (Int.not_lt.2 e) h
  clear e
  try cbv
  exact AA (m4,false) [0,2,3,4,5,39] [.ext 0,.ext 1,.ext 2,.loc 576] 1184 ⟨by omega,h⟩ (by cbv)
 clear h
 rintro⟨m5,b40⟩ ⟨hm5,h⟩
 try cbv
 replace hm5:m5<=m4:=hm5
 obtain _ | m5:=m5
 ·replace h:JW 0 z4 l13 z35 l36 l37 l38 b40=some (r1,r2,r3,r4):=h
  rw[JW]at h
  cases h
 replace h:JW (m5+1) z4 l13 z35 l36 l37 l38 b40=some (r1,r2,r3,r4):=h
 rw[JW]at h
 try cbv
 cases b40
 ·replace h:=Ar h
  try cbv
  exact AA (m5,(l36,l37,l38)) [0,2,3] [.ext 0,.ext 1,.ext 2] 1184 ⟨by omega,h⟩ (by cbv)
 replace h:=Aq h
 try cbv
 refine AB ?_
 try cbv
 refine Aw (T:=Nat×Bool×LD×LD×LD) (fun t=>⟨[sE 0 0,sB 2 false,sI 3 z4,sL 4 576,sI 5 z35,sB 79 t.2.1],[(.ext 0,.cells [.d (.list true 16 t.2.2.1),.ow (.ext 1),.ow (.ext 2)]),(.ext 1,.tree .row false 1 t.2.2.2.1 none),(.ext 2,.tree .row false 1 t.2.2.2.2 none),(.loc 576,.cells [.d (.int .u8 z11),.d (.str s12),.d (.list true 4 l13),.d (.int .u8 z14),.d (.str s15),.d (.list true 3 l16),.d (.list true 15 l17),.d (.int .u8 z18),.d (.int .i64 z19),.d (.str s20),.d (.str s21),.d (.str s22),.d (.list false 1 l23),.d (.list true 8 l24),.d (.int .i64 z25),.d (.int .i64 z26)])],2400⟩) (fun t=>t.1<=m5/\Eh t.1 z4 l13 z35 t.2.1 t.2.2.1 t.2.2.2.1 t.2.2.2.2=some (r1,r2,r3,r4)) ?_ ?_
 rotate_left
 ·clear h
  rintro⟨m6,b77,l78,l79,l80⟩ ⟨hm6,h⟩
  replace hm6:m6<=m5:=hm6
  obtain _ | m6:=m6
  ·replace h:Eh 0 z4 l13 z35 b77 l78 l79 l80=some (r1,r2,r3,r4):=h
   rw[Eh]at h
   cases h
  replace h:Eh (m6+1) z4 l13 z35 b77 l78 l79 l80=some (r1,r2,r3,r4):=h
  rw[Eh]at h
  try cbv
  cases b77
  ·replace h:=Ar h
   try cbv
   replace h:=AN h
   obtain⟨z81,hz,h⟩:=h
   refine⟨z81,hz,?_⟩
   clear hz
   try cbv
   refine EI (m6,(z81,l78,l79,l80)) [] [] [0,2,3,4,5] [.ext 0,.ext 1,.ext 2,.loc 576] 1024 ⟨by omega,h⟩ (Nat.lt_succ_of_le (by omega)) ?_
   try cbv
  replace h:=Aq h
  try cbv
  refine AB ?_
  try cbv
  obtain⟨rfl,rfl,rfl,rfl⟩:=D5 h
  refine AF ?_
  try cbv
  exact⟨[],rfl,rfl,⟨rfl,⟨rfl,⟨rfl,trivial⟩⟩⟩,trivial,trivial⟩
 try cbv
 refine Pj ?_
 try cbv
 replace h:=FC h
 obtain⟨hn,h⟩:=h
 refine⟨(M.lock_iff _).2 hn,?_⟩
 clear hn
 try cbv
 refine⟨[],?_⟩
 try cbv
 replace h:=GU h
 obtain⟨x41,hx,h⟩:=h
 replace h:=Cn h
 obtain⟨b42,rfl,h⟩:=h
 refine⟨_,hx,?_⟩
 clear hx
 try cbv
 refine⟨true,?_⟩
 try cbv
 cases b42
 ·replace h:=Ar h
  try cbv
  refine Pj ?_
  try cbv
  replace h:=FC h
  obtain⟨hn,h⟩:=h
  refine⟨(M.lock_iff _).2 hn,?_⟩
  clear hn
  try cbv
  refine⟨[],?_⟩
  try cbv
  replace h:=GU h
  obtain⟨x65,hx,h⟩:=h
  replace h:=Cn h
  obtain⟨b66,rfl,h⟩:=h
  refine⟨_,hx,?_⟩
  clear hx
  try cbv
  refine⟨true,?_⟩
  try cbv
  cases b66
  ·replace h:=Ar h
   try cbv
   exact AA (m5,(false,l36,l37,l38)) [0,2,3,4,5,79] [.ext 0,.ext 1,.ext 2,.loc 576] 2400 ⟨by omega,h⟩ (by cbv)
  replace h:=Aq h
  try cbv
  replace h:=Ae h
  obtain⟨x67,⟨hx0,hx⟩,h⟩:=h
  refine⟨x67,hx0,hx,?_⟩
  clear hx0 hx
  replace h:=CQ h
  obtain⟨s68,z69,s70,l71,rfl,h⟩:=h
  try cbv
  replace h:=BR h
  obtain⟨b72,l73,l74,l75,hr,h⟩:=h
  refine AD rfl rfl ?_
  try cbv
  refine AI hM hI [.ext 0,.ext 1,.ext 2] (WU _ hr) rfl (by simp) ⟨rfl,⟨rfl,⟨rfl,trivial⟩⟩⟩ ⟨trivial,⟨trivial,⟨trivial,trivial⟩⟩⟩ (by simp) ?_
  clear hr
  try cbv
  replace h:=AL h
  obtain⟨b76,hz,h⟩:=h
  refine⟨b76,AU hz,?_⟩
  clear hz
  try cbv
  exact AA (m5,(b76,l73,l74,l75)) [0,2,3,4,5,79] [.ext 0,.ext 1,.ext 2,.loc 576] 2400 ⟨by omega,h⟩ (by cbv)
 replace h:=Aq h
 try cbv
 replace h:=Ae h
 obtain⟨x43,⟨hx0,hx⟩,h⟩:=h
 refine⟨x43,hx0,hx,?_⟩
 clear hx0 hx
 replace h:=CQ h
 obtain⟨s44,z45,s46,l47,rfl,h⟩:=h
 try cbv
 replace h:=BR h
 obtain⟨b48,l49,l50,l51,hr,h⟩:=h
 refine AD rfl rfl ?_
 try cbv
 refine AI hM hI [.ext 0,.ext 1,.ext 2] (WU _ hr) rfl (by simp) ⟨rfl,⟨rfl,⟨rfl,trivial⟩⟩⟩ ⟨trivial,⟨trivial,⟨trivial,trivial⟩⟩⟩ (by simp) ?_
 clear hr
 try cbv
 replace h:=AL h
 obtain⟨b52,hz,h⟩:=h
 refine⟨b52,AU hz,?_⟩
 clear hz
 try cbv
 cases b52
 rotate_left
 ·replace h:=Aq h
  try cbv
  exact AA (m5,(true,l49,l50,l51)) [0,2,3,4,5,79] [.ext 0,.ext 1,.ext 2,.loc 576] 2400 ⟨by omega,h⟩ (by cbv)
 replace h:=Ar h
 try cbv
 refine Pj ?_
 try cbv
 replace h:=FC h
 obtain⟨hn,h⟩:=h
 refine⟨(M.lock_iff _).2 hn,?_⟩
 clear hn
 try cbv
 refine⟨[],?_⟩
 try cbv
 replace h:=GU h
 obtain⟨x53,hx,h⟩:=h
 replace h:=Cn h
 obtain⟨b54,rfl,h⟩:=h
 refine⟨_,hx,?_⟩
 clear hx
 try cbv
 refine⟨true,?_⟩
 try cbv
 cases b54
 ·replace h:=Ar h
  try cbv
  exact AA (m5,(false,l49,l50,l51)) [0,2,3,4,5,79] [.ext 0,.ext 1,.ext 2,.loc 576] 2400 ⟨by omega,h⟩ (by cbv)
 replace h:=Aq h
 try cbv
 replace h:=Ae h
 obtain⟨x55,⟨hx0,hx⟩,h⟩:=h
 refine⟨x55,hx0,hx,?_⟩
 clear hx0 hx
 replace h:=CQ h
 obtain⟨s56,z57,s58,l59,rfl,h⟩:=h
 try cbv
 replace h:=BR h
 obtain⟨b60,l61,l62,l63,hr,h⟩:=h
 refine AD rfl rfl ?_
 try cbv
 refine AI hM hI [.ext 0,.ext 1,.ext 2] (WU _ hr) rfl (by simp) ⟨rfl,⟨rfl,⟨rfl,trivial⟩⟩⟩ ⟨trivial,⟨trivial,⟨trivial,trivial⟩⟩⟩ (by simp) ?_
 clear hr
 try cbv
 replace h:=AL h
 obtain⟨b64,hz,h⟩:=h
 refine⟨b64,AU hz,?_⟩
 clear hz
 try cbv
 exact AA (m5,(b64,l61,l62,l63)) [0,2,3,4,5,79] [.ext 0,.ext 1,.ext 2,.loc 576] 2400 ⟨by omega,h⟩ (by cbv)
end Go.Proofs.YtmggjbjpklecgaaGreatDoor
end
set_option linter.unusedVariables false
noncomputable section
namespace Go.Proofs.YtmggjbjpklecgaaGreatDoor
open Go Go.AM
theorem G0 {i n:Nat}(h:i<n):(i:Int)<(n:Int):=by omega
section
variable {α β γ:Type}
theorem tr {r:α}:Total (fun _=>some r):=⟨r,.ret⟩
theorem Yf {A:Nat→Option α}{r:α}(h:Ev A r):Total A:=⟨r,h⟩
theorem tu {A:Nat→Option α}(h:Total fun n=>A (n+1)):Total A:=h.imp fun _ h=>.succ h
theorem t1 {A:Nat→Option α}{k:Nat→α→Option γ}(ha:Total A) (hk:∀a,Total fun n=>k n a):Total fun n=>bO1 (A n) (k n):=by
 obtain⟨a,ha⟩:=ha
 obtain⟨r,h⟩:=hk a
 exact⟨r,.bO1 ha h⟩
theorem t2 {A:Nat→Option (α×β)}{k:Nat→α→β→Option γ}(ha:Total A) (hk:∀a b,Total fun n=>k n a b):Total fun n=>bO2 (A n) (k n):=by
 obtain⟨⟨a,b⟩,ha⟩:=ha
 obtain⟨r,h⟩:=hk a b
 exact⟨r,.bO2 ha h⟩
theorem t3 {A1 A2 A3:Type}{A:Nat→Option (A1×A2×A3)}{k:Nat→A1→A2→A3→Option γ}(ha:Total A) (hk:∀a b c,Total fun n=>k n a b c):Total fun n=>bO3 (A n) (k n):=by
 obtain⟨⟨a,b,c⟩,ha⟩:=ha
 obtain⟨r,h⟩:=hk a b c
 exact⟨r,.bO3 ha h⟩
theorem t4 {A1 A2 A3 A4:Type}{A:Nat→Option (A1×A2×A3×A4)}{k:Nat→A1→A2→A3→A4→Option γ}(ha:Total A) (hk:∀a b c d,Total fun n=>k n a b c d):Total fun n=>bO4 (A n) (k n):=by
 obtain⟨⟨a,b,c,d⟩,ha⟩:=ha
 obtain⟨r,h⟩:=hk a b c d
 exact⟨r,.bO4 ha h⟩
theorem t7 {A1 A2 A3 A4 A5 A6 A7:Type}{A:Nat→Option (A1×A2×A3×A4×A5×A6×A7)}{k:Nat→A1→A2→A3→A4→A5→A6→A7→Option γ}(ha:Total A) (hk:∀a b c d e f g,Total fun n=>k n a b c d e f g):Total fun n=>bO7 (A n) (k n):=by
 obtain⟨⟨a,b,c,d,e,f,g⟩,ha⟩:=ha
 obtain⟨r,h⟩:=hk a b c d e f g
 exact⟨r,.bO7 ha h⟩
theorem ti {c:Prop} [Decidable c] {A B:Nat→Option γ}(h1:Total A) (h2:Total B):Total fun n=>if c then A n else B n:=by
 by_cases h:c
 ·simp only[if_pos h];exact h1
 ·simp only[if_neg h];exact h2
end
end Go.Proofs.YtmggjbjpklecgaaGreatDoor
end
set_option linter.unusedVariables false
noncomputable section
namespace Go.Proofs.YtmggjbjpklecgaaGreatDoor
open Go Go.AM
def bl (s:ByteArray):List UInt8:=s.data.toList
theorem Lz (s:ByteArray):s.size=(bl s).length:=(Array.length_toList (xs:=s.data)).symm
theorem OQ {s t:ByteArray}(h:bl s=bl t):s=t:=by
 cases s;cases t
 simp only[bl]at h
 rw[Array.toList_inj.1 h]
theorem Ch {γ:Type}{s:ByteArray}{i:Nat}{b:UInt8}{k:Int→Option γ}(h:(bl s)[i]?=some b):NX s (i:Int) k=k (b.toNat:Int):=by
 have hlt:i<s.size:=by rw[Lz];exact (List.getElem?_eq_some_iff.1 h).1
 have hb:s[i]=b:=by
  have:=(List.getElem?_eq_some_iff.1 h).2
  rw[←this]
  simp[bl]
  rfl
 have h1:s[(i:Int).toNat]?=some b:=by
  rw[Int.toNat_natCast,getElem?_pos s i hlt,hb]
 unfold NX
 rw[if_pos (Int.natCast_nonneg i),h1]
 rfl
theorem CR {γ:Type}{s:ByteArray}{k:Int→Option γ}:Jh s k=k ((bl s).length:Int):=by
 unfold Jh
 rw[Lz]
def CD:List ByteArray:=[RZ,VX,OD,Kk,Kl,Km,Kn,OE,VY,OG,OH,Ts,GY,Lu,OI,Ko,Ra,VZ,Rb,Pl,Lq,Lr,Pk,Rc,Kp,OJ,Rd,Re,Va,Rf,Kq,Kr,OL,Iu,OM,Ks,Kt,OO,OP,Pm,Ls,Tr,Pn,Ir,GZ,Ga,EK]
def word (s:ByteArray):Bool:=CD.any fun w=>decide (bl w=bl s)
theorem Po {s:ByteArray}:word s=true↔s∈CD:=by
 unfold word
 rw[List.any_eq_true]
 constructor
 ·rintro⟨w,hw,h⟩
  rw[←OQ (of_decide_eq_true h)];exact hw
 ·intro h
  exact⟨s,h,decide_eq_true rfl⟩
theorem Vh {s:ByteArray}(h:s∉CD):word s=false:=by
 cases hw:word s
 ·rfl
 ·exact absurd (Po.1 hw) h
theorem J1 {a b:ByteArray}:(a==b)=true↔a=b:=by
 rw[beq_toListBytes]
 constructor
 ·intro h
  have h:=eq_of_beq h
  rw[ByteArray.toList_eq,ByteArray.toList_eq]at h
  exact OQ h
 ·rintro rfl
  exact beq_self_eq_true _
inductive G1:List ByteArray→List D→Prop where
 | nil:G1 [] []
 | cons {w:ByteArray} {z:Int} {ws:List ByteArray} {rows:List D} (hz:0<z) (h:G1 ws rows):G1 (w::ws) (.agg [.str w,.int .i64 z]::rows)
theorem G1.find {s:ByteArray}:∀{ws:List ByteArray}{rows:List D},G1 ws rows→(s∉ws∧Fj false (.str s) rows=some none)∨∃z,s∈ws∧0<z∧Fj false (.str s) rows=some (some (.int .i64 z))
 | _,_,.nil=>.inl ⟨by simp,rfl⟩
 | _,_,.cons (w:=w) (z:=z) (ws:=ws) (rows:=rows) hz h=>by
  cases hb:(s==w)with
  | true=>
   have:=J1.1 hb
   subst this
   exact .inr ⟨z,by simp,hz,by simp[Fj,Us,hb,rowOf]⟩
  | false=>
   have hne:s≠w:=fun e=>by rw[J1.2 e]at hb;cases hb
   rcases h.find (s:=s)with⟨h1,h2⟩ | ⟨z',h1,h2,h3⟩
   ·exact .inl ⟨by simp[hne,h1],by simp[Fj,Us,hb,h2]⟩
   ·exact .inr ⟨z',by simp[h1],h2,by simp[Fj,Us,hb,h3]⟩
theorem G1.put {s:ByteArray}{z:Int}(hz:0<z):∀{ws:List ByteArray}{rows:List D},G1 ws rows→∃ws' rows',Nu (.str s) [.int .i64 z] rows=some rows'∧G1 ws' rows'∧∀t,t∈ws'↔t=s∨t∈ws
 | _,_,.nil=>⟨[s],_,rfl,.cons hz .nil,by simp⟩
 | _,_,.cons (w:=w) (z:=z') (ws:=ws) (rows:=rows) hz' h=>by
  cases hb:(s==w)with
  | true=>
   have:=J1.1 hb
   subst this
   exact⟨s::ws,.agg [.str s,.int .i64 z]::rows,by simp[Nu,Us,hb],.cons hz h,by intro t;simp⟩
  | false=>
   obtain⟨ws',rows',h1,h2,h3⟩:=h.put (s:=s) hz
   refine⟨w::ws',.agg [.str w,.int .i64 z']::rows',by simp[Nu,Us,hb,h1],.cons hz' h2,fun t=>?_⟩
   simp only[List.mem_cons,h3]
   constructor
   ·rintro (h | h | h)<;>simp[h]
   ·rintro (h | h | h)<;>simp[h]
theorem OS:fieldsD Bc=CD.map D.str:=by kernel_rfl
theorem Zu:Ev (fun n=>To n Bc) (CD.map D.str):=Ev.of fun n=>by
 rw[←OS]
 unfold To
 have h1:Nat.ble (Bc).size 1000=true:=by kernel_rfl
 have h1:=Nat.le_of_ble_eq_true h1
 have h2:(Lib.fields (Bc).data.toList).length=47:=by kernel_rfl
 rw[if_pos (by rw[h2];exact⟨by omega,by kernel_rfl,by decide⟩)]
theorem Fe:CD.length=47:=rfl
theorem Zv:∃ws rows,Ev (fun n=>Yb n) rows∧G1 ws rows∧∀t,t∈ws↔t∈CD:=by
 have main:∀i:Nat,i≤47→∀ws rows,G1 ws rows→∃ws' rows',Ev (fun n=>Hl n (CD.map D.str) 47 (i:Int) rows) rows'∧G1 ws' rows'∧∀t,t∈ws'↔t∈CD.drop i∨t∈ws:=by
  refine down 47 ?_ ?_
  ·intro ws rows h
   refine⟨ws,rows,.succ (.succ (.of fun n=>?_)),h,fun t=>?_⟩
   ·rw[Hl,if_neg (by omega),JL,if_neg Bool.false_ne_true]
   ·rw[List.drop_eq_nil_of_le (by rw[Fe];omega)]
    simp
  ·intro i hi ih ws rows h
   have hlt:i<CD.length:=by rw[Fe];exact hi
   obtain⟨ws1,rows1,h1,h2,h3⟩:=h.put (s:=CD[i]) (z:=((i+1:Nat):Int)) (by omega)
   obtain⟨ws2,rows2,h4,h5,h6⟩:=ih ws1 rows1 h2
   refine⟨ws2,rows2,.succ (.succ (h4.congr fun n=>?_)),h5,fun t=>?_⟩
   ·have hw:(CD.map D.str)[i]?=some (.str CD[i]):=by simp[hlt]
    rw[Hl,if_pos (by omega),JL,if_pos rfl,A0 hw]
    simp only[B7,Al,BB (N:=47) hi (by decide)]
    unfold IE
    rw[h1]
   ·rw[h6,h3,List.drop_eq_getElem_cons hlt]
    simp only[List.mem_cons]
    constructor
    ·rintro (h | h | h)<;>simp[h]
    ·rintro ((h | h) | h)<;>simp[h]
 obtain⟨ws,rows,h1,h2,h3⟩:=main 0 (by omega) [] [] .nil
 refine⟨ws,rows,?_,h2,by simpa using h3⟩
 unfold Yb
 refine Ev.bO1 Zu (h1.congr fun n=>?_)
 unfold Ad
 rfl
theorem Zw (s:ByteArray):Ev (fun n=>UN n s) (word s):=by
 obtain⟨ws,rows,h1,h2,h3⟩:=Zv
 unfold UN
 refine Ev.bO1 h1 (Ev.of fun n=>?_)
 unfold findF
 rcases h2.find (s:=s)with⟨h4,h5⟩ | ⟨z,h4,h5,h6⟩
 ·rw[h5]
  have:s∉CD:=fun h=>h4 ((h3 s).2 h)
  rw[Vh this]
 ·rw[h6]
  have:s∈CD:=(h3 s).1 h4
  rw[Po.2 this]
  simp[OC,h5]
theorem Zx (s:ByteArray):Ev (fun n=>Xg n s) (word s):=by
 have main:∀i:Nat,i≤47→Ev (fun n=>Gd n s (i:Int)) ((CD.drop i).any fun w=>decide (bl w=bl s)):=by
  refine down 47 ?_ ?_
  ·refine .succ (.succ (.of fun n=>?_))
   rw[Gd,if_neg (by omega),HO,if_neg Bool.false_ne_true,List.drop_eq_nil_of_le (by rw[Fe];omega)]
   rfl
  ·intro i hi ih
   have hlt:i<CD.length:=by rw[Fe];exact hi
   have hw:(CD.map D.str)[i]?=some (.str CD[i]):=by simp[hlt]
   have hw:([.str RZ,.str VX,.str OD,.str Kk,.str Kl,.str Km,.str Kn,.str OE,.str VY,.str OG,.str OH,.str Ts,.str GY,.str Lu,.str OI,.str Ko,.str Ra,.str VZ,.str Rb,.str Pl,.str Lq,.str Lr,.str Pk,.str Rc,.str Kp,.str OJ,.str Rd,.str Re,.str Va,.str Rf,.str Kq,.str Kr,.str OL,.str Iu,.str OM,.str Ks,.str Kt,.str OO,.str OP,.str Pm,.str Ls,.str Tr,.str Pn,.str Ir,.str GZ,.str Ga,.str EK]:List D)[i]?=some (.str CD[i]):=hw
   rw[List.drop_eq_getElem_cons hlt,List.any_cons]
   by_cases he:CD[i]=s
   ·refine .succ (.succ (.succ (.of fun n=>?_)))
    rw[Gd,if_pos (by omega),HO,if_pos rfl,A0 hw]
    simp only[B7]
    rw[if_pos he,Iv,if_pos rfl,decide_eq_true (congrArg bl he)]
    rfl
   ·rw[decide_eq_false (fun e=>he (OQ e)),Bool.false_or]
    refine .succ (.succ (.succ (ih.congr fun n=>?_)))
    rw[Gd,if_pos (by omega),HO,if_pos rfl,A0 hw]
    simp only[B7]
    rw[if_neg he,Iv,if_neg Bool.false_ne_true]
    simp only[Al,BB (N:=47) hi (by decide)]
 have:=main 0 (by omega)
 unfold Xg word
 exact this
def Mh (lo hi z:Int):Bool:=decide (lo≤z∧z≤hi)
def JX (z:Int):Bool:=Mh 97 122 z || Mh 65 90 z || Mh 48 57 z || decide (z=95)
def pB (b:UInt8):Bool:=JX (b.toNat:Int)
theorem f32 (n:Nat) (z:Int):XL n z=some (Mh 97 122 z):=by
 unfold XL Mh
 grind
theorem f34 (n:Nat) (z:Int):XM n z=some (Mh 65 90 z):=by
 unfold XM Mh
 grind
theorem f67 (n:Nat) (z:Int):XN n z=some (Mh 48 57 z):=by
 unfold XN Mh
 grind
theorem f52 (n:Nat) (z:Int):Ya n z=some (JX z):=by
 unfold Ya JX
 rw[f32,f34,f67]
 simp only[bO1]
 cases Mh 97 122 z<;>cases Mh 65 90 z<;>cases Mh 48 57 z<;>grind
theorem f53 (n:Nat) (z:Int):YM n z=some (JX z):=by
 unfold YM JX Mh
 grind
theorem Rm {α:Type}{l pre rest:List α}{b:α}(h:pre++b::rest=l):l[pre.length]?=some b:=by
 rw[←h,List.getElem?_append_right (Nat.le_refl _)]
 simp
theorem WV {s:ByteArray}(hs:s.size≤maxLen):∀(rest pre:List UInt8),pre++rest=bl s→Ev (fun n=>DV n s (pre.length:Int)) (((pre.length+(rest.takeWhile pB).length:Nat):Int))
 | [],pre,h=>by
  refine .succ (.succ (.of fun n=>?_))
  rw[DV,CR,←h,if_neg (by simp),Dq,if_neg Bool.false_ne_true]
  simp
 | b::rest,pre,h=>by
  have hlt:pre.length<(bl s).length:=by rw[←h];simp
  have hb:=Rm h
  cases hp:pB b with
  | false=>
   refine .succ (.succ (.of fun n=>?_))
   rw[DV,CR,if_pos (by omega),Ch hb,f52]
   simp only[bO1]
   rw[show JX (b.toNat:Int)=false from hp,Dq,if_neg Bool.false_ne_true]
   simp[hp]
  | true=>
   have ih:=WV hs rest (pre++[b]) (by simpa using h)
   have e:(pre++[b]).length+(rest.takeWhile pB).length=pre.length+((b::rest).takeWhile pB).length:=by
    simp[hp];omega
   rw[e]at ih
   refine .succ (.succ (ih.congr fun n=>?_))
   rw[DV,CR,if_pos (by omega),Ch hb,f52]
   simp only[bO1]
   rw[show JX (b.toNat:Int)=true from hp,Dq,if_pos rfl]
   simp only[Al]
   rw[BB (N:=(bl s).length) hlt (by rw[←Lz];exact hs)]
   simp
theorem Zy {s:ByteArray}(hs:s.size≤maxLen):Ev (fun n=>Hk n s) (((bl s).takeWhile pB).length:Int):=by
 have:=WV hs (bl s) [] rfl
 unfold Hk
 simpa using this
def nm (lo hi:Int) (s:ByteArray):Bool:=
 match bl s with
 | []=>false
 | b::r=>decide ((b::r).length≤16)&&Mh lo hi (b.toNat:Int)&&(b::r).all pB&&!word s
theorem Ey {α:Type}{p:α→Bool}:∀{l:List α},((l.takeWhile p).length=l.length)↔l.all p=true
 | []=>by simp
 | x::l=>by
  cases h:p x
  ·simp[h]
  ·simp[h,Ey (l:=l)]
theorem FI {s:ByteArray}:s=ByteArray.empty↔bl s=[]:=by
 constructor
 ·rintro rfl;rfl
 ·intro h;exact OQ h
theorem Yg {G:Nat→Int→Option Bool}{lo hi:Int}(hG:∀n z,G n z=some (Mh lo hi z)) {s:ByteArray}(hs:s.size≤maxLen):
  Ev (fun n=>(if s=ByteArray.empty then some false else Jh s fun z2=>(if z2≤(16:Int)then NX s (0:Int) fun z3=>bO1 (G n z3) fun b4=>(if b4=true then bO1 (Hk n s) fun z5=>Jh s fun z6=>(if z5=z6 then bO1 (UN n s) fun b7=>Ak (!b7) fun b8=>some b8 else some false)else some false)else some false))) (nm lo hi s):=by
 cases h:bl s with
 | nil=>
  have hr:nm lo hi s=false:=by unfold nm;rw[h]
  rw[hr]
  exact .of fun n=>by rw[if_pos (FI.2 h)]
 | cons b r=>
  have hr:nm lo hi s=(decide ((b::r).length≤16)&&Mh lo hi (b.toNat:Int)&&(b::r).all pB&&!word s):=by unfold nm;rw[h]
  rw[hr]
  clear hr
  have hne:s≠ByteArray.empty:=fun e=>by rw[FI.1 e]at h;cases h
  have hb:(bl s)[0]?=some b:=by rw[h];rfl
  by_cases hl:(b::r).length≤16
  ·cases hz:Mh lo hi (b.toNat:Int)with
   | false=>
    refine .of fun n=>?_
    rw[if_neg hne,CR,h,if_pos (by omega),show (0:Int)=((0:Nat):Int)from rfl,Ch hb,hG,hz]
    simp[bO1]
   | true=>
    have step:∀r',Ev (fun n=>bO1 (Hk n s) fun z5=>Jh s fun z6=>(if z5=z6 then bO1 (UN n s) fun b7=>Ak (!b7) fun b8=>some b8 else some false)) r'→
      Ev (fun n=>(if s=ByteArray.empty then some false else Jh s fun z2=>(if z2≤(16:Int)then NX s (0:Int) fun z3=>bO1 (G n z3) fun b4=>(if b4=true then bO1 (Hk n s) fun z5=>Jh s fun z6=>(if z5=z6 then bO1 (UN n s) fun b7=>Ak (!b7) fun b8=>some b8 else some false)else some false)else some false))) r':=fun r' hr=>hr.congr fun n=>by
     rw[if_neg hne,CR (s:=s) (k:=fun z2=>if z2≤(16:Int)then _ else _),h,if_pos (by omega),show (0:Int)=((0:Nat):Int)from rfl,Ch hb,hG,hz]
     simp[bO1]
    refine step _ (Ev.bO1 (Zy hs) ?_)
    cases ha:(b::r).all pB with
    | false=>
     refine .of fun n=>?_
     rw[CR,if_neg]
     ·simp
     ·intro e
      have:((bl s).takeWhile pB).length=(bl s).length:=by omega
      rw[Ey,h,ha]at this
      cases this
    | true=>
     refine Ev.congr (A:=fun n=>bO1 (UN n s) fun b7=>Ak (!b7) fun b8=>some b8) ?_ fun n=>?_
     ·refine Ev.bO1 (Zw s) (.of fun n=>?_)
      simp only[Ak,decide_eq_true hl,Bool.true_and]
     ·rw[CR,if_pos]
      have:=Ey.2 (h▸ha:(bl s).all pB=true)
      omega
  ·refine .of fun n=>?_
   rw[if_neg hne,CR,h,if_neg (by omega),decide_eq_false hl]
   rfl
theorem XP {s:ByteArray}(hs:s.size≤maxLen):Ev (fun n=>Rl n s) (nm 65 90 s):=Yg f34 hs
theorem Zz {s:ByteArray}(hs:s.size≤maxLen):Ev (fun n=>Yd n s) (nm 65 90 s):=Ev.bO1 (XP hs) .ret
theorem WW {s:ByteArray}(hs:s.size≤maxLen):∀(rest pre:List UInt8),pre++rest=bl s→Ev (fun n=>Fl n s (pre.length:Int)) (rest.all pB)
 | [],pre,h=>by
  refine .succ (.succ (.of fun n=>?_))
  rw[Fl,CR,←h,if_neg (by simp),HP,if_neg Bool.false_ne_true]
  simp
 | b::rest,pre,h=>by
  have hlt:pre.length<(bl s).length:=by rw[←h];simp
  have hb:=Rm h
  cases hp:pB b with
  | false=>
   refine .succ (.succ (.of fun n=>?_))
   rw[Fl,CR,if_pos (by omega),HP,if_pos rfl,Ch hb,f53]
   simp only[bO1,Ak]
   rw[show JX (b.toNat:Int)=false from hp]
   simp[hp]
  | true=>
   have ih:=WW hs rest (pre++[b]) (by simpa using h)
   refine .succ (.succ (Ev.congr (r:=(b::rest).all pB) (by simpa [hp] using ih) fun n=>?_))
   rw[Fl,CR,if_pos (by omega),HP,if_pos rfl,Ch hb,f53]
   simp only[bO1,Ak]
   rw[show JX (b.toNat:Int)=true from hp]
   simp only[Al,Bool.not_true,Bool.false_eq_true,if_false]
   rw[BB (N:=(bl s).length) hlt (by rw[←Lz];exact hs)]
   simp
theorem Yh {s:ByteArray}(hs:s.size≤maxLen) (lo hi:Int):Ev (fun n=>Ut n s lo hi) (nm lo hi s):=by
 have t:∀n,EL (n+1) s true=some false:=fun n=>by rw[EL,if_pos rfl]
 cases h:bl s with
 | nil=>
  have hr:nm lo hi s=false:=by unfold nm;rw[h]
  rw[hr]
  exact .succ (.of fun n=>by unfold Ut;rw[if_pos (FI.2 h),t])
 | cons b r=>
  have hr:nm lo hi s=(decide ((b::r).length≤16)&&Mh lo hi (b.toNat:Int)&&(b::r).all pB&&!word s):=by unfold nm;rw[h]
  rw[hr]
  clear hr
  have hne:s≠ByteArray.empty:=fun e=>by rw[FI.1 e]at h;cases h
  have hb:(bl s)[0]?=some b:=by rw[h];rfl
  have z0:(0:Int)=((0:Nat):Int):=rfl
  by_cases hl:(b::r).length≤16
  ·by_cases h1:(b.toNat:Int)<lo
   ·refine .succ (.of fun n=>?_)
    unfold Ut
    rw[if_neg hne,CR,h,if_neg (by omega),z0,Ch hb,if_pos h1,t]
    simp[Mh,show ¬lo≤(b.toNat:Int)by omega]
   ·by_cases h2:hi<(b.toNat:Int)
    ·refine .succ (.of fun n=>?_)
     unfold Ut
     rw[if_neg hne,CR,h,if_neg (by omega),z0,Ch hb,if_neg h1,Ch hb,if_pos h2,t]
     simp[Mh,show ¬(b.toNat:Int)≤hi by omega]
    ·have hin:Mh lo hi (b.toNat:Int)=true:=by simp[Mh];omega
     refine Ev.congr (A:=fun n=>bO1 (Xg n s) fun b7=>EL n s b7) (Ev.bO1 (Zx s) ?_) fun n=>?_
     ·cases hw:word s with
      | true=>exact .succ (.of fun n=>by rw[t];simp)
      | false=>
       refine .succ ?_
       have h9:Ev (fun n=>Fl n s ((0:Nat):Int)) ((bl s).all pB):=WW hs (bl s) [] rfl
       have h8:Ev (fun n=>EL (n+1) s false) ((bl s).all pB):=h9.congr fun n=>by rw[EL,if_neg Bool.false_ne_true];rfl
       rw[h]at h8
       rw[decide_eq_true hl,hin,Bool.true_and,Bool.true_and,Bool.not_false,Bool.and_true]
       exact h8
     ·unfold Ut
      rw[if_neg hne,CR,h,if_neg (by omega),z0,Ch hb,if_neg h1,Ch hb,if_neg h2]
  ·refine .succ (.of fun n=>?_)
   unfold Ut
   rw[if_neg hne,CR,h,if_pos (by omega),t,decide_eq_false hl]
   rfl
theorem Z1 {s:ByteArray}(hs:s.size≤maxLen):Ev (fun n=>Ri n s) (nm 97 122 s):=Ev.bO1 (Yh hs 97 122) .ret
theorem XQ {s:ByteArray}(hs:s.size≤maxLen):Ev (fun n=>Qk n s) (nm 65 90 s):=Ev.bO1 (Yh hs 65 90) .ret
abbrev Hu (z:Int):Prop:=z=1∨z=2∨z=3∨z=10
theorem Rn {z1:Int}{s2:ByteArray}(hs:s2.size≤maxLen) {l:List D}{z4:Int}{r:Bool}
  (h1:Hu z1→Ev (fun n=>C6 n z1 l z4 (0:Int) (decide (s2=ByteArray.empty))) r) (h2:z1=4→Ev (fun n=>C6 n z1 l z4 (0:Int) (nm 65 90 s2)) r)
  (h3:¬Hu z1→z1≠4→Ev (fun n=>C6 n z1 l z4 (1:Int) (decide (s2=ByteArray.empty))) r):Ev (fun n=>UO n z1 s2 l z4) r:=by
 have go:∀b,b=decide (s2=ByteArray.empty)→Ev (fun n=>Hn n z1 s2 l z4 b) r:=by
  rintro b rfl
  have five:Hu z1→Ev (fun n=>Ef n z1 s2 l z4 (decide (s2=ByteArray.empty)) true) r:=fun c=>.succ (by simp only[Ef,if_true];exact h1 c)
  refine .succ ?_
  by_cases c1:z1=1
  ·simp only[Hn,if_pos c1]
   exact .succ (by simp only[Ho,if_true];exact five (.inl c1))
  simp only[Hn,if_neg c1]
  refine .succ ?_
  by_cases c2:z1=2
  ·simp only[Ho,Bool.false_eq_true,if_false,if_pos c2]
   exact .succ (by simp only[Hp,if_true];exact five (.inr (.inl c2)))
  simp only[Ho,Bool.false_eq_true,if_false,if_neg c2]
  refine .succ ?_
  by_cases c3:z1=3
  ·simp only[Hp,Bool.false_eq_true,if_false,if_pos c3]
   exact .succ (by simp only[Hq,if_true];exact five (.inr (.inr (.inl c3))))
  simp only[Hp,Bool.false_eq_true,if_false,if_neg c3]
  refine .succ ?_
  by_cases c10:z1=10
  ·simp only[Hq,Bool.false_eq_true,if_false,if_pos c10]
   exact five (.inr (.inr (.inr c10)))
  simp only[Hq,Bool.false_eq_true,if_false,if_neg c10]
  refine .succ ?_
  have nl:¬Hu z1:=by rintro (h | h | h | h)<;>contradiction
  by_cases c4:z1=4
  ·simp only[Ef,Bool.false_eq_true,if_false,if_pos c4]
   refine .succ ?_
   simp only[JM,if_true]
   exact Ev.bO1 (Zz hs) (h2 c4)
  ·simp only[Ef,Bool.false_eq_true,if_false,if_neg c4]
   refine .succ ?_
   simp only[JM,Bool.false_eq_true,if_false]
   exact h3 nl c4
 refine .succ ?_
 by_cases c:s2=ByteArray.empty
 ·simp only[UO,if_pos c];exact go true (by simp[c])
 ·simp only[UO,if_neg c];exact go false (by simp[c])
theorem JY {z1:Int}{s2:ByteArray}(hs:s2.size≤maxLen) {l:List D}{z4:Int}{r:Bool}(g4:¬z4<1) (g1:¬z1<1) (g14:¬14<z1)
  (h1:Hu z1→r=(decide (s2=ByteArray.empty)&&decide (l.length=0))) (h2:z1=4→r=(nm 65 90 s2&&decide (l.length=0)))
  (h3:¬Hu z1→z1≠4→Ev (fun n=>F2 n s2 l z4 false) r):Ev (fun n=>F8 n z1 s2 l z4) r:=by
 have five:Hu z1→Ev (fun n=>I7 n z1 s2 l z4 true) r:=fun c=>.succ (by
  rw[h1 c]
  simp only[I7,if_true,Ad]
  by_cases e:s2=ByteArray.empty
  ·by_cases e2:l.length=0
   ·simp only[if_pos e,if_pos (show (l.length:Int)=0 by omega),decide_eq_true e,decide_eq_true e2];exact .ret
   ·simp only[if_pos e,if_neg (show ¬(l.length:Int)=0 by omega),decide_eq_true e,decide_eq_false e2];exact .ret
  ·simp only[if_neg e,decide_eq_false e];exact .ret)
 refine .succ ?_
 simp only[F8,if_neg g4,if_neg g1,if_neg g14]
 refine .succ ?_
 by_cases c1:z1=1
 ·simp only[IG,Bool.false_eq_true,if_false,if_pos c1]
  exact .succ (by simp only[Mt,if_true];exact five (.inl c1))
 simp only[IG,Bool.false_eq_true,if_false,if_neg c1]
 refine .succ ?_
 by_cases c2:z1=2
 ·simp only[Mt,Bool.false_eq_true,if_false,if_pos c2]
  exact .succ (by simp only[Mu,if_true];exact five (.inr (.inl c2)))
 simp only[Mt,Bool.false_eq_true,if_false,if_neg c2]
 refine .succ ?_
 by_cases c3:z1=3
 ·simp only[Mu,Bool.false_eq_true,if_false,if_pos c3]
  exact .succ (by simp only[Mv,if_true];exact five (.inr (.inr (.inl c3))))
 simp only[Mu,Bool.false_eq_true,if_false,if_neg c3]
 refine .succ ?_
 by_cases c10:z1=10
 ·simp only[Mv,Bool.false_eq_true,if_false,if_pos c10]
  exact five (.inr (.inr (.inr c10)))
 simp only[Mv,Bool.false_eq_true,if_false,if_neg c10]
 refine .succ ?_
 have nl:¬Hu z1:=by rintro (h | h | h | h)<;>contradiction
 by_cases c4:z1=4
 ·simp only[I7,Bool.false_eq_true,if_false,if_pos c4]
  refine .succ ?_
  simp only[F2,if_true]
  refine Ev.bO1 (XQ hs) ?_
  rw[h2 c4]
  cases hn:nm 65 90 s2
  ·simp only[Bool.false_eq_true,if_false,Bool.false_and];exact .ret
  ·by_cases e2:l.length=0
   ·simp only[if_true,Ad,if_pos (show (l.length:Int)=0 by omega),decide_eq_true e2,Bool.true_and];exact .ret
   ·simp only[if_true,Ad,if_neg (show ¬(l.length:Int)=0 by omega),decide_eq_false e2,Bool.true_and];exact .ret
 ·simp only[I7,Bool.false_eq_true,if_false,if_neg c4]
  exact h3 nl c4
theorem Pp (l:List D):Ao tab 28 l→∀z1 (s2:ByteArray) (z4:Int),s2.size≤maxLen→0≤z4→z4≤40→WA (fun n=>UO n z1 s2 l z4) (fun n=>F8 n z1 s2 l z4):=by
 refine EH (P:=fun l=>Ao tab 28 l→∀z1 (s2:ByteArray) (z4:Int),s2.size≤maxLen→0≤z4→z4≤40→WA (fun n=>UO n z1 s2 l z4) (fun n=>F8 n z1 s2 l z4)) (fun l ih h z1 s2 z4 hs h0 h40=>?_) l
 by_cases g:z4<1∨z1<1∨14<z1
 ·have e7:∀z12 b,Ev (fun n=>C6 n z1 l z4 z12 b) false:=by
   intro z12 b
   refine .succ ?_
   rcases g with g | g | g
   ·simp only[C6,if_neg (show ¬0<z4 by omega)];exact .ret
   ·simp only[C6,if_neg (show ¬1≤z1 by omega),ite_self];exact .ret
   ·simp only[C6,if_neg (show ¬z1≤14 by omega),ite_self];exact .ret
  refine⟨false,Rn hs (fun _=>e7 _ _) (fun _=>e7 _ _) (fun _ _=>e7 _ _),.succ ?_⟩
  have stop:Ev (fun n=>IG n z1 s2 l z4 true) false:=.succ (by simp only[IG,if_true];exact .ret)
  rcases g with g | g | g
  ·simp only[F8,if_pos g];exact stop
  ·simp only[F8,if_pos g,ite_self];exact stop
  ·simp only[F8,if_pos g,ite_self];exact stop
 ·have g4:¬z4<1:=fun x=>g (.inl x)
  have g1:¬z1<1:=fun x=>g (.inr (.inl x))
  have g14:¬14<z1:=fun x=>g (.inr (.inr x))
  have zero:∀b,Ev (fun n=>C6 n z1 l z4 0 b) (b&&decide (l.length=0)):=by
   intro b
   refine .succ ?_
   simp only[C6,if_pos (show 0<z4 by omega),if_pos (show 1≤z1 by omega),if_pos (show z1≤14 by omega),Ad]
   cases b
   ·simp only[Bool.false_eq_true,if_false,Bool.false_and];exact .ret
   ·by_cases e:l.length=0
    ·simp only[if_true,if_pos (show (l.length:Int)=0 by omega),decide_eq_true e,Bool.true_and]
     refine Ev.bO2 (a:=true) (b:=z4) ?_ .ret
     refine .succ (.succ ?_)
     simp only[Ye,Hm,Ad,if_neg (show ¬(0:Int)<(l.length:Int)by omega)]
     exact .succ (by simp only[Gy,Bool.false_eq_true,if_false,Ad,if_pos (show (l.length:Int)≤1 by omega)];exact .ret)
    ·simp only[if_true,if_neg (show ¬(l.length:Int)=0 by omega),decide_eq_false e,Bool.true_and];exact .ret
  by_cases hl:Hu z1
  ·have n4:z1≠4:=by rcases hl with h | h | h | h<;>omega
   exact⟨_,Rn hs (fun _=>zero _) (fun h=>absurd h n4) (fun h=>absurd hl h),JY hs g4 g1 g14 (fun _=>rfl) (fun h=>absurd h n4) (fun h=>absurd hl h)⟩
  by_cases h4:z1=4
  ·exact⟨_,Rn hs (fun h=>absurd h hl) (fun _=>zero _) (fun _ h=>absurd h4 h),JY hs g4 g1 g14 (fun h=>absurd h hl) (fun _=>rfl) (fun _ h=>absurd h4 h)⟩
  -- one child
  suffices H:∃r,Ev (fun n=>C6 n z1 l z4 1 (decide (s2=ByteArray.empty))) r∧Ev (fun n=>F2 n s2 l z4 false) r by
   obtain⟨r,q1,q2⟩:=H
   exact⟨r,Rn hs (fun h=>absurd h hl) (fun h=>absurd h h4) (fun _ _=>q1),JY hs g4 g1 g14 (fun h=>absurd h hl) (fun h=>absurd h h4) (fun _ _=>q2)⟩
  by_cases e:s2=ByteArray.empty
  ·by_cases e1:l.length=1
   ·obtain⟨x,hx,hm,hr⟩:=h.get (show 0<l.length by omega)
    obtain⟨a,s,l',rfl,_,hs',hl'⟩:=VN hr
    have w:IntKind.i64.wrap (z4 - 1)=z4 - 1:=IntWalk.i64_in _ (by omega)
    obtain⟨r,q1,q2⟩:=ih l' (CI (ag:=true) (sz:=3) hm (by simp)) hl' a s (z4 - 1) hs' (by omega) (by omega)
    have gx:∀{γ:Type} (k:D→Option γ),BT l (0:Int) k=k (.agg [.int .u8 a,.str s,.list true 3 l']):=fun k=>A0 (i:=0) hx
    refine⟨r,.succ ?_,.succ ?_⟩
    ·simp only[C6,if_pos (show 0<z4 by omega),if_pos (show 1≤z1 by omega),if_pos (show z1≤14 by omega),Ad,decide_eq_true e,if_true,if_pos (show (l.length:Int)=1 by omega)]
     refine Ev.bO2 (a:=r) (b:=z4) ?_ .ret
     refine .succ (.succ ?_)
     simp only[Ye,Hm,Ad,if_pos (show (0:Int)<(l.length:Int)by omega),if_pos (show (0:Int)<1 by omega)]
     refine .succ ?_
     simp only[Gy,if_true,gx,Cl]
     refine Ev.bO2 (a:=r) (b:=z4) (.succ ?_) ?_
     ·simp only[ZB,Al,w]
      exact Ev.bO1 q1 .ret
     ·simp only[Ak]
      cases r
      ·simp only[Bool.not_false,if_true];exact .ret
      ·have w1:IntKind.i64.wrap ((0:Int)+1)=1:=rfl
       simp only[Bool.not_true,Bool.false_eq_true,if_false,Al,w1]
       refine .succ ?_
       simp only[Hm,Ad,if_neg (show ¬(1:Int)<(l.length:Int)by omega)]
       exact .succ (by simp only[Gy,Bool.false_eq_true,if_false,Ad,if_pos (show (l.length:Int)≤1 by omega)];exact .ret)
    ·simp only[F2,Bool.false_eq_true,if_false,if_pos e,Ad,if_pos (show (l.length:Int)=1 by omega),gx,Cl,Al,w]
     exact Ev.bO1 q2 .ret
   ·refine⟨false,.succ ?_,.succ ?_⟩
    ·simp only[C6,if_neg (show ¬(l.length:Int)=1 by omega),Ad,ite_self];exact .ret
    ·simp only[F2,Bool.false_eq_true,if_false,if_pos e,Ad,if_neg (show ¬(l.length:Int)=1 by omega)];exact .ret
  ·refine⟨false,.succ ?_,.succ ?_⟩
   ·simp only[C6,decide_eq_false e,Bool.false_eq_true,if_false,ite_self];exact .ret
   ·simp only[F2,Bool.false_eq_true,if_false,if_neg e];exact .ret
end Go.Proofs.YtmggjbjpklecgaaGreatDoor
end
